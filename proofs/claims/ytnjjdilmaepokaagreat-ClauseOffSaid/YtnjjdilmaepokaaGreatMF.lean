/- The clusters that the statements make themselves.
   The statements' own functions: by, works (layer 8). Conditions: the cluster and the placement lie in memory.
   The row's last step, of a law that leaves a world of which Below is known. -/
import Derived.Test.YtnjjdilmaepokaaGreatME
import Derived.Test.YtnjjdilmaepokaaGreatRows
import Derived.Test.YtnjjdilmaepokaaGreatMA
import Derived.ProofKit
import Derived.OpenShut
import Derived.ChangeSame
set_option linter.unusedVariables false
set_option linter.unusedSimpArgs false
namespace Go.Proofs.YtnjjdilmaepokaaGreat
open Go.RowKit Go.Maps
def B (s : List UInt8) : ByteArray := ⟨s.toArray⟩
def zone : ByteArray := B [122, 111, 110, 101]
def noL : SL Label := ⟨none, 0, []⟩
def noT : SL Term := ⟨none, 0, []⟩
def noNear : Near := ⟨B [], noT⟩
def chapNode (nm : List UInt8) (ls : SL Label) : Node := ⟨B nm, ⟨15, 0, 0, 0, 0⟩, ls, noL, false, false⟩
def chapNs (b1 b2 : Nat) : List Node := [chapNode [97] ⟨some ⟨b1, 0, none⟩, 1, [⟨zone, B [120]⟩]⟩, chapNode [98] ⟨some ⟨b2, 0, none⟩, 1, [⟨zone, B [121]⟩]⟩, chapNode [99] noL]
def chapPod (nm : List UInt8) : Pod := ⟨B nm, B [111], ⟨10, 0, 0, 0, 0⟩, noL, noT, noL, noNear, noNear, B []⟩
def chapPs : List Pod := [chapPod [112], chapPod [113], chapPod [114]]
def chapO (m : Int) : Owner := ⟨B [111], m, zone, 1, false⟩
def chapS (m : Int) (bn b1 b2 bp cp bo : Nat) : Snap := ⟨⟨some ⟨bn, 0, none⟩, 3, chapNs b1 b2⟩, ⟨some ⟨bp, 0, none⟩, cp, chapPs⟩, ⟨some ⟨bo, 0, none⟩, 1, [chapO m]⟩⟩
/-- It lies in memory: each block. -/
structure ChapAt (m : Int) (base bn b1 b2 bp cp bo : Nat) (W : World) : Prop where
  n : Blk W bn 34 ((chapNs b1 b2).flatMap Node.enc).toArray
  l1 : Blk W b1 29 #[.string zone, .string (B [120])]
  l2 : Blk W b2 29 #[.string zone, .string (B [121])]
  o : Blk W bo 36 (chapO m).enc.toArray
  p : ∃ cur, Blk W bp 43 cur ∧ cur.size = cp * 15 ∧ cur.toList.take 45 = chapPs.flatMap Pod.enc
  cp : 3 ≤ cp ∧ cp ≤ maxLen
  hn : base ≤ bn
  h1 : base ≤ b1
  h2 : base ≤ b2
  hp : base ≤ bp
  ho : base ≤ bo
def Chap (m : Int) (w : World) (e : Ending) (W : World) : Prop := ∃ bn b1 b2 bp cp bo, e = .returned (chapS m bn b1 b2 bp cp bo).val ∧ ChapAt m w.heap.size bn b1 b2 bp cp bo W ∧ Below w.heap.size w W
theorem info_pod : (Tryz.prog.info? 43).map (fun i => (i.zero, i.size, i.bytes)) = some (some (.agg #[.string ⟨#[]⟩, .string ⟨#[]⟩, .int .i64 0, .int .i64 0, .int .i64 0, .int .i64 0, .int .i64 0, .slice none 0 0, .slice none 0 0, .slice none 0 0, .string ⟨#[]⟩, .slice none 0 0, .string ⟨#[]⟩, .slice none 0 0, .string ⟨#[]⟩]), 15, 240) := by kernel_rfl
set_option maxRecDepth 100000 in
set_option maxHeartbeats 4000000 in
theorem chapter08_ok (w : World) : Calls Tryz.prog 9 #[] w (Chap 3 w) := by
  obtain ⟨i0, hi, hz0, hz1, hz2⟩ := info_parts info_pod
  have Hi := hide hi
  have Hz0 := hide hz0
  have Hz1 := hide hz1
  have Hz2 := hide hz2
  clear hi hz0 hz1 hz2
  go_enter Tryz.func9, Tryz.ntmps9
  go_wp2_with fail
  go_loopg [3] 3 (fun gg s3 wr => ∃ kk : Nat, kk ≤ 3 ∧ 3 - kk ≤ gg ∧ s3 = .int .i64 kk ∧ Hid (∃ u, Below w.heap.size w wr ∧ (w.heap.size + 1 + 1 + 1 + 1 + 1 + 1 + 1) ≤ wr.heap.size ∧ Blk wr (w.heap.size + 1 + 1 + 1 + 1) 34 ((chapNs (w.heap.size + 1 + 1) (w.heap.size + 1 + 1 + 1)).flatMap Node.enc).toArray ∧ Blk wr (w.heap.size + 1 + 1) 29 #[.string zone, .string (B [120])] ∧ Blk wr (w.heap.size + 1 + 1 + 1) 29 #[.string zone, .string (B [121])] ∧ Blk wr (w.heap.size + 1 + 1 + 1 + 1 + 1) 36 (chapO 3).enc.toArray ∧
      Blk wr (w.heap.size + 1 + 1 + 1 + 1 + 1 + 1) 26 #[.slice (some ⟨(w.heap.size + 1 + 1 + 1 + 1), 0, none⟩) 3 3, u, .slice (some ⟨(w.heap.size + 1 + 1 + 1 + 1 + 1), 0, none⟩) 1 1] ∧ Blk wr w.heap.size 26 #[.slice none 0 0, .slice none 0 0, .slice none 0 0] ∧ wr.ownsRow (w.heap.size + 1 + 1 + 1 + 1 + 1 + 1 + 1) 43 15 u kk ((chapPs.take kk).flatMap Pod.enc)))
  case atStart =>
    exact ⟨0, Nat.zero_le _, by omega, rfl, .slice none 0 0, (by repeat' (first | exact Below.refl _ _ | assumption | refine b_gr ?_ _ | refine b_alloc ?_ _ | refine b_drew ?_)), by simp, by repeat' (first | exact Blk.at_ _ _ _ _ (by simp) | apply Blk.alloc), by repeat' (first | exact Blk.at_ _ _ _ _ (by simp) | apply Blk.alloc), by repeat' (first | exact Blk.at_ _ _ _ _ (by simp) | apply Blk.alloc), by repeat' (first | exact Blk.at_ _ _ _ _ (by simp) | apply Blk.alloc), by repeat' (first | exact Blk.at_ _ _ _ _ (by simp) | apply Blk.alloc), by repeat' (first | exact Blk.new _ _ _ | apply Blk.alloc), World.ownsRow_nil _ _ _ _⟩
  case round =>
    obtain ⟨kk, hkk, hg, rfl, ⟨u, hB, hsz, hN, h1, h2, hO, hS, hR, hown⟩⟩ := hrel
    have hne : ∀ b, u.ownBlock = some b → (w.heap.size + 1 + 1 + 1 + 1 + 1 + 1 + 1) ≤ b := own_ge hown
    have s0 := hS.cell 0
    have s1 := hS.cell 1
    have s2 := hS.cell 2
    have f1 := hS.frozen 1
    have iS := hS.ltb
    simp at s0 s1 s2
    have HB := hide hB
    have HN := hide hN
    have H1 := hide h1
    have H2 := hide h2
    have HO := hide hO
    have HS := hide hS
    have HR := hide hR
    have Hne := hide hne
    have Hown := hide hown
    clear hB hN h1 h2 hO hS hne hown
    obtain rfl | rfl | rfl | rfl : kk = 0 ∨ kk = 1 ∨ kk = 2 ∨ kk = 3 := by omega
    · clear hR
      have Hm := hide (show chapPs.take (0 + 1) = chapPs.take 0 ++ [chapPod [112]] from rfl)
      have qw : IntKind.i64.wrap 1 = 1 := by decide
      go_wp2_with fail
      go_region_law
        (refine step_append_lies _ (by rfl) _ _ _ (by rfl) (w.heap.size + 1 + 1 + 1 + 1 + 1 + 1 + 1) 43 i0 _ 15 240 Tryz.underlying23 Hi.out Hz0.out Hz1.out Hz2.out rfl (by omega) u 0 _ (by rfl) (own_below (own_drew Hown.out) (b_alloc (Below.refl _ _) _)) ⟨_, 0, none⟩ 1 1 (Pod.enc (chapPod [112])) (by rfl) (by rfl) (cells_new _ _ _) (by simp [Value.oneCell', Pod.enc, chapPod, noL, noT, noNear]) (by omega) (by simp only [maxLen]; omega) (by omega) (by have h := hsz; simp; omega) _ rfl ?_; intro gg cap w3 hown' hgrow hat hglt; have hfz : w3.frozen? ⟨(w.heap.size + 1 + 1 + 1 + 1 + 1 + 1), 1, none⟩ = false := (World.frozen?_of_block (a := ⟨(w.heap.size + 1 + 1 + 1 + 1 + 1 + 1), 1, none⟩) (hgrow.block (w.heap.size + 1 + 1 + 1 + 1 + 1 + 1) (by have h := hsz; simp; omega) (fun e => by have := Hne.out _ e.symm; omega))).trans ((HS.out.drew.alloc _).frozen 1); have hcz : w3.cell? ⟨(w.heap.size + 1 + 1 + 1 + 1 + 1 + 1), 1, none⟩ = some u := (World.cell?_of_block (a := ⟨(w.heap.size + 1 + 1 + 1 + 1 + 1 + 1), 1, none⟩) (hgrow.block (w.heap.size + 1 + 1 + 1 + 1 + 1 + 1) (by have h := hsz; simp; omega) (fun e => by have := Hne.out _ e.symm; omega))).trans ((HS.out.drew.alloc _).cell 1))
      all_goals
        go_wp2_with fail
        go_roundg (3 - (0 + 1))
        case measure => omega
        case rel =>
          have hk : ∀ {g : Nat} {t : TypeId} {cs : Array Value}, Blk wr g t cs → g < (w.heap.size + 1 + 1 + 1 + 1 + 1 + 1 + 1) → g ≠ (w.heap.size + 1 + 1 + 1 + 1 + 1 + 1) → Blk (w3.setCell ⟨(w.heap.size + 1 + 1 + 1 + 1 + 1 + 1), 1, none⟩ (.slice (some ⟨gg, 0, none⟩) (0 + 1) cap)) g t cs :=
            fun h hl hn => ((h.alloc _).drew.kept hgrow (fun k hk e => by have := Hne.out k hk; omega)).far (p := ⟨(w.heap.size + 1 + 1 + 1 + 1 + 1 + 1), 1, none⟩) hn _
          have h6 := ((HS.out.alloc _).drew.kept hgrow (fun k hk e => by have := Hne.out k hk; omega)).set_ 1 (.slice (some ⟨gg, 0, none⟩) (0 + 1) cap)
          have hbl : Below w.heap.size w w3 := grown_below (b_drew (b_alloc HB.out _)) hgrow (fun k hk => by have := Hne.out k hk; omega)
          exact ⟨0 + 1, by omega, by omega, by go_num, .slice (some ⟨gg, 0, none⟩) (0 + 1) cap, b_set hbl (by simp only; omega) _, by rw [show (w3.setCell ⟨(w.heap.size + 1 + 1 + 1 + 1 + 1 + 1), 1, none⟩ (.slice (some ⟨gg, 0, none⟩) (0 + 1) cap)).heap.size = w3.heap.size by simp [World.setCell]]; exact Nat.le_trans hsz (Nat.le_trans (by simp) hgrow.size),
            hk HN.out (by omega) (by omega), hk H1.out (by omega) (by omega), hk H2.out (by omega) (by omega), hk HO.out (by omega) (by omega), by simpa using h6, hk HR.out (by omega) (by omega), by rw [Hm.out, flat_snoc]; exact own_set hown' (by simp) _⟩
    · clear hR
      have Hm := hide (show chapPs.take (1 + 1) = chapPs.take 1 ++ [chapPod [113]] from rfl)
      have qw : IntKind.i64.wrap 2 = 2 := by decide
      go_wp2_with fail
      go_region_law
        (refine step_append_lies _ (by rfl) _ _ _ (by rfl) (w.heap.size + 1 + 1 + 1 + 1 + 1 + 1 + 1) 43 i0 _ 15 240 Tryz.underlying23 Hi.out Hz0.out Hz1.out Hz2.out rfl (by omega) u 1 _ (by rfl) (own_below (own_drew Hown.out) (b_alloc (Below.refl _ _) _)) ⟨_, 0, none⟩ 1 1 (Pod.enc (chapPod [113])) (by rfl) (by rfl) (cells_new _ _ _) (by simp [Value.oneCell', Pod.enc, chapPod, noL, noT, noNear]) (by omega) (by simp only [maxLen]; omega) (by omega) (by have h := hsz; simp; omega) _ rfl ?_; intro gg cap w3 hown' hgrow hat hglt; have hfz : w3.frozen? ⟨(w.heap.size + 1 + 1 + 1 + 1 + 1 + 1), 1, none⟩ = false := (World.frozen?_of_block (a := ⟨(w.heap.size + 1 + 1 + 1 + 1 + 1 + 1), 1, none⟩) (hgrow.block (w.heap.size + 1 + 1 + 1 + 1 + 1 + 1) (by have h := hsz; simp; omega) (fun e => by have := Hne.out _ e.symm; omega))).trans ((HS.out.drew.alloc _).frozen 1); have hcz : w3.cell? ⟨(w.heap.size + 1 + 1 + 1 + 1 + 1 + 1), 1, none⟩ = some u := (World.cell?_of_block (a := ⟨(w.heap.size + 1 + 1 + 1 + 1 + 1 + 1), 1, none⟩) (hgrow.block (w.heap.size + 1 + 1 + 1 + 1 + 1 + 1) (by have h := hsz; simp; omega) (fun e => by have := Hne.out _ e.symm; omega))).trans ((HS.out.drew.alloc _).cell 1))
      all_goals
        go_wp2_with fail
        go_roundg (3 - (1 + 1))
        case measure => omega
        case rel =>
          have hk : ∀ {g : Nat} {t : TypeId} {cs : Array Value}, Blk wr g t cs → g < (w.heap.size + 1 + 1 + 1 + 1 + 1 + 1 + 1) → g ≠ (w.heap.size + 1 + 1 + 1 + 1 + 1 + 1) → Blk (w3.setCell ⟨(w.heap.size + 1 + 1 + 1 + 1 + 1 + 1), 1, none⟩ (.slice (some ⟨gg, 0, none⟩) (1 + 1) cap)) g t cs :=
            fun h hl hn => ((h.alloc _).drew.kept hgrow (fun k hk e => by have := Hne.out k hk; omega)).far (p := ⟨(w.heap.size + 1 + 1 + 1 + 1 + 1 + 1), 1, none⟩) hn _
          have h6 := ((HS.out.alloc _).drew.kept hgrow (fun k hk e => by have := Hne.out k hk; omega)).set_ 1 (.slice (some ⟨gg, 0, none⟩) (1 + 1) cap)
          have hbl : Below w.heap.size w w3 := grown_below (b_drew (b_alloc HB.out _)) hgrow (fun k hk => by have := Hne.out k hk; omega)
          exact ⟨1 + 1, by omega, by omega, by go_num, .slice (some ⟨gg, 0, none⟩) (1 + 1) cap, b_set hbl (by simp only; omega) _, by rw [show (w3.setCell ⟨(w.heap.size + 1 + 1 + 1 + 1 + 1 + 1), 1, none⟩ (.slice (some ⟨gg, 0, none⟩) (1 + 1) cap)).heap.size = w3.heap.size by simp [World.setCell]]; exact Nat.le_trans hsz (Nat.le_trans (by simp) hgrow.size),
            hk HN.out (by omega) (by omega), hk H1.out (by omega) (by omega), hk H2.out (by omega) (by omega), hk HO.out (by omega) (by omega), by simpa using h6, hk HR.out (by omega) (by omega), by rw [Hm.out, flat_snoc]; exact own_set hown' (by simp) _⟩
    · clear hR
      have Hm := hide (show chapPs.take (2 + 1) = chapPs.take 2 ++ [chapPod [114]] from rfl)
      have qw : IntKind.i64.wrap 3 = 3 := by decide
      go_wp2_with fail
      go_region_law
        (refine step_append_lies _ (by rfl) _ _ _ (by rfl) (w.heap.size + 1 + 1 + 1 + 1 + 1 + 1 + 1) 43 i0 _ 15 240 Tryz.underlying23 Hi.out Hz0.out Hz1.out Hz2.out rfl (by omega) u 2 _ (by rfl) (own_below (own_drew Hown.out) (b_alloc (Below.refl _ _) _)) ⟨_, 0, none⟩ 1 1 (Pod.enc (chapPod [114])) (by rfl) (by rfl) (cells_new _ _ _) (by simp [Value.oneCell', Pod.enc, chapPod, noL, noT, noNear]) (by omega) (by simp only [maxLen]; omega) (by omega) (by have h := hsz; simp; omega) _ rfl ?_; intro gg cap w3 hown' hgrow hat hglt; have hfz : w3.frozen? ⟨(w.heap.size + 1 + 1 + 1 + 1 + 1 + 1), 1, none⟩ = false := (World.frozen?_of_block (a := ⟨(w.heap.size + 1 + 1 + 1 + 1 + 1 + 1), 1, none⟩) (hgrow.block (w.heap.size + 1 + 1 + 1 + 1 + 1 + 1) (by have h := hsz; simp; omega) (fun e => by have := Hne.out _ e.symm; omega))).trans ((HS.out.drew.alloc _).frozen 1); have hcz : w3.cell? ⟨(w.heap.size + 1 + 1 + 1 + 1 + 1 + 1), 1, none⟩ = some u := (World.cell?_of_block (a := ⟨(w.heap.size + 1 + 1 + 1 + 1 + 1 + 1), 1, none⟩) (hgrow.block (w.heap.size + 1 + 1 + 1 + 1 + 1 + 1) (by have h := hsz; simp; omega) (fun e => by have := Hne.out _ e.symm; omega))).trans ((HS.out.drew.alloc _).cell 1))
      all_goals
        go_wp2_with fail
        go_roundg (3 - (2 + 1))
        case measure => omega
        case rel =>
          have hk : ∀ {g : Nat} {t : TypeId} {cs : Array Value}, Blk wr g t cs → g < (w.heap.size + 1 + 1 + 1 + 1 + 1 + 1 + 1) → g ≠ (w.heap.size + 1 + 1 + 1 + 1 + 1 + 1) → Blk (w3.setCell ⟨(w.heap.size + 1 + 1 + 1 + 1 + 1 + 1), 1, none⟩ (.slice (some ⟨gg, 0, none⟩) (2 + 1) cap)) g t cs :=
            fun h hl hn => ((h.alloc _).drew.kept hgrow (fun k hk e => by have := Hne.out k hk; omega)).far (p := ⟨(w.heap.size + 1 + 1 + 1 + 1 + 1 + 1), 1, none⟩) hn _
          have h6 := ((HS.out.alloc _).drew.kept hgrow (fun k hk e => by have := Hne.out k hk; omega)).set_ 1 (.slice (some ⟨gg, 0, none⟩) (2 + 1) cap)
          have hbl : Below w.heap.size w w3 := grown_below (b_drew (b_alloc HB.out _)) hgrow (fun k hk => by have := Hne.out k hk; omega)
          exact ⟨2 + 1, by omega, by omega, by go_num, .slice (some ⟨gg, 0, none⟩) (2 + 1) cap, b_set hbl (by simp only; omega) _, by rw [show (w3.setCell ⟨(w.heap.size + 1 + 1 + 1 + 1 + 1 + 1), 1, none⟩ (.slice (some ⟨gg, 0, none⟩) (2 + 1) cap)).heap.size = w3.heap.size by simp [World.setCell]]; exact Nat.le_trans hsz (Nat.le_trans (by simp) hgrow.size),
            hk HN.out (by omega) (by omega), hk H1.out (by omega) (by omega), hk H2.out (by omega) (by omega), hk HO.out (by omega) (by omega), by simpa using h6, hk HR.out (by omega) (by omega), by rw [Hm.out, flat_snoc]; exact own_set hown' (by simp) _⟩
    · have r0 := HR.out.cell 0
      have r1 := HR.out.cell 1
      have r2 := HR.out.cell 2
      have q0 := HR.out.frozen 0
      have q1 := HR.out.frozen 1
      have q2 := HR.out.frozen 2
      have iR := HR.out.ltb
      simp at r0 r1 r2
      obtain ⟨hl, h0 | ⟨bp, cp, cur, rfl, hbp, hcur, hcp, hcm, hcs, hct⟩⟩ := Hown.out
      · omega
      · go_wp2_with fail
        have hk : ∀ {g : Nat} {t : TypeId} {cs : Array Value} (a b c : Value), Blk wr g t cs → g ≠ w.heap.size → Blk (((wr.setCell ⟨w.heap.size, 0, none⟩ a).setCell ⟨w.heap.size, 1, none⟩ b).setCell ⟨w.heap.size, 2, none⟩ c) g t cs :=
          fun a b c h hn => ((h.far (p := ⟨w.heap.size, 0, none⟩) hn a).far (p := ⟨w.heap.size, 1, none⟩) hn b).far (p := ⟨w.heap.size, 2, none⟩) hn c
        have hR3 := ((HR.out.set_ 0 (.slice (some ⟨(w.heap.size + 1 + 1 + 1 + 1), 0, none⟩) 3 3)).set_ 1 (.slice (some ⟨bp, 0, none⟩) 3 cp)).set_ 2 (.slice (some ⟨(w.heap.size + 1 + 1 + 1 + 1 + 1), 0, none⟩) 1 1)
        have z0 := hR3.cell 0
        have z1 := hR3.cell 1
        have z2 := hR3.cell 2
        simp at z0 z1 z2
        refine bodyPost_end (v := .agg #[.slice (some ⟨(w.heap.size + 1 + 1 + 1 + 1), 0, none⟩) 3 3, .slice (some ⟨bp, 0, none⟩) 3 cp, .slice (some ⟨(w.heap.size + 1 + 1 + 1 + 1 + 1), 0, none⟩) 1 1]) (by simp [results, Tryz.results9, go_sem, z0, z1, z2]) rfl ?_
        exact ⟨(w.heap.size + 1 + 1 + 1 + 1), (w.heap.size + 1 + 1), (w.heap.size + 1 + 1 + 1), bp, cp, (w.heap.size + 1 + 1 + 1 + 1 + 1), rfl, ⟨hk _ _ _ HN.out (by omega), hk _ _ _ H1.out (by omega), hk _ _ _ H2.out (by omega), hk _ _ _ HO.out (by omega), ⟨cur, hk _ _ _ hcur (by omega), hcs, hct⟩, ⟨hcp, hcm⟩, by omega, by omega, by omega, by omega, by omega⟩, b_set (b_set (b_set HB.out (by simp) _) (by simp) _) (by simp) _⟩
set_option maxRecDepth 100000 in
set_option maxHeartbeats 4000000 in
theorem chapter10_ok (w : World) : Calls Tryz.prog 26 #[] w (Chap 1 w) := by
  obtain ⟨i0, hi, hz0, hz1, hz2⟩ := info_parts info_pod
  have Hi := hide hi
  have Hz0 := hide hz0
  have Hz1 := hide hz1
  have Hz2 := hide hz2
  clear hi hz0 hz1 hz2
  go_enter Tryz.func26, Tryz.ntmps26
  go_wp2_with fail
  go_loopg [3] 3 (fun gg s3 wr => ∃ kk : Nat, kk ≤ 3 ∧ 3 - kk ≤ gg ∧ s3 = .int .i64 kk ∧ Hid (∃ u, Below w.heap.size w wr ∧ (w.heap.size + 1 + 1 + 1 + 1 + 1 + 1 + 1) ≤ wr.heap.size ∧ Blk wr (w.heap.size + 1 + 1 + 1 + 1) 34 ((chapNs (w.heap.size + 1 + 1) (w.heap.size + 1 + 1 + 1)).flatMap Node.enc).toArray ∧ Blk wr (w.heap.size + 1 + 1) 29 #[.string zone, .string (B [120])] ∧ Blk wr (w.heap.size + 1 + 1 + 1) 29 #[.string zone, .string (B [121])] ∧ Blk wr (w.heap.size + 1 + 1 + 1 + 1 + 1) 36 (chapO 1).enc.toArray ∧
      Blk wr (w.heap.size + 1 + 1 + 1 + 1 + 1 + 1) 26 #[.slice (some ⟨(w.heap.size + 1 + 1 + 1 + 1), 0, none⟩) 3 3, u, .slice (some ⟨(w.heap.size + 1 + 1 + 1 + 1 + 1), 0, none⟩) 1 1] ∧ Blk wr w.heap.size 26 #[.slice none 0 0, .slice none 0 0, .slice none 0 0] ∧ wr.ownsRow (w.heap.size + 1 + 1 + 1 + 1 + 1 + 1 + 1) 43 15 u kk ((chapPs.take kk).flatMap Pod.enc)))
  case atStart =>
    exact ⟨0, Nat.zero_le _, by omega, rfl, .slice none 0 0, (by repeat' (first | exact Below.refl _ _ | assumption | refine b_gr ?_ _ | refine b_alloc ?_ _ | refine b_drew ?_)), by simp, by repeat' (first | exact Blk.at_ _ _ _ _ (by simp) | apply Blk.alloc), by repeat' (first | exact Blk.at_ _ _ _ _ (by simp) | apply Blk.alloc), by repeat' (first | exact Blk.at_ _ _ _ _ (by simp) | apply Blk.alloc), by repeat' (first | exact Blk.at_ _ _ _ _ (by simp) | apply Blk.alloc), by repeat' (first | exact Blk.at_ _ _ _ _ (by simp) | apply Blk.alloc), by repeat' (first | exact Blk.new _ _ _ | apply Blk.alloc), World.ownsRow_nil _ _ _ _⟩
  case round =>
    obtain ⟨kk, hkk, hg, rfl, ⟨u, hB, hsz, hN, h1, h2, hO, hS, hR, hown⟩⟩ := hrel
    have hne : ∀ b, u.ownBlock = some b → (w.heap.size + 1 + 1 + 1 + 1 + 1 + 1 + 1) ≤ b := own_ge hown
    have s0 := hS.cell 0
    have s1 := hS.cell 1
    have s2 := hS.cell 2
    have f1 := hS.frozen 1
    have iS := hS.ltb
    simp at s0 s1 s2
    have HB := hide hB
    have HN := hide hN
    have H1 := hide h1
    have H2 := hide h2
    have HO := hide hO
    have HS := hide hS
    have HR := hide hR
    have Hne := hide hne
    have Hown := hide hown
    clear hB hN h1 h2 hO hS hne hown
    obtain rfl | rfl | rfl | rfl : kk = 0 ∨ kk = 1 ∨ kk = 2 ∨ kk = 3 := by omega
    · clear hR
      have Hm := hide (show chapPs.take (0 + 1) = chapPs.take 0 ++ [chapPod [112]] from rfl)
      have qw : IntKind.i64.wrap 1 = 1 := by decide
      go_wp2_with fail
      go_region_law
        (refine step_append_lies _ (by rfl) _ _ _ (by rfl) (w.heap.size + 1 + 1 + 1 + 1 + 1 + 1 + 1) 43 i0 _ 15 240 Tryz.underlying23 Hi.out Hz0.out Hz1.out Hz2.out rfl (by omega) u 0 _ (by rfl) (own_below (own_drew Hown.out) (b_alloc (Below.refl _ _) _)) ⟨_, 0, none⟩ 1 1 (Pod.enc (chapPod [112])) (by rfl) (by rfl) (cells_new _ _ _) (by simp [Value.oneCell', Pod.enc, chapPod, noL, noT, noNear]) (by omega) (by simp only [maxLen]; omega) (by omega) (by have h := hsz; simp; omega) _ rfl ?_; intro gg cap w3 hown' hgrow hat hglt; have hfz : w3.frozen? ⟨(w.heap.size + 1 + 1 + 1 + 1 + 1 + 1), 1, none⟩ = false := (World.frozen?_of_block (a := ⟨(w.heap.size + 1 + 1 + 1 + 1 + 1 + 1), 1, none⟩) (hgrow.block (w.heap.size + 1 + 1 + 1 + 1 + 1 + 1) (by have h := hsz; simp; omega) (fun e => by have := Hne.out _ e.symm; omega))).trans ((HS.out.drew.alloc _).frozen 1); have hcz : w3.cell? ⟨(w.heap.size + 1 + 1 + 1 + 1 + 1 + 1), 1, none⟩ = some u := (World.cell?_of_block (a := ⟨(w.heap.size + 1 + 1 + 1 + 1 + 1 + 1), 1, none⟩) (hgrow.block (w.heap.size + 1 + 1 + 1 + 1 + 1 + 1) (by have h := hsz; simp; omega) (fun e => by have := Hne.out _ e.symm; omega))).trans ((HS.out.drew.alloc _).cell 1))
      all_goals
        go_wp2_with fail
        go_roundg (3 - (0 + 1))
        case measure => omega
        case rel =>
          have hk : ∀ {g : Nat} {t : TypeId} {cs : Array Value}, Blk wr g t cs → g < (w.heap.size + 1 + 1 + 1 + 1 + 1 + 1 + 1) → g ≠ (w.heap.size + 1 + 1 + 1 + 1 + 1 + 1) → Blk (w3.setCell ⟨(w.heap.size + 1 + 1 + 1 + 1 + 1 + 1), 1, none⟩ (.slice (some ⟨gg, 0, none⟩) (0 + 1) cap)) g t cs :=
            fun h hl hn => ((h.alloc _).drew.kept hgrow (fun k hk e => by have := Hne.out k hk; omega)).far (p := ⟨(w.heap.size + 1 + 1 + 1 + 1 + 1 + 1), 1, none⟩) hn _
          have h6 := ((HS.out.alloc _).drew.kept hgrow (fun k hk e => by have := Hne.out k hk; omega)).set_ 1 (.slice (some ⟨gg, 0, none⟩) (0 + 1) cap)
          have hbl : Below w.heap.size w w3 := grown_below (b_drew (b_alloc HB.out _)) hgrow (fun k hk => by have := Hne.out k hk; omega)
          exact ⟨0 + 1, by omega, by omega, by go_num, .slice (some ⟨gg, 0, none⟩) (0 + 1) cap, b_set hbl (by simp only; omega) _, by rw [show (w3.setCell ⟨(w.heap.size + 1 + 1 + 1 + 1 + 1 + 1), 1, none⟩ (.slice (some ⟨gg, 0, none⟩) (0 + 1) cap)).heap.size = w3.heap.size by simp [World.setCell]]; exact Nat.le_trans hsz (Nat.le_trans (by simp) hgrow.size),
            hk HN.out (by omega) (by omega), hk H1.out (by omega) (by omega), hk H2.out (by omega) (by omega), hk HO.out (by omega) (by omega), by simpa using h6, hk HR.out (by omega) (by omega), by rw [Hm.out, flat_snoc]; exact own_set hown' (by simp) _⟩
    · clear hR
      have Hm := hide (show chapPs.take (1 + 1) = chapPs.take 1 ++ [chapPod [113]] from rfl)
      have qw : IntKind.i64.wrap 2 = 2 := by decide
      go_wp2_with fail
      go_region_law
        (refine step_append_lies _ (by rfl) _ _ _ (by rfl) (w.heap.size + 1 + 1 + 1 + 1 + 1 + 1 + 1) 43 i0 _ 15 240 Tryz.underlying23 Hi.out Hz0.out Hz1.out Hz2.out rfl (by omega) u 1 _ (by rfl) (own_below (own_drew Hown.out) (b_alloc (Below.refl _ _) _)) ⟨_, 0, none⟩ 1 1 (Pod.enc (chapPod [113])) (by rfl) (by rfl) (cells_new _ _ _) (by simp [Value.oneCell', Pod.enc, chapPod, noL, noT, noNear]) (by omega) (by simp only [maxLen]; omega) (by omega) (by have h := hsz; simp; omega) _ rfl ?_; intro gg cap w3 hown' hgrow hat hglt; have hfz : w3.frozen? ⟨(w.heap.size + 1 + 1 + 1 + 1 + 1 + 1), 1, none⟩ = false := (World.frozen?_of_block (a := ⟨(w.heap.size + 1 + 1 + 1 + 1 + 1 + 1), 1, none⟩) (hgrow.block (w.heap.size + 1 + 1 + 1 + 1 + 1 + 1) (by have h := hsz; simp; omega) (fun e => by have := Hne.out _ e.symm; omega))).trans ((HS.out.drew.alloc _).frozen 1); have hcz : w3.cell? ⟨(w.heap.size + 1 + 1 + 1 + 1 + 1 + 1), 1, none⟩ = some u := (World.cell?_of_block (a := ⟨(w.heap.size + 1 + 1 + 1 + 1 + 1 + 1), 1, none⟩) (hgrow.block (w.heap.size + 1 + 1 + 1 + 1 + 1 + 1) (by have h := hsz; simp; omega) (fun e => by have := Hne.out _ e.symm; omega))).trans ((HS.out.drew.alloc _).cell 1))
      all_goals
        go_wp2_with fail
        go_roundg (3 - (1 + 1))
        case measure => omega
        case rel =>
          have hk : ∀ {g : Nat} {t : TypeId} {cs : Array Value}, Blk wr g t cs → g < (w.heap.size + 1 + 1 + 1 + 1 + 1 + 1 + 1) → g ≠ (w.heap.size + 1 + 1 + 1 + 1 + 1 + 1) → Blk (w3.setCell ⟨(w.heap.size + 1 + 1 + 1 + 1 + 1 + 1), 1, none⟩ (.slice (some ⟨gg, 0, none⟩) (1 + 1) cap)) g t cs :=
            fun h hl hn => ((h.alloc _).drew.kept hgrow (fun k hk e => by have := Hne.out k hk; omega)).far (p := ⟨(w.heap.size + 1 + 1 + 1 + 1 + 1 + 1), 1, none⟩) hn _
          have h6 := ((HS.out.alloc _).drew.kept hgrow (fun k hk e => by have := Hne.out k hk; omega)).set_ 1 (.slice (some ⟨gg, 0, none⟩) (1 + 1) cap)
          have hbl : Below w.heap.size w w3 := grown_below (b_drew (b_alloc HB.out _)) hgrow (fun k hk => by have := Hne.out k hk; omega)
          exact ⟨1 + 1, by omega, by omega, by go_num, .slice (some ⟨gg, 0, none⟩) (1 + 1) cap, b_set hbl (by simp only; omega) _, by rw [show (w3.setCell ⟨(w.heap.size + 1 + 1 + 1 + 1 + 1 + 1), 1, none⟩ (.slice (some ⟨gg, 0, none⟩) (1 + 1) cap)).heap.size = w3.heap.size by simp [World.setCell]]; exact Nat.le_trans hsz (Nat.le_trans (by simp) hgrow.size),
            hk HN.out (by omega) (by omega), hk H1.out (by omega) (by omega), hk H2.out (by omega) (by omega), hk HO.out (by omega) (by omega), by simpa using h6, hk HR.out (by omega) (by omega), by rw [Hm.out, flat_snoc]; exact own_set hown' (by simp) _⟩
    · clear hR
      have Hm := hide (show chapPs.take (2 + 1) = chapPs.take 2 ++ [chapPod [114]] from rfl)
      have qw : IntKind.i64.wrap 3 = 3 := by decide
      go_wp2_with fail
      go_region_law
        (refine step_append_lies _ (by rfl) _ _ _ (by rfl) (w.heap.size + 1 + 1 + 1 + 1 + 1 + 1 + 1) 43 i0 _ 15 240 Tryz.underlying23 Hi.out Hz0.out Hz1.out Hz2.out rfl (by omega) u 2 _ (by rfl) (own_below (own_drew Hown.out) (b_alloc (Below.refl _ _) _)) ⟨_, 0, none⟩ 1 1 (Pod.enc (chapPod [114])) (by rfl) (by rfl) (cells_new _ _ _) (by simp [Value.oneCell', Pod.enc, chapPod, noL, noT, noNear]) (by omega) (by simp only [maxLen]; omega) (by omega) (by have h := hsz; simp; omega) _ rfl ?_; intro gg cap w3 hown' hgrow hat hglt; have hfz : w3.frozen? ⟨(w.heap.size + 1 + 1 + 1 + 1 + 1 + 1), 1, none⟩ = false := (World.frozen?_of_block (a := ⟨(w.heap.size + 1 + 1 + 1 + 1 + 1 + 1), 1, none⟩) (hgrow.block (w.heap.size + 1 + 1 + 1 + 1 + 1 + 1) (by have h := hsz; simp; omega) (fun e => by have := Hne.out _ e.symm; omega))).trans ((HS.out.drew.alloc _).frozen 1); have hcz : w3.cell? ⟨(w.heap.size + 1 + 1 + 1 + 1 + 1 + 1), 1, none⟩ = some u := (World.cell?_of_block (a := ⟨(w.heap.size + 1 + 1 + 1 + 1 + 1 + 1), 1, none⟩) (hgrow.block (w.heap.size + 1 + 1 + 1 + 1 + 1 + 1) (by have h := hsz; simp; omega) (fun e => by have := Hne.out _ e.symm; omega))).trans ((HS.out.drew.alloc _).cell 1))
      all_goals
        go_wp2_with fail
        go_roundg (3 - (2 + 1))
        case measure => omega
        case rel =>
          have hk : ∀ {g : Nat} {t : TypeId} {cs : Array Value}, Blk wr g t cs → g < (w.heap.size + 1 + 1 + 1 + 1 + 1 + 1 + 1) → g ≠ (w.heap.size + 1 + 1 + 1 + 1 + 1 + 1) → Blk (w3.setCell ⟨(w.heap.size + 1 + 1 + 1 + 1 + 1 + 1), 1, none⟩ (.slice (some ⟨gg, 0, none⟩) (2 + 1) cap)) g t cs :=
            fun h hl hn => ((h.alloc _).drew.kept hgrow (fun k hk e => by have := Hne.out k hk; omega)).far (p := ⟨(w.heap.size + 1 + 1 + 1 + 1 + 1 + 1), 1, none⟩) hn _
          have h6 := ((HS.out.alloc _).drew.kept hgrow (fun k hk e => by have := Hne.out k hk; omega)).set_ 1 (.slice (some ⟨gg, 0, none⟩) (2 + 1) cap)
          have hbl : Below w.heap.size w w3 := grown_below (b_drew (b_alloc HB.out _)) hgrow (fun k hk => by have := Hne.out k hk; omega)
          exact ⟨2 + 1, by omega, by omega, by go_num, .slice (some ⟨gg, 0, none⟩) (2 + 1) cap, b_set hbl (by simp only; omega) _, by rw [show (w3.setCell ⟨(w.heap.size + 1 + 1 + 1 + 1 + 1 + 1), 1, none⟩ (.slice (some ⟨gg, 0, none⟩) (2 + 1) cap)).heap.size = w3.heap.size by simp [World.setCell]]; exact Nat.le_trans hsz (Nat.le_trans (by simp) hgrow.size),
            hk HN.out (by omega) (by omega), hk H1.out (by omega) (by omega), hk H2.out (by omega) (by omega), hk HO.out (by omega) (by omega), by simpa using h6, hk HR.out (by omega) (by omega), by rw [Hm.out, flat_snoc]; exact own_set hown' (by simp) _⟩
    · have r0 := HR.out.cell 0
      have r1 := HR.out.cell 1
      have r2 := HR.out.cell 2
      have q0 := HR.out.frozen 0
      have q1 := HR.out.frozen 1
      have q2 := HR.out.frozen 2
      have iR := HR.out.ltb
      simp at r0 r1 r2
      obtain ⟨hl, h0 | ⟨bp, cp, cur, rfl, hbp, hcur, hcp, hcm, hcs, hct⟩⟩ := Hown.out
      · omega
      · go_wp2_with fail
        have hk : ∀ {g : Nat} {t : TypeId} {cs : Array Value} (a b c : Value), Blk wr g t cs → g ≠ w.heap.size → Blk (((wr.setCell ⟨w.heap.size, 0, none⟩ a).setCell ⟨w.heap.size, 1, none⟩ b).setCell ⟨w.heap.size, 2, none⟩ c) g t cs :=
          fun a b c h hn => ((h.far (p := ⟨w.heap.size, 0, none⟩) hn a).far (p := ⟨w.heap.size, 1, none⟩) hn b).far (p := ⟨w.heap.size, 2, none⟩) hn c
        have hR3 := ((HR.out.set_ 0 (.slice (some ⟨(w.heap.size + 1 + 1 + 1 + 1), 0, none⟩) 3 3)).set_ 1 (.slice (some ⟨bp, 0, none⟩) 3 cp)).set_ 2 (.slice (some ⟨(w.heap.size + 1 + 1 + 1 + 1 + 1), 0, none⟩) 1 1)
        have z0 := hR3.cell 0
        have z1 := hR3.cell 1
        have z2 := hR3.cell 2
        simp at z0 z1 z2
        refine bodyPost_end (v := .agg #[.slice (some ⟨(w.heap.size + 1 + 1 + 1 + 1), 0, none⟩) 3 3, .slice (some ⟨bp, 0, none⟩) 3 cp, .slice (some ⟨(w.heap.size + 1 + 1 + 1 + 1 + 1), 0, none⟩) 1 1]) (by simp [results, Tryz.results26, go_sem, z0, z1, z2]) rfl ?_
        exact ⟨(w.heap.size + 1 + 1 + 1 + 1), (w.heap.size + 1 + 1), (w.heap.size + 1 + 1 + 1), bp, cp, (w.heap.size + 1 + 1 + 1 + 1 + 1), rfl, ⟨hk _ _ _ HN.out (by omega), hk _ _ _ H1.out (by omega), hk _ _ _ H2.out (by omega), hk _ _ _ HO.out (by omega), ⟨cur, hk _ _ _ hcur (by omega), hcs, hct⟩, ⟨hcp, hcm⟩, by omega, by omega, by omega, by omega, by omega⟩, b_set (b_set (b_set HB.out (by simp) _) (by simp) _) (by simp) _⟩
theorem at_row {α : Type} {enc : α → List Value} {k : Nat} {w : World} {B cap : Nat} {t : TypeId} {cs : Array Value} {xs : List α} (h : Blk w B t cs) (hk : ∀ x, (enc x).length = k) (ht : cs.toList.take (xs.length * k) = xs.flatMap enc) (hl : xs.length ≤ cap) (hc : cap ≤ 9223372036854775807) (hb : xs.length ≤ 140737488351232) : (⟨some ⟨B, 0, none⟩, cap, xs⟩ : SL α).At enc k w :=
  ⟨hl, hb, hc, fun i x hx => ⟨B, 0, rfl, h.lt, fun j u hu => by
    have hf := flat_at hk xs i x j u hx hu
    rw [Nat.zero_add, h.cell, ← Array.getElem?_toList]
    rw [← ht, List.getElem?_take] at hf
    split at hf
    · exact hf
    · cases hf⟩⟩
theorem ints_blk {w : World} {B : Nat} {l : List Int} (h : Blk w B 3 (l.map (Value.int .i64)).toArray) (hl : l.length ≤ 65536) : Ints w ⟨some ⟨B, 0, none⟩, l.length, l⟩ :=
  at_blk h (by simp [int_flat]) (fun _ => rfl) (Nat.le_refl _) (by omega) (by omega)
theorem Blk.ne_ {w : World} {g g' : Nat} {t t' : TypeId} {cs cs' : Array Value} (h : Blk w g t cs) (h' : Blk w g' t' cs') (hne : t ≠ t') : g ≠ g' := by
  rintro rfl
  have h1 := Option.some.inj (h.symm.trans h')
  injection h1 with _ h2
  exact hne h2
theorem chap_at {m : Int} {base bn b1 b2 bp cp bo : Nat} {W : World} (h : ChapAt m base bn b1 b2 bp cp bo W) : (chapS m bn b1 b2 bp cp bo).At W := by
  obtain ⟨cur, hp, hs, ht⟩ := h.p
  have hc := h.cp
  unfold maxLen at hc
  have hl : ∀ (b : Nat) (v : ByteArray), Blk W b 29 #[.string zone, .string v] → Labels W ⟨some ⟨b, 0, none⟩, 1, [⟨zone, v⟩]⟩ := fun b v hb => at_blk hb rfl (fun _ => rfl) (by simp) (by simp) (by simp)
  refine ⟨at_blk h.n rfl (fun _ => rfl) (by simp [chapNs]) (by simp [chapNs]) (by simp), at_row hp (fun _ => rfl) ht hc.1 hc.2 (by simp [chapPs]), at_blk h.o rfl (fun _ => rfl) (by simp) (by simp) (by simp), ?_, ?_⟩
  · intro n hn
    simp only [chapS, chapNs, List.mem_cons, List.not_mem_nil, or_false] at hn
    rcases hn with rfl | rfl | rfl
    · exact ⟨hl _ _ h.l1, SL.At.nil _ _ _⟩
    · exact ⟨hl _ _ h.l2, SL.At.nil _ _ _⟩
    · exact ⟨SL.At.nil _ _ _, SL.At.nil _ _ _⟩
  · intro p hp
    simp only [chapS, chapPs, List.mem_cons, List.not_mem_nil, or_false] at hp
    rcases hp with rfl | rfl | rfl <;> exact ⟨SL.At.nil _ _ _, SL.At.nil _ _ _, SL.At.nil _ _ _, SL.At.nil _ _ _, SL.At.nil _ _ _⟩
end Go.Proofs.YtnjjdilmaepokaaGreat
namespace Go.Proofs.YtnjjdilmaepokaaGreat
open Go.RowKit Go.Maps
def byB (s : Snap) (p : List Int) (c : Clause) : Bool := (clauseOf s p c.kind c.a c.b).2 && ((clauseOf s p c.kind c.a c.b).1 == c.amt)
set_option maxHeartbeats 400000 in
theorem by_ok (s : Snap) (p : SL Int) (c : Clause) (w : World) (hs : s.At w) (hp : Ints w p) : Calls Tryz.prog 10 #[s.val, p.val, c.val] w (Gives (.bool (byB s p.l c)) w) := by
  have HO := hide (fun W hW => clauseOf_ok s p c.kind c.a c.b W (hs.below hW) (hp.below hW))
  clear hs hp
  unfold byB
  simp only [Snap.val, SL.val, Clause.val, pairB] at HO ⊢
  generalize clauseOf s p.l c.kind c.a c.b = r at *
  obtain ⟨n, b⟩ := r
  simp only at *
  cases b
  · rw [show (false && n == c.amt) = false by simp]
    go_enter Tryz.func10, Tryz.ntmps10
    go_wp2_with fail
    refine (calls_gr (HO.out _ (by repeat' (first | exact Below.refl _ _ | assumption | refine b_gr ?_ _ | refine b_alloc ?_ _ | refine b_drew ?_)))).mono ?_
    rintro e w1 ⟨rfl, g, rfl⟩
    go_wp2_with fail
    go_ret
    exact ⟨rfl, (by repeat' (first | exact Below.refl _ _ | assumption | refine b_gr ?_ _ | refine b_alloc ?_ _ | refine b_drew ?_))⟩
  · rw [show (true && n == c.amt) = (n == c.amt) by simp]
    generalize hq : (n == c.amt) = q
    go_enter Tryz.func10, Tryz.ntmps10
    go_wp2_with fail
    refine (calls_gr (HO.out _ (by repeat' (first | exact Below.refl _ _ | assumption | refine b_gr ?_ _ | refine b_alloc ?_ _ | refine b_drew ?_)))).mono ?_
    rintro e w1 ⟨rfl, g, rfl⟩
    go_wp2_with fail
    go_ret
    exact ⟨by rw [← hq]; rfl, (by repeat' (first | exact Below.refl _ _ | assumption | refine b_gr ?_ _ | refine b_alloc ?_ _ | refine b_drew ?_))⟩
theorem byB_ok {s : Snap} {p : SL Int} {c : Clause} {b : Bool} {w : World} (hs : s.At w) (hp : Ints w p) (hb : byB s p.l c = b) : Calls Tryz.prog 10 #[s.val, p.val, c.val] w (Gives (.bool b) w) := hb ▸ by_ok s p c w hs hp
theorem ofB_ok {s : Snap} {p : SL Int} {k a b : Int} {r : Int × Bool} {w : World} (hs : s.At w) (hp : Ints w p) (hb : clauseOf s p.l k a b = r) : Calls Tryz.prog 12 #[s.val, p.val, .int .i64 k, .int .i64 a, .int .i64 b] w (Gives (pairB r) w) := hb ▸ clauseOf_ok s p k a b w hs hp
theorem podB_ok {s : Snap} {p : SL Int} {i : Int} {l : List Clause} {w : World} (hs : s.At w) (hp : Ints w p) (hb : podL s p.l i = l) : Calls Tryz.prog 14 #[s.val, p.val, .int .i64 i] w (GivesSL Clause.enc 4 l w) := hb ▸ clausePod_ok s p i w hs hp
theorem brB_ok {s : Snap} {p : SL Int} {l : List Clause} {w : World} (hs : s.At w) (hp : Ints w p) (hb : brokenL s p.l = l) : Calls Tryz.prog 39 #[s.val, p.val] w (GivesSL Clause.enc 4 l w) := hb ▸ broken_ok s p w hs hp
set_option maxRecDepth 100000 in
set_option maxHeartbeats 4000000 in
theorem works08_ok (w : World) : Calls Tryz.prog 13 #[] w (Gives (.bool true) w) := by
  have HC := hide (fun W => chapter08_ok W)
  go_enter Tryz.func13, Tryz.ntmps13
  go_wp2_with fail
  refine (HC.out _).mono ?_
  rintro e W ⟨bn, b1, b2, bp, cp, bo, rfl, hch, hBw⟩
  have hS := chap_at hch
  have HB := hide hBw
  have HO := hide (fun B W' (hW : Below W.heap.size W W') (hb : Blk W' B 3 ([0, 0, -1].map (Value.int .i64)).toArray) => ofB_ok (s := chapS 3 bn b1 b2 bp cp bo) (k := 4) (a := 0) (b := 0) (r := (0, false)) (hS.below hW) (ints_blk hb (by simp)) (by kernel_rfl))
  have HP := hide (fun B W' (hW : Below W.heap.size W W') (hb : Blk W' B 3 ([0, 1, 2].map (Value.int .i64)).toArray) => podB_ok (s := chapS 3 bn b1 b2 bp cp bo) (i := 1) (l := [⟨2, 1, 0, 0⟩, ⟨3, 1, 0, 0⟩]) (hS.below hW) (ints_blk hb (by simp)) (by kernel_rfl))
  have HR := hide (fun B W' (hW : Below W.heap.size W W') (hb : Blk W' B 3 ([0, 1, 2].map (Value.int .i64)).toArray) => brB_ok (s := chapS 3 bn b1 b2 bp cp bo) (l := []) (hS.below hW) (ints_blk hb (by simp)) (by kernel_rfl))
  have H1 := hide (fun B W' (hW : Below W.heap.size W W') (hb : Blk W' B 3 ([0, 0, -1].map (Value.int .i64)).toArray) => byB_ok (s := chapS 3 bn b1 b2 bp cp bo) (c := ⟨1, 0, 0, 5⟩) (b := true) (hS.below hW) (ints_blk hb (by simp)) (by kernel_rfl))
  have H2 := hide (fun B W' (hW : Below W.heap.size W W') (hb : Blk W' B 3 ([0, 0, -1].map (Value.int .i64)).toArray) => byB_ok (s := chapS 3 bn b1 b2 bp cp bo) (c := ⟨7, 0, 0, 1⟩) (b := true) (hS.below hW) (ints_blk hb (by simp)) (by kernel_rfl))
  have H3 := hide (fun B W' (hW : Below W.heap.size W W') (hb : Blk W' B 3 ([0, 0, -1].map (Value.int .i64)).toArray) => byB_ok (s := chapS 3 bn b1 b2 bp cp bo) (c := ⟨8, 0, 0, 1⟩) (b := true) (hS.below hW) (ints_blk hb (by simp)) (by kernel_rfl))
  clear hS hch hBw HC
  simp only [Snap.val, SL.val, Clause.val, pairB, chapS, chapNs, chapPs, List.length_cons, List.length_nil] at *
  go_wp2_with fail
  refine (calls_gr (HO.out _ _ (by repeat' (first | exact Below.refl _ _ | assumption | refine b_gr ?_ _ | refine b_alloc ?_ _ | refine b_drew ?_)) (by repeat' (first | exact Blk.new _ _ _ | exact Blk.at_ _ _ _ _ (by simp) | apply Blk.gr | apply Blk.alloc)))).mono ?_
  rintro e w1 ⟨rfl, g1, rfl⟩
  go_wp2_with fail
  refine (HP.out _ _ (by repeat' (first | exact Below.refl _ _ | assumption | refine b_gr ?_ _ | refine b_alloc ?_ _ | refine b_drew ?_)) (by repeat' (first | exact Blk.new _ _ _ | exact Blk.at_ _ _ _ _ (by simp) | apply Blk.gr | apply Blk.alloc))).mono ?_
  rintro e w2 ⟨⟨ra, rc, rl⟩, hr, rfl, hat, hb2⟩
  simp only at hr
  subst hr
  obtain ⟨G2, rfl⟩ := to_gr hb2
  obtain ⟨b, off, rfl, hlt, hc0⟩ := hat.cell 0 _ rfl
  obtain ⟨b', off', hab, _, hc1⟩ := hat.cell 1 _ rfl
  simp only [Option.some.injEq, Addr.mk.injEq, and_true] at hab
  obtain ⟨rfl, rfl⟩ := hab
  have ib : LtB b _ := ⟨hlt⟩
  have y0 := hc0 0 _ rfl
  have y1 := hc0 1 _ rfl
  have y2 := hc0 2 _ rfl
  have y3 := hc0 3 _ rfl
  have y4 := hc1 0 _ rfl
  have y5 := hc1 1 _ rfl
  have y6 := hc1 2 _ rfl
  have y7 := hc1 3 _ rfl
  simp only [Nat.zero_mul, Nat.one_mul, Nat.add_zero] at y0 y1 y2 y3 y4 y5 y6 y7
  clear hat hb2 hc0 hc1 hlt HO HP
  simp only [SL.val, List.length_cons, List.length_nil]
  go_wp2_with fail
  refine (calls_gr (H1.out _ _ (by repeat' (first | exact Below.refl _ _ | assumption | refine b_gr ?_ _ | refine b_alloc ?_ _ | refine b_drew ?_)) (by repeat' (first | exact Blk.new _ _ _ | exact Blk.at_ _ _ _ _ (by simp) | apply Blk.gr | apply Blk.alloc)))).mono ?_
  rintro e w3 ⟨rfl, g3, rfl⟩
  go_wp2_with fail
  refine (quiet_call (H2.out _ _ (by repeat' (first | exact Below.refl _ _ | assumption | refine b_gr ?_ _ | refine b_alloc ?_ _ | refine b_drew ?_)) (by repeat' (first | exact Blk.new _ _ _ | exact Blk.at_ _ _ _ _ (by simp) | apply Blk.gr | apply Blk.alloc)))).mono ?_
  rintro e w4 ⟨rfl, g4, rfl⟩
  go_wp2_with fail
  refine (quiet_call (H3.out _ _ (by repeat' (first | exact Below.refl _ _ | assumption | refine b_gr ?_ _ | refine b_alloc ?_ _ | refine b_drew ?_)) (by repeat' (first | exact Blk.new _ _ _ | exact Blk.at_ _ _ _ _ (by simp) | apply Blk.gr | apply Blk.alloc)))).mono ?_
  rintro e w5 ⟨rfl, g5, rfl⟩
  go_wp2_with fail
  refine (HR.out _ _ (by repeat' (first | exact Below.refl _ _ | assumption | refine b_gr ?_ _ | refine b_alloc ?_ _ | refine b_drew ?_)) (by repeat' (first | exact Blk.new _ _ _ | exact Blk.at_ _ _ _ _ (by simp) | apply Blk.gr | apply Blk.alloc))).mono ?_
  rintro e w6 ⟨⟨ra6, rc6, rl6⟩, hr, rfl, hat6, hb6⟩
  simp only at hr
  subst hr
  obtain ⟨G6, rfl⟩ := to_gr hb6
  clear hat6 hb6 HR H1 H2 H3
  simp only [SL.val, List.length_nil]
  go_wp2_with fail
  go_ret
  exact ⟨rfl, b_then HB.out (by repeat' (first | exact Below.refl _ _ | assumption | refine b_gr ?_ _ | refine b_alloc ?_ _ | refine b_drew ?_))⟩
end Go.Proofs.YtnjjdilmaepokaaGreat
namespace Go.Proofs.YtnjjdilmaepokaaGreat
open Go.RowKit Go.WideShapes Go.ChangeShapes
theorem post_below {H : Type} {enc : TypeId × Value → H} {P : Program} {f : Func} {s : ChangeSpec} {apart fresh handsOn again : Bool} {W W' : World} {args : Array Value} {v : Value} {ds gs : List (DataW H)} {before pa pv : List MemPlace}
    (hW : DataW.Whole enc P f.params.toList s.vars apart W args.toList ds gs before)
    (hres : ∀ (b : Nat) (sp : Nat → Bool) (hd : Bool), DataW.TrodAll enc P W' b sp hd f.resultTypes.toList (v.resultList f.resultTypes.size) (s.fn H (ds ++ gs)).results [])
    (hargs : ∀ sp : Nat → Bool, (∀ p ∈ before, sp p.block = true) → DataW.TrodAll enc P W' 0 sp true f.params.toList args.toList (s.fn H (ds ++ gs)).args pa)
    (hvars : ∀ sp : Nat → Bool, (∀ p ∈ before, sp p.block = true) → DataW.TrodVars enc P W' sp s.vars (s.fn H (ds ++ gs)).vars pv)
    (hps : before = pa ++ pv) (hb : Below W.heap.size W W')
    (hok : ∀ (j : Nat) (t : TypeId) (r : Value), f.resultTypes[j]? = some t → (v.resultList f.resultTypes.size)[j]? = some r → Value.okWide P W' .any 0 t r) :
    s.post enc P f apart fresh handsOn again W args v W' := by
  have hlt : ∀ p ∈ before, p.block < W.heap.size := fun p hp => hW.lt p hp
  have hold : ∀ p ∈ before, (fun b => decide (b < W.heap.size)) p.block = true := fun p hp => by simpa using hlt p hp
  refine ⟨ds, gs, before, [], pa, pv, hW, hres _ _ _, hargs _ hold, hvars _ hold, World.keptBut_mono (fun p hp => ⟨hp, ?_⟩) (hb.frame (· ∈ before)), fun _ => ?_⟩
  · rw [hps, List.mem_append] at hp
    exact Or.inr hp
  · obtain ⟨_, _, _, _, _, hz, hn⟩ := hW
    refine ⟨hok, _, _, ([] ++ pa) ++ pv, ⟨[] ++ pa, pv, trodAll_append (hargs _ (fun _ _ => rfl)) (hres _ _ _), hvars _ (fun _ _ => rfl), rfl, ?_, ?_⟩, ?_⟩
    · intro b off hp
      have hin : MemPlace.cell b off ∈ before := by rw [hps]; simpa using hp
      rw [hb.frozen (hlt _ hin)]
      exact hz b off hin
    · intro ha
      have := hn ha
      rw [hps] at this
      simpa using this
    · intro p hp _
      rw [hps]
      simpa using hp
end Go.Proofs.YtnjjdilmaepokaaGreat
