/- The statements' own functions: cutSnap, Bring, fitted (layer 8). Conditions: the cluster and the numbers lie in memory.
   The statements' own functions: find. Conditions: the list lies in memory.
   The plain law of ClauseOff: if a pod is taken off its node, no clause of a node, of a pod's terms, taints, whom it may not have, of a single owner is broken by more than ahead. (No program in sight.) Conditions: the placement may be.
   ClauseOff returns true. Conditions: the cluster and the numbers lie in memory; the numbers are within their kind.
   ClauseOff returns true, whatever the cluster and the numbers. No conditions. -/
import Derived.Test.YtnjjdilmaepokaaGreatMF
import Derived.Test.YtnjjdilmaepokaaGreatRows
import Derived.WalkKit
import Derived.ProofKit
import Derived.OpenShut
import Derived.SizedLaws
import Derived.Test.YtnjjdilmaepokaaGreatOA
set_option linter.unusedVariables false
set_option linter.unusedSimpArgs false
namespace Go.Proofs.YtnjjdilmaepokaaGreat
open Go.RowKit Go.Maps
def SL.cut {α : Type} (s : SL α) (n : Nat) : SL α := ⟨s.a, s.c, s.l.take n⟩
theorem SL.At.cut {α : Type} {enc : α → List Value} {k : Nat} {w : World} {s : SL α} (h : s.At enc k w) (n : Nat) : (s.cut n).At enc k w :=
  ⟨by have := h.le; simp only [SL.cut, List.length_take]; omega, by have := h.big; simp only [SL.cut, List.length_take]; omega, h.cap, fun i x hx => h.cell i x (by
    simp only [SL.cut, List.getElem?_take] at hx
    split at hx
    · exact hx
    · cases hx)⟩
def cutS (s : Snap) : Snap := ⟨s.nodes.cut 12, s.pods.cut 30, s.owners.cut 12⟩
theorem cutS_at {s : Snap} {w : World} (h : s.At w) : (cutS s).At w :=
  ⟨h.nodes.cut _, h.pods.cut _, h.owners.cut _, fun n hn => h.node n (List.mem_of_mem_take hn), fun p hp => h.pod p (List.mem_of_mem_take hp)⟩
set_option maxRecDepth 100000 in
set_option maxHeartbeats 1000000 in
theorem cut08_ok (s : Snap) (w : World) (hs : s.At w) : Calls Tryz.prog 15 #[s.val] w (Gives (cutS s).val w) := by
  have b1 := hs.nodes.big
  have b2 := hs.pods.big
  have b3 := hs.owners.big
  have c1 := hs.nodes.le
  have c2 := hs.pods.le
  have c3 := hs.owners.le
  have d1 := hs.nodes.cap
  have d2 := hs.pods.cap
  have d3 := hs.owners.cap
  clear hs
  obtain ⟨⟨na, nc, nl⟩, ⟨pa, pc, pl⟩, ⟨oa, oc, ol⟩⟩ := s
  simp only [cutS, SL.cut, Snap.val, List.length_take] at *
  generalize nl.length = n1 at *
  generalize pl.length = n2 at *
  generalize ol.length = n3 at *
  have e1 : 0 ≤ min (n1 : Int) 12 ∧ min (n1 : Int) 12 ≤ nc := by omega
  have e2 : 0 ≤ min (n2 : Int) 30 ∧ min (n2 : Int) 30 ≤ pc := by omega
  have e3 : 0 ≤ min (n3 : Int) 12 ∧ min (n3 : Int) 12 ≤ oc := by omega
  go_enter Tryz.func15, Tryz.ntmps15
  go_wp2_with fail
  refine wp_region_gr_tail 22 (by kernel_rfl) (by kernel_rfl) ?_
  simp only [List.take_succ_cons, List.take_zero, List.drop_succ_cons, List.drop_zero]
  repeat (go_big_quiet_step ((first | fail)))
  refine wpQuiet_nil ?_
  intro g
  go_wp2_with fail
  have hR := (((((Blk.at_ (w.alloc (.cells #[.slice na n1 nc, .slice pa n2 pc, .slice oa n3 oc] 26)) 26 #[.slice none 0 0, .slice none 0 0, .slice none 0 0] (w.heap.size + 1) (by simp)).gr g).set_ 0 (.slice na (min (n1 : Int) 12).toNat nc)).set_ 1 (.slice pa (min (n2 : Int) 30).toNat pc)).set_ 2 (.slice oa (min (n3 : Int) 12).toNat oc))
  have z0 := hR.cell 0
  have z1 := hR.cell 1
  have z2 := hR.cell 2
  simp at z0 z1 z2
  have m1 : (min (n1 : Int) 12).toNat = min 12 n1 := by omega
  have m2 : (min (n2 : Int) 30).toNat = min 30 n2 := by omega
  have m3 : (min (n3 : Int) 12).toNat = min 12 n3 := by omega
  refine bodyPost_end (v := .agg #[.slice na (min (n1 : Int) 12).toNat nc, .slice pa (min (n2 : Int) 30).toNat pc, .slice oa (min (n3 : Int) 12).toNat oc]) (by simp [results, Tryz.results15, go_sem, z0, z1, z2]) rfl ⟨by rw [m1, m2, m3], (by repeat' (first | exact Below.refl _ _ | assumption | refine b_gr ?_ _ | refine b_alloc ?_ _ | refine b_drew ?_ | refine b_set ?_ (by simp) _))⟩
theorem bring_eq (i n : Int) (hn : 0 < n) : (-n < i.tmod n ∧ i.tmod n < n) ∧ i % n = (if i.tmod n < 0 then i.tmod n + n else i.tmod n) := by
  have h1 := Int.tmod_lt_of_pos i hn
  have h2 := Int.lt_tmod_of_pos i hn
  have h3 := Int.mul_tdiv_add_tmod i n
  refine ⟨⟨h2, h1⟩, ?_⟩
  have h4 : i % n = (i.tmod n) % n := by
    conv => lhs; rw [← h3]
    rw [Int.add_comm, Int.add_mul_emod_self_left]
  rw [h4]
  split
  · rw [← Int.add_emod_right, Int.emod_eq_of_lt (by omega) (by omega)]
  · exact Int.emod_eq_of_lt (by omega) (by omega)
theorem bring_ok (i n : Int) (w : World) (hi : -9223372036854775808 ≤ i) (hi2 : i ≤ 9223372036854775807) (hn : 0 < n) (hn2 : n ≤ 65537) : Calls Tryz.prog 42 #[.int .i64 i, .int .i64 n] w fun e w' => e = .returned (.int .i64 (i % n)) ∧ w = w' := by
  obtain ⟨⟨h1, h2⟩, h3⟩ := bring_eq i n hn
  have H3 := hide h3
  clear h3
  by_cases hr : i.tmod n < 0
  · have hd : decide (i.tmod n < 0) = true := decide_eq_true hr
    have Hr := hide hr
    go_enter Tryz.func42, Tryz.ntmps42
    go_wp2
    go_ret
    exact ⟨by rw [H3.out, if_pos Hr.out]; rfl, rfl⟩
  · have hd : decide (i.tmod n < 0) = false := decide_eq_false hr
    have Hr := hide hr
    go_enter Tryz.func42, Tryz.ntmps42
    go_wp2
    go_ret
    exact ⟨by rw [H3.out, if_neg (by have := Hr.out; omega)]; rfl, rfl⟩
def wantAt (s : Snap) (l : List Int) (i : Nat) : Int := match l[i]? with | some x => x % ((s.nodes.l.length : Int) + 1) - 1 | none => -1
def fitAt (s : Snap) (l : List Int) (i : Nat) : Int := if decide (0 ≤ wantAt s l i) && lostAt s (wantAt s l i) then -1 else wantAt s l i
def fittedL (s : Snap) (l : List Int) : List Int := (List.range s.pods.l.length).map (fitAt s l)
theorem wantAt_range (s : Snap) (l : List Int) (i : Nat) : -1 ≤ wantAt s l i ∧ wantAt s l i < s.nodes.l.length := by
  unfold wantAt
  split
  · rename_i x _
    have h1 := Int.emod_nonneg x (show ((s.nodes.l.length : Int) + 1) ≠ 0 by omega)
    have h2 := Int.emod_lt_of_pos x (show 0 < ((s.nodes.l.length : Int) + 1) by omega)
    omega
  · omega
theorem fitted_snoc (s : Snap) (l : List Int) (k : Nat) : (List.range (k + 1)).map (fitAt s l) = (List.range k).map (fitAt s l) ++ [fitAt s l k] := by simp [List.range_succ]
set_option maxRecDepth 100000 in
set_option maxHeartbeats 4000000 in
theorem fitted08_ok (s : Snap) (p : SL Int) (w : World) (hs : s.At w) (hp : Ints w p) (hwf : ∀ x ∈ p.l, -9223372036854775808 ≤ x ∧ x ≤ 9223372036854775807) (hn : s.nodes.l.length ≤ 65536) (hq : s.pods.l.length ≤ 65536) :
    Calls Tryz.prog 16 #[s.val, p.val] w (GivesSL (fun x => [.int .i64 x]) 1 (fittedL s p.l) w) := by
  have hpc := hide hp.cell
  have hpb := hp.big
  have hnc := hide hs.nodes.cell
  clear hs hp
  obtain ⟨i0, hi, hz0, hz1, hz2⟩ := info_parts info_int
  have Hi := hide hi
  have Hz0 := hide hz0
  have Hz1 := hide hz1
  have Hz2 := hide hz2
  clear hi hz0 hz1 hz2
  have HW := hide hwf
  clear hwf
  have Hrg := hide (wantAt_range s p.l)
  have Hsn := hide (fitted_snoc s p.l)
  have Hlen : (fittedL s p.l).length = s.pods.l.length := by simp [fittedL]
  have HL := hide Hlen
  clear Hlen
  obtain ⟨⟨na, nc, nl⟩, ps, os⟩ := s
  obtain ⟨pa, pc, pl⟩ := p
  simp only [Snap.val, SL.val] at *
  go_enter Tryz.func16, Tryz.ntmps16
  go_wp2_with fail
  go_loopg [5, 6] ps.l.length (fun gg s5 s6 wr => ∃ kk : Nat, kk ≤ ps.l.length ∧ ps.l.length - kk ≤ gg ∧ s6 = .int .i64 kk ∧ Hid (∃ G : Grw (w.alloc (.cells #[.slice na nl.length nc, .slice ps.a ps.l.length ps.c, .slice os.a os.l.length os.c] 26)), wr = gr _ G ∧ wr.ownsRow (w.heap.size + 1) 3 1 s5 kk (((List.range kk).map (fitAt ⟨⟨na, nc, nl⟩, ps, os⟩ pl)).map (Value.int .i64))))
  case atStart => exact ⟨0, Nat.zero_le _, by omega, rfl, ⟨_, Below.refl _ _⟩, rfl, World.ownsRow_nil _ _ _ _⟩
  case round =>
    obtain ⟨kk, hkk, hg, rfl, ⟨G, rfl, HO⟩⟩ := hrel
    have HO' := hide HO
    clear HO
    by_cases hlt : kk < ps.l.length
    · have hrg := Hrg.out kk
      by_cases hkp : kk < pl.length
      · have hx : pl[kk]? = some pl[kk] := List.getElem?_eq_getElem hkp
        have hw := HW.out _ (List.getElem_mem hkp)
        have hv : wantAt ⟨⟨na, nc, nl⟩, ps, os⟩ pl kk = pl[kk] % ((nl.length : Int) + 1) - 1 := by unfold wantAt; rw [hx]
        obtain ⟨b, off, rfl, hb, hcell⟩ := hpc.out kk _ hx
        have ib : LtB b w.heap.size := ⟨hb⟩
        have c0 : w.cell? ⟨b, off + kk, none⟩ = some (.int .i64 pl[kk]) := by have h := hcell 0 _ rfl; simpa using h
        have HBr := hide (fun W => bring_ok pl[kk] ((nl.length : Int) + 1) W hw.1 hw.2 (by omega) (by omega))
        rw [show pl[kk] % ((nl.length : Int) + 1) = wantAt ⟨⟨na, nc, nl⟩, ps, os⟩ pl kk + 1 by omega] at HBr
        have hfit : fitAt ⟨⟨na, nc, nl⟩, ps, os⟩ pl kk = (if decide (0 ≤ wantAt ⟨⟨na, nc, nl⟩, ps, os⟩ pl kk) && lostAt ⟨⟨na, nc, nl⟩, ps, os⟩ (wantAt ⟨⟨na, nc, nl⟩, ps, os⟩ pl kk) then -1 else wantAt ⟨⟨na, nc, nl⟩, ps, os⟩ pl kk) := rfl
        clear hx hw hv hcell hb
        generalize wantAt ⟨⟨na, nc, nl⟩, ps, os⟩ pl kk = v at *
        generalize pl[kk] = x at *
        by_cases h0 : 0 ≤ v
        · obtain ⟨j, rfl⟩ := Int.eq_ofNat_of_zero_le h0
          have hj : j < nl.length := by omega
          have hnx : nl[j]? = some nl[j] := List.getElem?_eq_getElem hj
          have hlo : lostAt ⟨⟨na, nc, nl⟩, ps, os⟩ (j : Int) = nl[j].lost := by unfold lostAt; rw [Int.toNat_natCast, hnx]
          rw [hlo, show decide (0 ≤ (j : Int)) = true from decide_eq_true h0, Bool.true_and] at hfit
          obtain ⟨b2, o2, rfl, hb2, hc2⟩ := hnc.out j _ hnx
          have i2 : LtB b2 w.heap.size := ⟨hb2⟩
          have d9 := hc2 9 _ rfl
          have hd : decide ((j : Int) ≥ 0) = true := decide_eq_true h0
          clear hc2 hb2 hnx hlo
          generalize nl[j].lost = lo at *
          cases lo
          · have Hf := hide (show [Value.int .i64 (fitAt ⟨⟨some ⟨b2, o2, none⟩, nc, nl⟩, ps, os⟩ pl kk)] = [.int .i64 (j : Int)] by rw [hfit]; rfl)
            clear hfit
            go_wp2_with fail
            refine wp_region_gr (by kernel_rfl) (by kernel_rfl) ?_
            repeat (go_big_quiet_step ((first | (go_at_call 42; exact quiet_same ((HBr.out _).mono fun _ _ h => ⟨h.1, h.2⟩)))))
            refine wpQuiet_nil ?_
            intro g
            go_wp2_with (at_builtin; refine wpList_append_own _ rfl _ _ 44 rfl (w.heap.size + 1) 3 i0 _ 1 8 Tryz.underlying44 Hi.out Hz0.out Hz1.out Hz2.out rfl (by decide) _ _ _ rfl (own_below (own_gr HO'.out g) (b_alloc (Below.refl _ _) _)) _ 1 1 [.int .i64 (j : Int)] rfl rfl (cells_new _ _ _) (by simp [Value.oneCell']) (by simp only [maxLen]; omega) (by omega) (by have h1 := size_gr G; have h2 := size_gr g; simp at h1 ⊢; omega) ?_; intro v' w2 hown' hgrow _)
            go_roundg (ps.l.length - (kk + 1))
            case measure => omega
            case rel =>
              have hB : Below (w.alloc (.cells #[.slice (some ⟨b2, o2, none⟩) nl.length nc, .slice ps.a ps.l.length ps.c, .slice os.a os.l.length os.c] 26)).heap.size (w.alloc (.cells #[.slice (some ⟨b2, o2, none⟩) nl.length nc, .slice ps.a ps.l.length ps.c, .slice os.a os.l.length os.c] 26)) w2 := (show Below (w.alloc (.cells #[.slice (some ⟨b2, o2, none⟩) nl.length nc, .slice ps.a ps.l.length ps.c, .slice os.a os.l.length os.c] 26)).heap.size (w.alloc (.cells #[.slice (some ⟨b2, o2, none⟩) nl.length nc, .slice ps.a ps.l.length ps.c, .slice os.a os.l.length os.c] 26)) _ from (by repeat' (first | exact Below.refl _ _ | assumption | refine b_gr ?_ _ | refine b_alloc ?_ _ | refine b_drew ?_))).grown hgrow (Below.size (B := (w.alloc (.cells #[.slice (some ⟨b2, o2, none⟩) nl.length nc, .slice ps.a ps.l.length ps.c, .slice os.a os.l.length os.c] 26)).heap.size) (w := w.alloc (.cells #[.slice (some ⟨b2, o2, none⟩) nl.length nc, .slice ps.a ps.l.length ps.c, .slice os.a os.l.length os.c] 26)) (by repeat' (first | exact Below.refl _ _ | assumption | refine b_gr ?_ _ | refine b_alloc ?_ _ | refine b_drew ?_))) (fun k hk => by have := own_ge HO'.out k hk; simpa using this)
              obtain ⟨G', rfl⟩ := to_gr hB
              exact ⟨kk + 1, by omega, by omega, by go_num, G', rfl, by rw [Hsn.out, List.map_append, List.map_cons, List.map_nil, Hf.out]; exact hown'⟩
          · have Hf := hide (show [Value.int .i64 (fitAt ⟨⟨some ⟨b2, o2, none⟩, nc, nl⟩, ps, os⟩ pl kk)] = [.int .i64 (-1)] by rw [hfit]; rfl)
            clear hfit
            go_wp2_with fail
            refine wp_region_gr (by kernel_rfl) (by kernel_rfl) ?_
            repeat (go_big_quiet_step ((first | (go_at_call 42; exact quiet_same ((HBr.out _).mono fun _ _ h => ⟨h.1, h.2⟩)))))
            refine wpQuiet_nil ?_
            intro g
            go_wp2_with (at_builtin; refine wpList_append_own _ rfl _ _ 44 rfl (w.heap.size + 1) 3 i0 _ 1 8 Tryz.underlying44 Hi.out Hz0.out Hz1.out Hz2.out rfl (by decide) _ _ _ rfl (own_below (own_gr HO'.out g) (b_alloc (Below.refl _ _) _)) _ 1 1 [.int .i64 (-1)] rfl rfl (cells_new _ _ _) (by simp [Value.oneCell']) (by simp only [maxLen]; omega) (by omega) (by have h1 := size_gr G; have h2 := size_gr g; simp at h1 ⊢; omega) ?_; intro v' w2 hown' hgrow _)
            go_roundg (ps.l.length - (kk + 1))
            case measure => omega
            case rel =>
              have hB : Below (w.alloc (.cells #[.slice (some ⟨b2, o2, none⟩) nl.length nc, .slice ps.a ps.l.length ps.c, .slice os.a os.l.length os.c] 26)).heap.size (w.alloc (.cells #[.slice (some ⟨b2, o2, none⟩) nl.length nc, .slice ps.a ps.l.length ps.c, .slice os.a os.l.length os.c] 26)) w2 := (show Below (w.alloc (.cells #[.slice (some ⟨b2, o2, none⟩) nl.length nc, .slice ps.a ps.l.length ps.c, .slice os.a os.l.length os.c] 26)).heap.size (w.alloc (.cells #[.slice (some ⟨b2, o2, none⟩) nl.length nc, .slice ps.a ps.l.length ps.c, .slice os.a os.l.length os.c] 26)) _ from (by repeat' (first | exact Below.refl _ _ | assumption | refine b_gr ?_ _ | refine b_alloc ?_ _ | refine b_drew ?_))).grown hgrow (Below.size (B := (w.alloc (.cells #[.slice (some ⟨b2, o2, none⟩) nl.length nc, .slice ps.a ps.l.length ps.c, .slice os.a os.l.length os.c] 26)).heap.size) (w := w.alloc (.cells #[.slice (some ⟨b2, o2, none⟩) nl.length nc, .slice ps.a ps.l.length ps.c, .slice os.a os.l.length os.c] 26)) (by repeat' (first | exact Below.refl _ _ | assumption | refine b_gr ?_ _ | refine b_alloc ?_ _ | refine b_drew ?_))) (fun k hk => by have := own_ge HO'.out k hk; simpa using this)
              obtain ⟨G', rfl⟩ := to_gr hB
              exact ⟨kk + 1, by omega, by omega, by go_num, G', rfl, by rw [Hsn.out, List.map_append, List.map_cons, List.map_nil, Hf.out]; exact hown'⟩
        · have hd : decide (v ≥ 0) = false := decide_eq_false (by omega)
          have Hf := hide (show [Value.int .i64 (fitAt ⟨⟨na, nc, nl⟩, ps, os⟩ pl kk)] = [.int .i64 v] by rw [hfit, show decide (0 ≤ v) = false from decide_eq_false h0]; rfl)
          clear hfit
          go_wp2_with fail
          refine wp_region_gr (by kernel_rfl) (by kernel_rfl) ?_
          repeat (go_big_quiet_step ((first | (go_at_call 42; exact quiet_same ((HBr.out _).mono fun _ _ h => ⟨h.1, h.2⟩)))))
          refine wpQuiet_nil ?_
          intro g
          go_wp2_with (at_builtin; refine wpList_append_own _ rfl _ _ 44 rfl (w.heap.size + 1) 3 i0 _ 1 8 Tryz.underlying44 Hi.out Hz0.out Hz1.out Hz2.out rfl (by decide) _ _ _ rfl (own_below (own_gr HO'.out g) (b_alloc (Below.refl _ _) _)) _ 1 1 [.int .i64 v] rfl rfl (cells_new _ _ _) (by simp [Value.oneCell']) (by simp only [maxLen]; omega) (by omega) (by have h1 := size_gr G; have h2 := size_gr g; simp at h1 ⊢; omega) ?_; intro v' w2 hown' hgrow _)
          go_roundg (ps.l.length - (kk + 1))
          case measure => omega
          case rel =>
            have hB : Below (w.alloc (.cells #[.slice na nl.length nc, .slice ps.a ps.l.length ps.c, .slice os.a os.l.length os.c] 26)).heap.size (w.alloc (.cells #[.slice na nl.length nc, .slice ps.a ps.l.length ps.c, .slice os.a os.l.length os.c] 26)) w2 := (show Below (w.alloc (.cells #[.slice na nl.length nc, .slice ps.a ps.l.length ps.c, .slice os.a os.l.length os.c] 26)).heap.size (w.alloc (.cells #[.slice na nl.length nc, .slice ps.a ps.l.length ps.c, .slice os.a os.l.length os.c] 26)) _ from (by repeat' (first | exact Below.refl _ _ | assumption | refine b_gr ?_ _ | refine b_alloc ?_ _ | refine b_drew ?_))).grown hgrow (Below.size (B := (w.alloc (.cells #[.slice na nl.length nc, .slice ps.a ps.l.length ps.c, .slice os.a os.l.length os.c] 26)).heap.size) (w := w.alloc (.cells #[.slice na nl.length nc, .slice ps.a ps.l.length ps.c, .slice os.a os.l.length os.c] 26)) (by repeat' (first | exact Below.refl _ _ | assumption | refine b_gr ?_ _ | refine b_alloc ?_ _ | refine b_drew ?_))) (fun k hk => by have := own_ge HO'.out k hk; simpa using this)
            obtain ⟨G', rfl⟩ := to_gr hB
            exact ⟨kk + 1, by omega, by omega, by go_num, G', rfl, by rw [Hsn.out, List.map_append, List.map_cons, List.map_nil, Hf.out]; exact hown'⟩
      · have hv : wantAt ⟨⟨na, nc, nl⟩, ps, os⟩ pl kk = -1 := by unfold wantAt; rw [List.getElem?_eq_none (by omega)]
        have Hf := hide (show [Value.int .i64 (fitAt ⟨⟨na, nc, nl⟩, ps, os⟩ pl kk)] = [.int .i64 (-1)] by unfold fitAt; rw [hv]; rfl)
        clear hv
        go_wp2_with (at_builtin; refine wpList_append_own _ rfl _ _ 44 rfl (w.heap.size + 1) 3 i0 _ 1 8 Tryz.underlying44 Hi.out Hz0.out Hz1.out Hz2.out rfl (by decide) _ _ _ rfl (own_below HO'.out (b_alloc (Below.refl _ _) _)) _ 1 1 [.int .i64 (-1)] rfl rfl (cells_new _ _ _) (by simp [Value.oneCell']) (by simp only [maxLen]; omega) (by omega) (by have h1 := size_gr G; simp at h1 ⊢; omega) ?_; intro v' w2 hown' hgrow _)
        go_roundg (ps.l.length - (kk + 1))
        case measure => omega
        case rel =>
          have hB : Below (w.alloc (.cells #[.slice na nl.length nc, .slice ps.a ps.l.length ps.c, .slice os.a os.l.length os.c] 26)).heap.size (w.alloc (.cells #[.slice na nl.length nc, .slice ps.a ps.l.length ps.c, .slice os.a os.l.length os.c] 26)) w2 := (show Below (w.alloc (.cells #[.slice na nl.length nc, .slice ps.a ps.l.length ps.c, .slice os.a os.l.length os.c] 26)).heap.size (w.alloc (.cells #[.slice na nl.length nc, .slice ps.a ps.l.length ps.c, .slice os.a os.l.length os.c] 26)) _ from (by repeat' (first | exact Below.refl _ _ | assumption | refine b_gr ?_ _ | refine b_alloc ?_ _ | refine b_drew ?_))).grown hgrow (Below.size (B := (w.alloc (.cells #[.slice na nl.length nc, .slice ps.a ps.l.length ps.c, .slice os.a os.l.length os.c] 26)).heap.size) (w := w.alloc (.cells #[.slice na nl.length nc, .slice ps.a ps.l.length ps.c, .slice os.a os.l.length os.c] 26)) (by repeat' (first | exact Below.refl _ _ | assumption | refine b_gr ?_ _ | refine b_alloc ?_ _ | refine b_drew ?_))) (fun k hk => by have := own_ge HO'.out k hk; simpa using this)
          obtain ⟨G', rfl⟩ := to_gr hB
          exact ⟨kk + 1, by omega, by omega, by go_num, G', rfl, by rw [Hsn.out, List.map_append, List.map_cons, List.map_nil, Hf.out]; exact hown'⟩
    · obtain rfl : kk = ps.l.length := by omega
      have h := HO'.out
      rw [int_flat] at h
      go_wp2_with fail
      go_ret
      exact gives_row (enc := fun x => [.int .i64 x]) (k := 1) (xs := fittedL ⟨⟨na, nc, nl⟩, ps, os⟩ pl) (fun _ => rfl) (by rw [HL.out]; exact h) (by rw [HL.out]; omega) (show Below w.heap.size w _ from b_then (b_alloc (Below.refl _ _) _) (gr_below _ G))
end Go.Proofs.YtnjjdilmaepokaaGreat
namespace Go.Proofs.YtnjjdilmaepokaaGreat
open Go.RowKit Go.Maps
theorem find_hit {α : Type} {p : α → Bool} : ∀ {l : List α} {k : Nat} {x : α}, l[k]? = some x → p x = true → (∀ j y, j < k → l[j]? = some y → p y = false) → l.find? p = some x
  | [], k, x, h, _, _ => by simp at h
  | y :: l, 0, x, h, hp, _ => by simp at h; subst h; simp [hp]
  | y :: l, k + 1, x, h, hp, hn => by
    have h0 := hn 0 y (by omega) rfl
    rw [List.find?_cons, h0]
    exact find_hit (l := l) (by simpa using h) hp (fun j z hj hz => hn (j + 1) z (by omega) (by simpa using hz))
theorem find_none {α : Type} {p : α → Bool} {l : List α} (h : ∀ (j : Nat) (y : α), j < l.length → l[j]? = some y → p y = false) : l.find? p = none := by
  rw [List.find?_eq_none]
  intro x hx
  obtain ⟨j, hj, rfl⟩ := List.mem_iff_getElem.1 hx
  rw [h j _ hj (List.getElem?_eq_getElem hj)]
  simp
def findL (l : List Clause) (c : Clause) : Int := match l.find? (isC c.kind c.a c.b) with | some x => x.amt | none => 0
set_option maxRecDepth 100000 in
set_option maxHeartbeats 2000000 in
theorem find08_ok (s : SL Clause) (c : Clause) (w : World) (hs : s.At Clause.enc 4 w) : Calls Tryz.prog 19 #[s.val, c.val] w (Gives (.int .i64 (findL s.l c)) w) := by
  obtain ⟨sa, sc, l⟩ := s
  have hl : l.length ≤ 140737488351232 := hs.big
  have hc := hide hs.cell
  clear hs
  simp only [SL.val, Clause.val]
  have B0 := hide (Blk.new w 47 #[.int .i64 c.kind, .int .i64 c.a, .int .i64 c.b, .int .i64 c.amt])
  go_enter Tryz.func19, Tryz.ntmps19
  go_wp2_with fail
  go_loopg [5] l.length (fun gg s5 wr => ∃ kk : Nat, kk ≤ l.length ∧ l.length - kk ≤ gg ∧ s5 = .int .i64 kk ∧ Hid (∃ G : Grw (w.alloc (.cells #[.int .i64 c.kind, .int .i64 c.a, .int .i64 c.b, .int .i64 c.amt] 47)), wr = gr _ G) ∧ Hid (∀ j y, j < kk → l[j]? = some y → isC c.kind c.a c.b y = false))
  case atStart => exact ⟨0, Nat.zero_le _, by omega, rfl, to_gr (Below.refl _ _), fun j y hj => absurd hj (Nat.not_lt_zero _)⟩
  case round =>
    obtain ⟨kk, hkk, hg, rfl, ⟨G, rfl⟩, A⟩ := hrel
    by_cases hlt : kk < l.length
    · have hx : l[kk]? = some l[kk] := List.getElem?_eq_getElem hlt
      obtain ⟨b, off, rfl, hb, hcell⟩ := hc.out kk l[kk] hx
      have ib : LtB b w.heap.size := ⟨hb⟩
      generalize l[kk] = x at hx hcell
      have c0 : w.cell? ⟨b, off + kk * 4, none⟩ = some _ := hcell 0 _ rfl
      have c1 := hcell 1 _ rfl
      have c2 := hcell 2 _ rfl
      have c3 := hcell 3 _ rfl
      have Hx := hide hx
      have HB := B0
      clear hcell hx hb
      cases h1 : (x.kind == c.kind)
      · have Hq := hide (show isC c.kind c.a c.b x = false by unfold isC; rw [h1]; simp)
        clear HB
        go_wp2_with fail
        refine wp_region_gr (by kernel_rfl) (by kernel_rfl) ?_
        repeat (go_big_quiet_step ((first | fail)))
        refine wpQuiet_nil ?_
        intro g
        go_wp2_with fail
        go_roundg (l.length - (kk + 1))
        case measure => omega
        case rel => exact ⟨kk + 1, by omega, by omega, by go_num, to_gr (by repeat' (first | exact Below.refl _ _ | assumption | refine b_gr ?_ _ | refine b_alloc ?_ _ | refine b_drew ?_)), el_succ A.out Hx.out Hq.out⟩
      · cases h2 : (x.a == c.a)
        · have Hq := hide (show isC c.kind c.a c.b x = false by unfold isC; rw [h1, h2]; simp)
          clear HB
          go_wp2_with fail
          refine wp_region_gr (by kernel_rfl) (by kernel_rfl) ?_
          repeat (go_big_quiet_step ((first | fail)))
          refine wpQuiet_nil ?_
          intro g
          go_wp2_with fail
          go_roundg (l.length - (kk + 1))
          case measure => omega
          case rel => exact ⟨kk + 1, by omega, by omega, by go_num, to_gr (by repeat' (first | exact Below.refl _ _ | assumption | refine b_gr ?_ _ | refine b_alloc ?_ _ | refine b_drew ?_)), el_succ A.out Hx.out Hq.out⟩
        · cases h3 : (x.b == c.b)
          · have Hq := hide (show isC c.kind c.a c.b x = false by unfold isC; rw [h1, h2, h3]; simp)
            clear HB
            go_wp2_with fail
            refine wp_region_gr (by kernel_rfl) (by kernel_rfl) ?_
            repeat (go_big_quiet_step ((first | fail)))
            refine wpQuiet_nil ?_
            intro g
            go_wp2_with fail
            go_roundg (l.length - (kk + 1))
            case measure => omega
            case rel => exact ⟨kk + 1, by omega, by omega, by go_num, to_gr (by repeat' (first | exact Below.refl _ _ | assumption | refine b_gr ?_ _ | refine b_alloc ?_ _ | refine b_drew ?_)), el_succ A.out Hx.out Hq.out⟩
          · have Hq := hide (show isC c.kind c.a c.b x = true by unfold isC; rw [h1, h2, h3]; simp)
            have Hf := hide (show findL l c = x.amt by unfold findL; rw [find_hit Hx.out Hq.out A.out])
            clear HB
            go_wp2_with fail
            refine wp_region_gr (by kernel_rfl) (by kernel_rfl) ?_
            repeat (go_big_quiet_step ((first | fail)))
            refine wpQuiet_nil ?_
            intro g
            go_wp2_with fail
            go_ret
            exact ⟨by rw [Hf.out]; rfl, (by repeat' (first | exact Below.refl _ _ | assumption | refine b_gr ?_ _ | refine b_alloc ?_ _ | refine b_drew ?_))⟩
    · obtain rfl : kk = l.length := by omega
      have Hf := hide (show findL l c = 0 by unfold findL; rw [find_none A.out])
      go_wp2_with fail
      go_ret
      exact ⟨by rw [Hf.out]; rfl, (by repeat' (first | exact Below.refl _ _ | assumption | refine b_gr ?_ _ | refine b_alloc ?_ _ | refine b_drew ?_))⟩
end Go.Proofs.YtnjjdilmaepokaaGreat
namespace Go.Proofs.YtnjjdilmaepokaaGreat
open Go.RowKit Go.Maps
/-! ### what is asked for -/
def Small (v : Vec) : Prop := (0 ≤ v.a ∧ v.a ≤ 1099511627776) ∧ (0 ≤ v.b ∧ v.b ≤ 1099511627776) ∧ (0 ≤ v.c ∧ v.c ≤ 1099511627776) ∧ (0 ≤ v.d ∧ v.d ≤ 1099511627776) ∧ (0 ≤ v.e ∧ v.e ≤ 1099511627776)
theorem small_of {v : Vec} (h : vecCheck v = 0) : Small v := by
  unfold vecCheck at h
  split at h
  · cases h
  · split at h
    · cases h
    · rename_i h1 h2
      simp only [Vec.l, Lib.minOf, Lib.maxOf, List.headD_cons, List.foldl_cons, List.foldl_nil, maxQty] at h1 h2
      unfold Small
      omega
theorem pod_small {s : Snap} (h : snapCheck s = 0) {y : Pod} (hy : y ∈ s.pods.l) : Small y.req := by
  have hb := snap_pods h y hy
  unfold podB podFine at hb
  simp only [Bool.and_eq_true, beq_iff_eq] at hb
  exact small_of hb.1.1.2.1.1.1
theorem node_small {s : Snap} (h : snapCheck s = 0) {n : Node} (hn : n ∈ s.nodes.l) : Small n.cap := by
  have hb := snap_nodes h n hn
  unfold nodeB at hb
  simp only [Bool.and_eq_true, beq_iff_eq] at hb
  exact small_of hb.1.1
theorem wrap_id {n : Int} (h1 : -9223372036854775808 ≤ n) (h2 : n ≤ 9223372036854775807) : wrap64 n = n := by
  unfold wrap64
  omega
def sumBy (f : Pod → Int) (l : List Pod) : Int := (l.map f).sum
theorem sumBy_range {f : Pod → Int} {l : List Pod} (h : ∀ y ∈ l, 0 ≤ f y ∧ f y ≤ 1099511627776) : 0 ≤ sumBy f l ∧ sumBy f l ≤ l.length * 1099511627776 := by
  unfold sumBy at *
  induction l with
  | nil => simp
  | cons y l ih =>
    have h1 := h y (by simp)
    have h2 := ih (fun z hz => h z (by simp [hz]))
    simp only [List.map_cons, List.sum_cons, List.length_cons]
    omega
theorem fold_sum (l : List Pod) : ∀ (v : Vec), (∀ y ∈ l, Small y.req) → (0 ≤ v.a ∧ v.a + l.length * 1099511627776 ≤ 4611686018427387904) → (0 ≤ v.b ∧ v.b + l.length * 1099511627776 ≤ 4611686018427387904) → (0 ≤ v.c ∧ v.c + l.length * 1099511627776 ≤ 4611686018427387904) → (0 ≤ v.d ∧ v.d + l.length * 1099511627776 ≤ 4611686018427387904) → (0 ≤ v.e ∧ v.e + l.length * 1099511627776 ≤ 4611686018427387904) →
    l.foldl (fun v y => v.plus y.req) v = ⟨v.a + sumBy (·.req.a) l, v.b + sumBy (·.req.b) l, v.c + sumBy (·.req.c) l, v.d + sumBy (·.req.d) l, v.e + sumBy (·.req.e) l⟩ := by
  induction l with
  | nil => intro v _ _ _ _ _ _; simp [sumBy]
  | cons y l ih =>
    intro v h ha hb hc hd he
    have hy := h y (by simp)
    unfold Small at hy
    simp only [List.length_cons] at ha hb hc hd he
    have e : v.plus y.req = ⟨v.a + y.req.a, v.b + y.req.b, v.c + y.req.c, v.d + y.req.d, v.e + y.req.e⟩ := by
      unfold Vec.plus
      rw [wrap_id (by omega) (by omega), wrap_id (by omega) (by omega), wrap_id (by omega) (by omega), wrap_id (by omega) (by omega), wrap_id (by omega) (by omega)]
    rw [List.foldl_cons, e, ih _ (fun z hz => h z (by simp [hz])) (by simp only; omega) (by simp only; omega) (by simp only; omega) (by simp only; omega) (by simp only; omega)]
    simp only [sumBy, List.map_cons, List.sum_cons]
    simp only [Vec.mk.injEq]
    omega
theorem sumReq_eq {l : List Pod} (h : ∀ y ∈ l, Small y.req) (hl : l.length ≤ 24) : sumReq l = ⟨sumBy (·.req.a) l, sumBy (·.req.b) l, sumBy (·.req.c) l, sumBy (·.req.d) l, sumBy (·.req.e) l⟩ := by
  unfold sumReq
  rw [fold_sum l _ h (by simp only; omega) (by simp only; omega) (by simp only; omega) (by simp only; omega) (by simp only; omega)]
  simp
/-! ### a pod taken off -/
theorem onAll_cons (y : Pod) (ps : List Pod) (x : Int) (p : List Int) (n : Int) : onAll (y :: ps) (x :: p) n = if (x == n) = true then y :: onAll ps p n else onAll ps p n := by
  unfold onAll
  rw [List.zip_cons_cons, List.filter_cons]
  split <;> rfl
theorem onAll_nil (ps : List Pod) (n : Int) : onAll ps [] n = [] := rfl
theorem onAll_nil' (p : List Int) (n : Int) : onAll [] p n = [] := by cases p <;> rfl
theorem onAll_mem {ps : List Pod} {p : List Int} {n : Int} {y : Pod} (h : y ∈ onAll ps p n) : y ∈ ps := by
  unfold onAll at h
  obtain ⟨z, hz, rfl⟩ := List.mem_map.1 h
  exact (List.of_mem_zip (List.mem_filter.1 hz).1).2
theorem onAll_len (ps : List Pod) (p : List Int) (n : Int) : (onAll ps p n).length ≤ ps.length := by
  unfold onAll
  rw [List.length_map]
  exact Nat.le_trans (List.length_filter_le _ _) (by rw [List.length_zip]; omega)
theorem sum_off (f : Pod → Int) (n : Int) (hn : 0 ≤ n) : ∀ (p : List Int) (ps : List Pod) (i : Nat), (∀ y ∈ ps, 0 ≤ f y) → sumBy f (onAll ps (p.set i (-1)) n) ≤ sumBy f (onAll ps p n)
  | [], ps, i, _ => by simp
  | x :: p, [], i, _ => by rw [onAll_nil', onAll_nil']; exact Int.le_refl _
  | x :: p, y :: ps, 0, h => by
    have h0 := h y (by simp)
    rw [List.set_cons_zero, onAll_cons, onAll_cons, if_neg (by simp; omega)]
    split
    · simp only [sumBy, List.map_cons, List.sum_cons]; omega
    · exact Int.le_refl _
  | x :: p, y :: ps, i + 1, h => by
    have ih := sum_off f n hn p ps i (fun z hz => h z (by simp [hz]))
    rw [List.set_cons_succ, onAll_cons, onAll_cons]
    unfold sumBy at ih ⊢
    split
    · simp only [List.map_cons, List.sum_cons]; omega
    · exact ih
theorem at_set (p : List Int) (i j : Nat) (hi : i < p.length) : atOf (p.set i (-1)) j = if j = i then -1 else atOf p j := by
  unfold atOf
  rw [List.getD_eq_getElem?_getD, List.getD_eq_getElem?_getD, List.getElem?_set]
  by_cases h : i = j
  · subst h; simp [hi]
  · rw [if_neg h, if_neg (fun e => h e.symm)]
theorem many_mono {l l' : List Int} {q q' : Nat → Bool} (hl : l'.length = l.length) (h : ∀ k, manyP l' q' k = true → manyP l q k = true) : manyN l' q' ≤ manyN l q := by
  unfold manyN manyTo
  rw [hl, ← List.countP_eq_length_filter, ← List.countP_eq_length_filter]
  exact List.countP_mono_left (fun k _ hk => h k hk)
theorem near_off {s : Snap} {p : List Int} {i j : Nat} (hi : i < p.length) (hj : j ≠ i) (x : Near) : aroundN s (p.set i (-1)) j x false ≤ aroundN s p j x false := by
  refine many_mono (by simp) (fun k hk => ?_)
  unfold manyP aroundQ at *
  have e1 := at_set p i k hi
  have e2 := at_set p i j hi
  rw [if_neg hj] at e2
  by_cases hki : k = i
  · rw [if_pos hki] at e1
    rw [e1] at hk
    simp at hk
  · rw [if_neg hki] at e1
    rw [e1, e2] at hk
    exact hk
theorem double_off {s : Snap} {p : List Int} {i j : Nat} (hi : i < p.length) (hj : j ≠ i) (nm : ByteArray) : manyN (p.set i (-1)) (doubleQ s (p.set i (-1)) j nm) ≤ manyN p (doubleQ s p j nm) := by
  refine many_mono (by simp) (fun k hk => ?_)
  unfold manyP doubleQ at *
  have e1 := at_set p i k hi
  have e2 := at_set p i j hi
  rw [if_neg hj] at e2
  by_cases hki : k = i
  · rw [if_pos hki] at e1
    rw [e1] at hk
    simp at hk
  · rw [if_neg hki] at e1
    rw [e1, e2] at hk
    exact hk
theorem podC_is (s : Snap) (p q : List Int) (wh j : Nat) (y : Pod) (n : Node) : (podC s q wh j y n).2 = (podC s p wh j y n).2 := by
  unfold podC withC apartC doubleC
  repeat' split
  all_goals rfl
theorem podC_off {s : Snap} {p : List Int} {i j : Nat} (hi : i < p.length) (hj : j ≠ i) (wh : Nat) (hw : wh ≠ 4) (y : Pod) (n : Node) : (podC s (p.set i (-1)) wh j y n).1 ≤ (podC s p wh j y n).1 := by
  unfold podC
  have hw' := hide hw
  clear hw
  split
  · exact Int.le_refl _
  · split
    · exact Int.le_refl _
    · rw [if_neg hw'.out, if_neg hw'.out]
      split
      · unfold apartC
        split
        · exact Int.le_refl _
        · have := near_off (s := s) hi hj y.apart
          simp only
          omega
      · unfold doubleC
        split
        · have := double_off (s := s) hi hj y.owner
          simp only
          omega
        · exact Int.le_refl _
/-! ### the row of all clauses -/
theorem mem_flat {f : Nat → List Clause} {k : Nat} {c : Clause} : c ∈ flatTo f k ↔ ∃ i, i < k ∧ c ∈ f i := by
  unfold flatTo
  rw [List.mem_flatMap]
  exact ⟨fun ⟨i, h1, h2⟩ => ⟨i, List.mem_range.1 h1, h2⟩, fun ⟨i, h1, h2⟩ => ⟨i, List.mem_range.2 h1, h2⟩⟩
theorem mem_all {s : Snap} {p : List Int} {us : List Vec} {c : Clause} : c ∈ allC s p us ↔ (∃ i, i < s.nodes.l.length ∧ c ∈ nodeCs s us i) ∨ (∃ wh j, 2 ≤ wh ∧ wh ≤ 6 ∧ j < p.length ∧ c ∈ ofPod s p wh j) ∨ (∃ wh i, 7 ≤ wh ∧ wh ≤ 8 ∧ i < s.owners.l.length ∧ c ∈ ownerCs s p wh i) := by
  unfold allC capsL podsTo ownersTo
  rw [List.mem_append, List.mem_append, mem_flat, mem_flat, mem_flat, or_assoc]
  refine or_congr Iff.rfl (or_congr ⟨?_, ?_⟩ ⟨?_, ?_⟩)
  · rintro ⟨k, hk, hc⟩
    obtain ⟨j, hj, hc⟩ := mem_flat.1 hc
    exact ⟨k + 2, j, by omega, by omega, hj, hc⟩
  · rintro ⟨wh, j, h1, h2, hj, hc⟩
    exact ⟨wh - 2, by omega, mem_flat.2 ⟨j, hj, by rw [show wh - 2 + 2 = wh by omega]; exact hc⟩⟩
  · rintro ⟨k, hk, hc⟩
    obtain ⟨j, hj, hc⟩ := mem_flat.1 hc
    exact ⟨k + 7, j, by omega, by omega, hj, hc⟩
  · rintro ⟨wh, j, h1, h2, hj, hc⟩
    exact ⟨wh - 7, by omega, mem_flat.2 ⟨j, hj, by rw [show wh - 7 + 7 = wh by omega]; exact hc⟩⟩
theorem node_key {s : Snap} {us : List Vec} {i : Nat} {c : Clause} (h : c ∈ nodeCs s us i) : c.kind = 1 ∧ c.a = i := by
  unfold nodeCs at h
  split at h
  · simp only [ofNode, List.mem_cons, List.not_mem_nil, or_false] at h
    rcases h with rfl | rfl | rfl | rfl | rfl <;> exact ⟨rfl, rfl⟩
  · simp at h
theorem ofPod_mem {s : Snap} {p : List Int} {wh j : Nat} {c : Clause} : c ∈ ofPod s p wh j ↔ ¬ atOf p j < 0 ∧ ∃ y n, s.pods.l[j]? = some y ∧ s.nodes.l[(atOf p j).toNat]? = some n ∧ (podC s p wh j y n).2 = true ∧ c = ⟨wh, j, 0, (podC s p wh j y n).1⟩ := by
  unfold ofPod
  by_cases h0 : atOf p j < 0
  · rw [if_pos h0]; simp [h0]
  · rw [if_neg h0]
    cases hy : s.pods.l[j]? with
    | none => simp
    | some y =>
      cases hn : s.nodes.l[(atOf p j).toNat]? with
      | none => simp
      | some n =>
        simp only [Option.some.injEq, exists_eq_left', h0, not_false_eq_true, true_and]
        split
        · rename_i hb; simp [hb]
        · rename_i hb; simp [hb]
theorem owner_key {s : Snap} {p : List Int} {wh i : Nat} {c : Clause} (hw : 7 ≤ wh) (h : c ∈ ownerCs s p wh i) : 7 ≤ c.kind := by
  unfold ownerCs ofOwner at h
  split at h
  · split at h
    · simp only [List.mem_cons, List.not_mem_nil, or_false] at h; subst h; simp only; omega
    · split at h
      · simp at h
      · simp only [List.mem_cons, List.not_mem_nil, or_false] at h; subst h; simp only; omega
  · simp at h
theorem find_ge {l : List Clause} {c : Clause} (h1 : ∃ x ∈ l, isC c.kind c.a c.b x = true) (h2 : ∀ x ∈ l, isC c.kind c.a c.b x = true → c.amt ≤ x.amt) : c.amt ≤ findL l c := by
  unfold findL
  cases hf : l.find? (isC c.kind c.a c.b) with
  | none =>
    obtain ⟨x, hx, hp⟩ := h1
    exact absurd hp (by simpa using List.find?_eq_none.1 hf x hx)
  | some x => exact h2 x (List.mem_of_find?_eq_some hf) (List.find?_some hf)
theorem isC_iff {k a b : Int} {x : Clause} : isC k a b x = true ↔ x.kind = k ∧ x.a = a ∧ x.b = b := by
  unfold isC
  simp only [Bool.and_eq_true, beq_iff_eq, and_assoc]
theorem flat_len_le {f g : Nat → List Clause} (k : Nat) (h : ∀ i, i < k → (f i).length ≤ (g i).length) : (flatTo f k).length ≤ (flatTo g k).length := by
  induction k with
  | zero => exact Nat.le_refl _
  | succ k ih =>
    rw [flatTo_succ, flatTo_succ, List.length_append, List.length_append]
    have := ih (fun i hi => h i (by omega))
    have := h k (by omega)
    omega
/-! ### the law -/
theorem off_check {s : Snap} {p : List Int} (h : placeCheck s p = 0) (i : Nat) : placeCheck s (p.set i (-1)) = 0 := by
  have hf := place_facts h
  unfold placeCheck
  rw [if_pos hf.1, if_neg]
  simp only [Bool.or_eq_true, not_or, Bool.not_eq_true, Bool.not_eq_false', decide_eq_true_eq]
  refine ⟨by simp [hf.2.1], ?_⟩
  rw [List.any_eq_false]
  intro x hx
  rcases List.mem_or_eq_of_mem_set hx with hx | rfl
  · obtain ⟨h1, h2, h3⟩ := hf.2.2 x hx
    unfold oddAt
    simp only [Bool.or_eq_true, decide_eq_true_eq, Bool.and_eq_true, not_or, not_and, Bool.not_eq_true]
    exact ⟨⟨by omega, by omega⟩, fun hx0 => h3 hx0⟩
  · unfold oddAt
    simp
    omega
theorem off_apply {s : Snap} {p : List Int} (h : placeCheck s p = 0) {i : Nat} {x : Int} (hx : p[i]? = some x) (h0 : 0 ≤ x) : applyE s p ⟨1, i, 0⟩ = 0 ∧ applyL s p ⟨1, i, 0⟩ = p.set i (-1) := by
  have hi := (List.getElem?_eq_some_iff.1 hx).1
  have e : applyE s p ⟨1, i, 0⟩ = 0 := by
    unfold applyE inR
    rw [if_neg (by simp [h])]
    simp only [if_true, Int.toNat_natCast]
    rw [if_pos (by simp; omega), if_neg]
    rw [List.getD_eq_getElem?_getD, hx]
    simp only [Option.getD_some]
    omega
  refine ⟨e, ?_⟩
  unfold applyL
  rw [if_pos e]
  simp
theorem used_is {s : Snap} {p : List Int} (h : placeCheck s p = 0) {i : Nat} (hi : i < s.nodes.l.length) : usedV s p (i : Int) = sumReq (onAll s.pods.l p i) := by
  unfold usedV usedB
  rw [if_pos]
  simp only [h, Bool.and_eq_true, beq_self_eq_true, decide_eq_true_eq, true_and]
  omega
theorem cap_mono {u u' v : Int} (h1 : 0 ≤ u') (h2 : u' ≤ u) (h3 : u ≤ 24 * 1099511627776) (h4 : 0 ≤ v) (h5 : v ≤ 1099511627776) : capAmt u' v ≤ capAmt u v := by
  unfold capAmt
  rw [wrap_id (by omega) (by omega), wrap_id (by omega) (by omega)]
  omega
theorem node_off {s : Snap} {p : List Int} (h : placeCheck s p = 0) (i : Nat) {m : Nat} {c : Clause} (hm : m < s.nodes.l.length) (hc : c ∈ nodeCs s (usedL s (p.set i (-1))) m) :
    ∃ c1 ∈ nodeCs s (usedL s p) m, c1.b = c.b ∧ c.amt ≤ c1.amt ∧ ∀ c2 ∈ nodeCs s (usedL s p) m, c2.b = c.b → c2 = c1 := by
  have hf := place_facts h
  have hz := snap_facts hf.1
  have hq := off_check h i
  have hn : s.nodes.l[m]? = some s.nodes.l[m] := List.getElem?_eq_getElem hm
  have hu : ∀ p', (usedL s p')[m]? = some (usedV s p' (m : Int)) := fun p' => by simp [usedL, hm]
  unfold nodeCs at hc ⊢
  rw [hn, hu] at hc
  rw [hn, hu]
  simp only at hc ⊢
  rw [used_is hq hm] at hc
  rw [used_is h hm]
  have hP : ∀ p', ∀ y ∈ onAll s.pods.l p' (m : Int), Small y.req := fun p' y hy => pod_small hf.1 (onAll_mem hy)
  have hL : ∀ p', (onAll s.pods.l p' (m : Int)).length ≤ 24 := fun p' => Nat.le_trans (onAll_len _ _ _) hz.2.1
  rw [sumReq_eq (hP _) (hL _)] at hc
  rw [sumReq_eq (hP _) (hL _)]
  have hcap := node_small hf.1 (List.getElem_mem hm)
  have hall : ∀ f : Pod → Int, (∀ y, Small y.req → 0 ≤ f y ∧ f y ≤ 1099511627776) → 0 ≤ sumBy f (onAll s.pods.l (p.set i (-1)) m) ∧ sumBy f (onAll s.pods.l (p.set i (-1)) m) ≤ sumBy f (onAll s.pods.l p m) ∧ sumBy f (onAll s.pods.l p m) ≤ 24 * 1099511627776 := fun f hf' => by
    have h1 := sumBy_range (f := f) (l := onAll s.pods.l (p.set i (-1)) m) (fun y hy => hf' y (hP _ y hy))
    have h2 := sumBy_range (f := f) (l := onAll s.pods.l p m) (fun y hy => hf' y (hP _ y hy))
    have h3 := sum_off f (m : Int) (by omega) p s.pods.l i (fun y hy => (hf' y (pod_small hf.1 hy)).1)
    have h4 := hL p
    refine ⟨h1.1, h3, ?_⟩
    have : ((onAll s.pods.l p (m : Int)).length : Int) ≤ 24 := by omega
    omega
  have ka := hall (·.req.a) (fun y hy => hy.1)
  have kb := hall (·.req.b) (fun y hy => hy.2.1)
  have kc := hall (·.req.c) (fun y hy => hy.2.2.1)
  have kd := hall (·.req.d) (fun y hy => hy.2.2.2.1)
  have ke := hall (·.req.e) (fun y hy => hy.2.2.2.2)
  unfold Small at hcap
  simp only [ofNode, List.mem_cons, List.not_mem_nil, or_false] at hc ⊢
  have huni : ∀ (x0 x1 x2 x3 x4 : Int) (k : Int) (cc : Clause), cc ∈ [(⟨1, m, 0, x0⟩ : Clause), ⟨1, m, 1, x1⟩, ⟨1, m, 2, x2⟩, ⟨1, m, 3, x3⟩, ⟨1, m, 4, x4⟩] → cc.b = k → (k = 0 → cc = ⟨1, m, 0, x0⟩) ∧ (k = 1 → cc = ⟨1, m, 1, x1⟩) ∧ (k = 2 → cc = ⟨1, m, 2, x2⟩) ∧ (k = 3 → cc = ⟨1, m, 3, x3⟩) ∧ (k = 4 → cc = ⟨1, m, 4, x4⟩) := by
    intro x0 x1 x2 x3 x4 k cc hcc hk
    subst hk
    simp only [List.mem_cons, List.not_mem_nil, or_false] at hcc
    rcases hcc with rfl | rfl | rfl | rfl | rfl <;> simp
  rcases hc with rfl | rfl | rfl | rfl | rfl
  · exact ⟨_, .inl rfl, rfl, cap_mono ka.1 ka.2.1 ka.2.2 hcap.1.1 hcap.1.2, fun c2 h2 hb => (huni _ _ _ _ _ 0 c2 (by simpa using h2) hb).1 rfl⟩
  · exact ⟨_, .inr (.inl rfl), rfl, cap_mono kb.1 kb.2.1 kb.2.2 hcap.2.1.1 hcap.2.1.2, fun c2 h2 hb => (huni _ _ _ _ _ 1 c2 (by simpa using h2) hb).2.1 rfl⟩
  · exact ⟨_, .inr (.inr (.inl rfl)), rfl, cap_mono kc.1 kc.2.1 kc.2.2 hcap.2.2.1.1 hcap.2.2.1.2, fun c2 h2 hb => (huni _ _ _ _ _ 2 c2 (by simpa using h2) hb).2.2.1 rfl⟩
  · exact ⟨_, .inr (.inr (.inr (.inl rfl))), rfl, cap_mono kd.1 kd.2.1 kd.2.2 hcap.2.2.2.1.1 hcap.2.2.2.1.2, fun c2 h2 hb => (huni _ _ _ _ _ 3 c2 (by simpa using h2) hb).2.2.2.1 rfl⟩
  · exact ⟨_, .inr (.inr (.inr (.inr rfl))), rfl, cap_mono ke.1 ke.2.1 ke.2.2 hcap.2.2.2.2.1 hcap.2.2.2.2.2, fun c2 h2 hb => (huni _ _ _ _ _ 4 c2 (by simpa using h2) hb).2.2.2.2 rfl⟩
theorem off_law {s : Snap} {p : List Int} (h : placeCheck s p = 0) {i : Nat} (hi : i < p.length) : (clauseAll s (p.set i (-1))).length ≤ (clauseAll s p).length ∧
    ∀ c ∈ clauseAll s (p.set i (-1)), c.kind ≠ 4 → c.kind ≠ 7 → c.kind ≠ 8 → c.amt ≤ findL (clauseAll s p) c := by
  have hq := off_check h i
  have e1 : clauseAll s p = allC s p (usedL s p) := if_pos h
  have e2 : clauseAll s (p.set i (-1)) = allC s (p.set i (-1)) (usedL s (p.set i (-1))) := if_pos hq
  rw [e1, e2]
  constructor
  · unfold allC capsL podsTo ownersTo
    simp only [List.length_append, List.length_set]
    have a1 : (flatTo (nodeCs s (usedL s (p.set i (-1)))) s.nodes.l.length).length ≤ (flatTo (nodeCs s (usedL s p)) s.nodes.l.length).length := flat_len_le _ (fun m hm => by
      have hn : s.nodes.l[m]? = some s.nodes.l[m] := List.getElem?_eq_getElem hm
      have hu : ∀ p', (usedL s p')[m]? = some (usedV s p' (m : Int)) := fun p' => by simp [usedL, hm]
      unfold nodeCs
      rw [hn, hu, hu]
      simp [ofNode])
    have a2 : (flatTo (fun j => flatTo (ofPod s (p.set i (-1)) (j + 2)) p.length) (7 - 2)).length ≤ (flatTo (fun j => flatTo (ofPod s p (j + 2)) p.length) (7 - 2)).length := flat_len_le _ (fun k _ => flat_len_le _ (fun j _ => by
      by_cases hji : j = i
      · subst hji
        have : ofPod s (p.set j (-1)) (k + 2) j = [] := by
          unfold ofPod
          rw [at_set p j j hi, if_pos rfl, if_pos (by omega)]
        rw [this]
        simp
      · unfold ofPod
        rw [at_set p i j hi, if_neg hji]
        split
        · exact Nat.le_refl _
        · cases s.pods.l[j]? with
          | none => exact Nat.le_refl _
          | some y =>
            cases s.nodes.l[(atOf p j).toNat]? with
            | none => exact Nat.le_refl _
            | some n =>
              simp only
              rw [podC_is s p (p.set i (-1))]
              split <;> simp))
    have a3 : (flatTo (fun j => flatTo (ownerCs s (p.set i (-1)) (j + 7)) s.owners.l.length) (9 - 7)).length ≤ (flatTo (fun j => flatTo (ownerCs s p (j + 7)) s.owners.l.length) (9 - 7)).length := flat_len_le _ (fun k _ => flat_len_le _ (fun j _ => by
      unfold ownerCs ofOwner
      split
      · split
        · simp
        · split <;> simp
      · exact Nat.le_refl _))
    omega
  · intro c hc n4 n7 n8
    rcases mem_all.1 hc with ⟨m, hm, hc⟩ | ⟨wh, j, h2, h6, hj, hc⟩ | ⟨wh, m, h7, h8, hm, hc⟩
    · have hk := node_key hc
      obtain ⟨c1, hc1, hb, hle, huni⟩ := node_off h i hm hc
      have hk1 := node_key hc1
      refine find_ge ⟨c1, mem_all.2 (.inl ⟨m, hm, hc1⟩), isC_iff.2 ⟨hk1.1.trans hk.1.symm, hk1.2.trans hk.2.symm, hb⟩⟩ (fun x hx hp => ?_)
      obtain ⟨p1, p2, p3⟩ := isC_iff.1 hp
      rcases mem_all.1 hx with ⟨m', hm', hx⟩ | ⟨wh, j, h2, h6, hj, hx⟩ | ⟨wh, m', h7, h8, hm', hx⟩
      · have hk' := node_key hx
        obtain rfl : m' = m := by have := hk'.2.symm.trans (p2.trans hk.2); omega
        rw [huni x hx p3]
        exact hle
      · obtain ⟨_, _, _, _, _, _, rfl⟩ := ofPod_mem.1 hx
        simp only at p1
        have := hk.1
        omega
      · have := owner_key h7 hx
        have := hk.1
        omega
    · obtain ⟨h0, y, n, hy, hn, his, rfl⟩ := ofPod_mem.1 hc
      have hji : j ≠ i := fun e => by
        subst e
        rw [at_set p j j hi, if_pos rfl] at h0
        omega
      have hat : atOf (p.set i (-1)) j = atOf p j := by rw [at_set p i j hi, if_neg hji]
      rw [hat] at h0 hn
      have hw4 : wh ≠ 4 := fun e => n4 (by simp only; omega)
      have hin : (⟨wh, j, 0, (podC s p wh j y n).1⟩ : Clause) ∈ ofPod s p wh j := ofPod_mem.2 ⟨h0, y, n, hy, hn, by rw [← podC_is s p (p.set i (-1))]; exact his, rfl⟩
      refine find_ge ⟨_, mem_all.2 (.inr (.inl ⟨wh, j, h2, h6, by simpa using hj, hin⟩)), isC_iff.2 ⟨rfl, rfl, rfl⟩⟩ (fun x hx hp => ?_)
      obtain ⟨p1, p2, p3⟩ := isC_iff.1 hp
      simp only at p1 p2 p3
      rcases mem_all.1 hx with ⟨m', hm', hx⟩ | ⟨wh', j', h2', h6', hj', hx⟩ | ⟨wh', m', h7, h8, hm', hx⟩
      · have hk' := node_key hx
        omega
      · obtain ⟨h0', y', n', hy', hn', _, rfl⟩ := ofPod_mem.1 hx
        simp only at p1 p2 p3
        obtain rfl : wh' = wh := by omega
        obtain rfl : j' = j := by omega
        obtain rfl := Option.some.inj (hy'.symm.trans hy)
        obtain rfl := Option.some.inj (hn'.symm.trans hn)
        exact podC_off hi hji wh' hw4 y' n'
      · have := owner_key h7 hx
        omega
    · have h3 := owner_key h7 hc
      unfold ownerCs ofOwner at hc
      split at hc
      · split at hc
        · simp only [List.mem_cons, List.not_mem_nil, or_false] at hc; subst hc; exact absurd rfl n8
        · split at hc
          · simp at hc
          · simp only [List.mem_cons, List.not_mem_nil, or_false] at hc
            subst hc
            simp only at n7 n8
            omega
      · simp at hc
end Go.Proofs.YtnjjdilmaepokaaGreat
namespace Go.Proofs.YtnjjdilmaepokaaGreat
open Go.RowKit Go.Maps
theorem calls_over {P : Program} {f : FuncId} {args : Array Value} {W : World} {Q : Ending → World → Prop} {R : World → Prop} (h : R W) (k : ∀ V, R V → Calls P f args V Q) : Calls P f args W Q := k W h
set_option maxRecDepth 100000 in
set_option maxHeartbeats 8000000 in
theorem off08_ok (s0 : Snap) (l : SL Int) (w : World) (hs : s0.At w) (hl : Ints w l) (hwf : ∀ x ∈ l.l, -9223372036854775808 ≤ x ∧ x ≤ 9223372036854775807) :
    Calls Tryz.prog 4 #[s0.val, l.val] w (Gives (.bool true) w) := by
  have HW := hide (fun W => works08_ok W)
  have HC := hide (fun W hW => cut08_ok s0 W (hs.below hW))
  have HS := hide (fun W (hW : Below w.heap.size w W) => cutS_at (hs.below hW))
  have hl1 : (cutS s0).nodes.l.length ≤ 65536 := by simp only [cutS, SL.cut, List.length_take]; omega
  have hl2 : (cutS s0).pods.l.length ≤ 30 := by simp only [cutS, SL.cut, List.length_take]; omega
  have HF := hide (fun W hW => fitted08_ok (cutS s0) l W (cutS_at (hs.below hW)) (hl.below hW) hwf hl1 (by omega))
  have hfl : (fittedL (cutS s0) l.l).length ≤ 30 := by simp [fittedL]; exact hl2
  clear hs hl hwf hl1
  generalize cutS s0 = s at *
  generalize fittedL s l.l = pl at *
  simp only [Snap.val, SL.val] at HC HF ⊢
  go_enter Tryz.func4, Tryz.ntmps4
  go_wp2_with fail
  refine (calls_gr (HW.out _)).mono ?_
  rintro e w1 ⟨rfl, g1, rfl⟩
  go_wp2_with fail
  refine (calls_gr (HC.out _ (by repeat' (first | exact Below.refl _ _ | assumption | refine b_gr ?_ _ | refine b_alloc ?_ _ | refine b_drew ?_)))).mono ?_
  rintro e w2 ⟨rfl, g2, rfl⟩
  have hR := (((((Blk.new w 26 #[.slice s0.nodes.a s0.nodes.l.length s0.nodes.c, .slice s0.pods.a s0.pods.l.length s0.pods.c, .slice s0.owners.a s0.owners.l.length s0.owners.c]).gr g1).gr g2).set_ 0 (.slice s.nodes.a s.nodes.l.length s.nodes.c)).set_ 1 (.slice s.pods.a s.pods.l.length s.pods.c)).set_ 2 (.slice s.owners.a s.owners.l.length s.owners.c)
  have o0 := (((Blk.new w 26 #[.slice s0.nodes.a s0.nodes.l.length s0.nodes.c, .slice s0.pods.a s0.pods.l.length s0.pods.c, .slice s0.owners.a s0.owners.l.length s0.owners.c]).gr g1).gr g2).frozen 0
  have hBB : Below w.heap.size w (gr (gr (w.alloc (.cells #[.slice s0.nodes.a s0.nodes.l.length s0.nodes.c, .slice s0.pods.a s0.pods.l.length s0.pods.c, .slice s0.owners.a s0.owners.l.length s0.owners.c] 26)) g1) g2) := (by repeat' (first | exact Below.refl _ _ | assumption | refine b_gr ?_ _ | refine b_alloc ?_ _ | refine b_drew ?_))
  have B0 := hide hBB
  have R0 := hide hR
  clear hBB hR HW
  go_wp2_with fail
  refine calls_over (R := fun V => Below w.heap.size w V ∧ Blk V w.heap.size 26 #[.slice s.nodes.a s.nodes.l.length s.nodes.c, .slice s.pods.a s.pods.l.length s.pods.c, .slice s.owners.a s.owners.l.length s.owners.c]) ⟨b_set (b_set (b_set B0.out (Nat.le_refl _) _) (Nat.le_refl _) _) (Nat.le_refl _) _, R0.out⟩ ?_
  clear R0 B0 o0 HC
  rintro V ⟨hB, hb⟩
  clear g1 g2
  refine (HF.out V hB).mono ?_
  rintro e W ⟨p, rfl, rfl, hp, hB'⟩
  have hb1 : Blk W w.heap.size 26 #[.slice s.nodes.a s.nodes.l.length s.nodes.c, .slice s.pods.a s.pods.l.length s.pods.c, .slice s.owners.a s.owners.l.length s.owners.c] := hb.below hB' hb.lt
  have hB1 : Below w.heap.size w W := b_then hB hB'
  have b0 := hb1.cell 0
  have b1 := hb1.cell 1
  have b2 := hb1.cell 2
  have ib := hb1.ltb
  simp at b0 b1 b2
  have HA := hide (clauseAll_ok s p W (HS.out W hB1) hp)
  have Hb := hide hb1
  have HB := hide hB1
  have Hp := hide hp
  clear hb hB hB' HF hb1 hB1 hp
  have HC := hide (fun W' (hW : Below W.heap.size W W') => placeCheck_ok s p W' (HS.out W' (b_then HB.out hW)) (Hp.out.below hW))
  simp only [SL.val, Snap.val] at HA HC ⊢
  go_wp2_with fail
  refine HA.out.mono ?_
  rintro e W2 ⟨cs, hcs, rfl, hat, hB2⟩
  have hb2 : Blk W2 w.heap.size 26 #[.slice s.nodes.a s.nodes.l.length s.nodes.c, .slice s.pods.a s.pods.l.length s.pods.c, .slice s.owners.a s.owners.l.length s.owners.c] := Hb.out.below hB2 Hb.out.lt
  have HBw := hide (b_then HB.out hB2)
  have Hp2 := hide (Hp.out.below hB2)
  have HC2 := hide (HC.out W2 hB2)
  have b0 := hb2.cell 0
  have b1 := hb2.cell 1
  have b2 := hb2.cell 2
  have ib := hb2.ltb
  simp at b0 b1 b2
  have Hat := hide hat
  have Hcs := hide hcs
  clear HB Hp HC HA Hb hb2 hB2 hat hcs
  simp only [SL.val]
  by_cases h0 : placeCheck s p.l = 0
  · rw [h0]
    clear HC2
    have Hz := hide h0
    clear h0
    obtain ⟨pa, pc, pl⟩ := p
    dsimp only at *
    go_wp2_with fail
    go_loopg [8] pl.length (fun gg s8 wr => ∃ kk : Nat, kk ≤ pl.length ∧ pl.length - kk ≤ gg ∧ s8 = .int .i64 kk ∧ Hid (∃ G : Grw W2, wr = gr W2 G))
    case atStart => exact ⟨0, Nat.zero_le _, by omega, rfl, to_gr (Below.refl _ _)⟩
    case round =>
      obtain ⟨kk, hkk, hg, rfl, ⟨G, rfl⟩⟩ := hrel
      by_cases hlt : kk < pl.length
      · have hx : pl[kk]? = some pl[kk] := List.getElem?_eq_getElem hlt
        obtain ⟨b, off, rfl, hbl, hcell⟩ := Hp2.out.cell kk _ hx
        have ib' : LtB b W2.heap.size := ⟨hbl⟩
        generalize pl[kk] = x at hx hcell
        have c0 : W2.cell? ⟨b, off + kk, none⟩ = some (.int .i64 x) := by have h := hcell 0 _ rfl; simpa using h
        have Hx := hide hx
        clear hcell hx hbl
        by_cases hneg : x < 0
        · have hnb : decide (x < 0) = true := decide_eq_true hneg
          clear hneg
          go_wp2_with fail
          go_roundg (pl.length - (kk + 1))
          case measure => omega
          case rel => exact ⟨kk + 1, by omega, by omega, by go_num, to_gr (by repeat' (first | exact Below.refl _ _ | assumption | refine b_gr ?_ _ | refine b_alloc ?_ _ | refine b_drew ?_))⟩
        · have hnb : decide (x < 0) = false := decide_eq_false hneg
          have HY := hide (apply_ok s ⟨some ⟨b, off, none⟩, pc, pl⟩ ⟨1, kk, 0⟩ (gr W2 G) (HS.out _ (b_gr HBw.out G)) (Hp2.out.below (gr_below W2 G)) (by simp only; omega))
          have ho := off_apply Hz.out Hx.out (by omega)
          dsimp only at HY
          rw [ho.1, ho.2] at HY
          simp only [Snap.val, SL.val, Step.val] at HY
          clear hneg ho
          go_wp2_with fail
          refine HY.out.mono ?_
          rintro e W3 ⟨q, hq, rfl, hqa, hB3⟩
          have hL := off_law Hz.out hlt
          have HA := hide (clauseAll_ok s q W3 (HS.out W3 (b_then (b_gr HBw.out G) hB3)) hqa)
          rw [hq, off_check Hz.out kk] at HA
          generalize clauseAll s (pl.set kk (-1)) = now at HA hL
          obtain ⟨g3, rfl⟩ := to_gr (b_then (gr_below W2 G) hB3)
          have Hq := hide hq
          have HL := hide hL
          clear hB3 hqa HY hq hL
          simp only [Snap.val, SL.val] at HA ⊢
          go_wp2_with fail
          refine HA.out.mono ?_
          rintro e W4 ⟨nw, rfl, rfl, hna, hB4⟩
          obtain ⟨g4, rfl⟩ := to_gr (b_then (gr_below W2 g3) hB4)
          have Hna := hide hna
          have hl1 : decide (cs.l.length < nw.l.length) = false := decide_eq_false (by rw [Hcs.out]; have := HL.out.1; omega)
          clear HA hB4 hna
          simp only [SL.val]
          have HF := hide (fun (c : Clause) (hc : c ∈ nw.l) W' (hW : Below (gr W2 g4).heap.size (gr W2 g4) W') => find08_ok cs c W' ((Hat.out.below (gr_below W2 g4)).below hW))
          rw [Hcs.out] at HF
          generalize hcl : (clauseAll s pl) = was at *
          clear hcl
          have HV := hide (gr_below W2 g4)
          generalize gr W2 g4 = V4 at *
          obtain ⟨na, nc, nl⟩ := nw
          dsimp only at *
          simp only [SL.val, Clause.val] at HF
          have hnl := Hna.out.big
          dsimp only at hnl
          go_wp2_with fail
          go_loopg [13] nl.length (fun gg s13 wr => ∃ jj : Nat, jj ≤ nl.length ∧ nl.length - jj ≤ gg ∧ s13 = .int .i64 jj ∧ Hid (∃ G : Grw V4, wr = gr V4 G))
          case atStart => exact ⟨0, Nat.zero_le _, by omega, rfl, to_gr (Below.refl _ _)⟩
          case round =>
            obtain ⟨jj, hjj, hg', rfl, ⟨G4, rfl⟩⟩ := hrel
            by_cases hlj : jj < nl.length
            · have hc : nl[jj]? = some nl[jj] := List.getElem?_eq_getElem hlj
              have hmem := List.getElem_mem hlj
              obtain ⟨bb, off2, rfl, hbl, hcell⟩ := Hna.out.cell jj _ hc
              have ib2 : LtB bb V4.heap.size := ⟨hbl⟩
              generalize nl[jj] = c at hc hcell hmem
              have d0 : V4.cell? ⟨bb, off2 + jj * 4, none⟩ = some (.int .i64 c.kind) := hcell 0 _ rfl
              have d1 : V4.cell? ⟨bb, off2 + jj * 4 + 1, none⟩ = some (.int .i64 c.a) := hcell 1 _ rfl
              have d2 : V4.cell? ⟨bb, off2 + jj * 4 + 2, none⟩ = some (.int .i64 c.b) := hcell 2 _ rfl
              have d3 : V4.cell? ⟨bb, off2 + jj * 4 + 3, none⟩ = some (.int .i64 c.amt) := hcell 3 _ rfl
              have HG := hide (HF.out c hmem)
              have HE := hide (HL.out.2 c hmem)
              clear hcell hbl hmem hc
              go_wp2_with fail
              cases h4 : (c.kind != 4)
              · clear HG HE
                refine wp_region_gr (by kernel_rfl) (by kernel_rfl) ?_
                repeat (go_big_quiet_step ((first | fail)))
                refine wpQuiet_nil ?_
                intro g5
                go_wp2_with fail
                go_roundg (nl.length - (jj + 1))
                case measure => omega
                case rel => exact ⟨jj + 1, by omega, by omega, by go_num, to_gr (by repeat' (first | exact Below.refl _ _ | assumption | refine b_gr ?_ _ | refine b_alloc ?_ _ | refine b_drew ?_))⟩
              · cases h7 : (c.kind != 7)
                · clear HG HE
                  refine wp_region_gr (by kernel_rfl) (by kernel_rfl) ?_
                  repeat (go_big_quiet_step ((first | fail)))
                  refine wpQuiet_nil ?_
                  intro g5
                  go_wp2_with fail
                  go_roundg (nl.length - (jj + 1))
                  case measure => omega
                  case rel => exact ⟨jj + 1, by omega, by omega, by go_num, to_gr (by repeat' (first | exact Below.refl _ _ | assumption | refine b_gr ?_ _ | refine b_alloc ?_ _ | refine b_drew ?_))⟩
                · cases h8 : (c.kind != 8)
                  · clear HG HE
                    refine wp_region_gr (by kernel_rfl) (by kernel_rfl) ?_
                    repeat (go_big_quiet_step ((first | fail)))
                    refine wpQuiet_nil ?_
                    intro g5
                    go_wp2_with fail
                    go_roundg (nl.length - (jj + 1))
                    case measure => omega
                    case rel => exact ⟨jj + 1, by omega, by omega, by go_num, to_gr (by repeat' (first | exact Below.refl _ _ | assumption | refine b_gr ?_ _ | refine b_alloc ?_ _ | refine b_drew ?_))⟩
                  · have hd : decide (findL was c < c.amt) = false := decide_eq_false (by have := HE.out (by simpa using h4) (by simpa using h7) (by simpa using h8); omega)
                    generalize findL was c = fl at *
                    refine wp_region_gr (by kernel_rfl) (by kernel_rfl) ?_
                    repeat (go_big_quiet_step ((first | (go_at_call 19; exact quiet_call (HG.out _ (by repeat' (first | exact Below.refl _ _ | assumption | refine b_gr ?_ _ | refine b_alloc ?_ _ | refine b_drew ?_)))))))
                    refine wpQuiet_nil ?_
                    intro g5
                    go_wp2_with fail
                    go_roundg (nl.length - (jj + 1))
                    case measure => omega
                    case rel => exact ⟨jj + 1, by omega, by omega, by go_num, to_gr (by repeat' (first | exact Below.refl _ _ | assumption | refine b_gr ?_ _ | refine b_alloc ?_ _ | refine b_drew ?_))⟩
            · obtain rfl : jj = nl.length := by omega
              go_wp2_with fail
              go_roundg (pl.length - (kk + 1))
              case measure => omega
              case rel => exact ⟨kk + 1, by omega, by omega, by go_num, to_gr (b_then HV.out (gr_below V4 G4))⟩
      · obtain rfl : kk = pl.length := by omega
        go_wp2_with fail
        go_ret
        exact ⟨rfl, b_gr HBw.out G⟩
  · have hne : (placeCheck s p.l != 0) = true := by simpa using h0
    have hlen : cs.l.length = 0 := by rw [Hcs.out]; unfold clauseAll; rw [if_neg h0]; rfl
    clear h0
    generalize placeCheck s p.l = e0 at *
    go_wp2_with fail
    refine (calls_gr HC2.out).mono ?_
    rintro e w3 ⟨rfl, g, rfl⟩
    go_wp2_with fail
    go_ret
    exact ⟨rfl, b_gr HBw.out g⟩
end Go.Proofs.YtnjjdilmaepokaaGreat
namespace Go.Proofs.YtnjjdilmaepokaaGreat.clauseOff
open Go.ChangeShapes Go.WideShapes Go.ChangeAt Go.RowKit

theorem own : ownKnob Tryz.prog.godebug = none := by kernel_rfl

set_option maxRecDepth 100000 in
theorem lifted (os : Os) (started : os.Started) (H : Type) (enc : TypeId × Value → H) :
    ReturnsInHanded {} Tryz.checked os 4 .any (Rows.clauseOffSpec.pre6 enc Tryz.prog Tryz.f4 Rows.clauseOffRow.domain false) (Rows.clauseOffSpec.post enc Tryz.prog Tryz.f4 false true false false) := by
  refine returnsInHanded_of_change_sized (C := Tryz.checked) own started (by kernel_rfl) Tryz.func4
    (ChangeSpec.witness6 (enc := enc) (C := Tryz.checked) false ⟨#[], #[.agg #[.slice none 0 0, .slice none 0 0, .slice none 0 0], .slice none 0 0], []⟩ 8 (by kernel_rfl) (by kernel_rfl) (by kernel_rfl) (by kernel_rfl)) ?_
  intro W base args ds gs before hval0 hW hcnd hsz0 _
  have hsz : (DataW.weightsEach Tryz.prog (Tryz.f4.params.toList ++ Rows.clauseOffSpec.plain.varTypes Tryz.prog) (ds ++ gs)).all (· ≤ reachBytes) = true := hsz0
  have hval : ∀ (j : Nat) t v, Tryz.f4.params[j]? = some t → args[j]? = some v → Value.okWide Tryz.prog W .any base t v := hval0
  have hW' := hW
  obtain ⟨p, q, hA0, hV, rfl, hfz, hnd⟩ := hW
  have hA : DataW.TrodAll enc Tryz.prog W 0 (fun _ => true) true Tryz.f4.params.toList args.toList ds p := hA0
  rw [Tryz.params4] at hA hval hsz
  obtain ⟨v0, vs0, d0, ds0, p0, q0, hargs, rfl, rfl, h0, r0⟩ := trodAll_cons hA
  obtain ⟨v1, vs1, d1, ds1, p1, q1, rfl, rfl, rfl, h1, r1⟩ := trodAll_cons r0
  obtain ⟨rfl, rfl, rfl⟩ := trodAll_nil r1
  obtain rfl : args = #[v0, v1] := by cases args; simp_all
  obtain ⟨rfl, rfl⟩ := trodVars_none hV
  have k0 := h0
  have k1 := h1
  have lt0 : ∀ x ∈ p0, x.block < W.heap.size := by obtain ⟨m, hm⟩ := k0; exact DataW.trod_lt m _ _ _ hm
  have lt1 : ∀ x ∈ p1, x.block < W.heap.size := by obtain ⟨m, hm⟩ := k1; exact DataW.trod_lt m _ _ _ hm
  obtain ⟨s, rfl, hs⟩ := arg_snap (hval 0 26 v0 rfl rfl) h0 (light hsz (j := 0) rfl rfl)
  obtain ⟨l, rfl, hl, hwf⟩ := arg_ints (hval 1 44 v1 rfl rfl) h1 (light hsz (j := 1) rfl rfl)
  clear hA0 hval0 hsz0 hsz
  refine (off08_ok s l W hs hl hwf).mono fun e W' ⟨he, bel⟩ => ?_
  subst he
  exact ⟨_, rfl, _, _, _, [], _, [], hW', trodAll_mk1 (shut_bool Tryz.underlying4 _), trodAll_mk2 (Below.trod laidOut (by kernel_rfl) (of_decide_eq_true (by kernel_rfl)) k0 bel lt0) (Below.trod laidOut (by kernel_rfl) (of_decide_eq_true (by kernel_rfl)) k1 bel lt1), rfl, bel.frame _, fun h => by cases h⟩

theorem over : Rows.clauseOffRow.holds Tryz.pinned (OpenSpec.ofChange Rows.clauseOffSpec) :=
  OpenClaim.holds_of_wide 4 Tryz.f4 rfl rfl rfl rfl rfl rfl rfl ⟨rfl, rfl, rfl, rfl, rfl⟩ rfl rfl rfl rfl rfl (by kernel_rfl) Tryz.func4 (by kernel_rfl)
    (of_decide_eq_true (by kernel_rfl)) (by unfold Func.isWrapper; first | (rw [if_pos (by decide +kernel)]; kernel_rfl) | (rw [if_neg (by decide +kernel)]; exact ⟨rfl, rfl⟩))
    (fun os started H enc _ => lifted os started H enc)

/-- ████ THE STATEMENT ████ -/
theorem proved : Rows.ClauseOffSaid :=
  over
#print axioms proved
end Go.Proofs.YtnjjdilmaepokaaGreat.clauseOff
namespace Go.Proofs.YtnjjdilmaepokaaGreat
theorem clauseOff_holds : Rows.ClauseOffSaid := clauseOff.proved
end Go.Proofs.YtnjjdilmaepokaaGreat
