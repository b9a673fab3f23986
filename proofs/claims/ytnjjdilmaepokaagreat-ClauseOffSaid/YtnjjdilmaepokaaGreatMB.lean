/- snap.each: a new slice of what a function makes of each element. Conditions: the slice lies in memory; it is short.
   Names that rise. Conditions: the slice lies in memory.
   Package snap: names, nodes, pods, owners. Conditions: the cluster lies in memory and is small.
   vec.Plus: a sum of rows, place by place. Conditions: the rows lie in memory.
   Package snap: whether a cluster may be; package place: whether a placement may be. Conditions: the cluster and the placement lie in memory.
   Package snap: whether a cluster may be; package place: whether a placement may be. Conditions: the cluster and the placement lie in memory.
   Package place: whether a placement may be; what a step makes. Conditions: the cluster and the placement lie in memory. -/
import Derived.Test.YtnjjdilmaepokaaGreatMA
import Derived.Laws.IdiomCopy
set_option linter.unusedVariables false
set_option linter.unusedSimpArgs false
namespace Go.Proofs.YtnjjdilmaepokaaGreat
open Go.RowKit
theorem info_str : (Tryz.prog.info? 9).map (fun i => (i.zero, i.size, i.bytes)) = some (some (.string ⟨#[]⟩), 1, 16) := by kernel_rfl
theorem info_vec : (Tryz.prog.info? 32).map (fun i => (i.zero, i.size, i.bytes)) = some (some (.agg #[.int .i64 0, .int .i64 0, .int .i64 0, .int .i64 0, .int .i64 0]), 5, 40) := by kernel_rfl
theorem info_int : (Tryz.prog.info? 3).map (fun i => (i.zero, i.size, i.bytes)) = some (some (.int .i64 0), 1, 8) := by kernel_rfl


set_option maxHeartbeats 2000000 in
theorem each_Node_str (s : SL Node) (f : Node → ByteArray) (g : Nat) (eg : ∀ args w, (callFunc g args).run Tryz.prog w = .ok (.enter g args) w) (w : World) (hs : s.At Node.enc 10 w) (hn : s.l.length ≤ 65536)
    (hf : ∀ (G : Grw w) x, x ∈ s.l → ∀ W, Below (gr w G).heap.size (gr w G) W → Calls Tryz.prog g #[x.val] W (Gives (.string (f x)) W)) :
    Calls Tryz.prog 88 #[s.val, .func (.func g) #[] #[]] w (GivesSL (fun x => [.string x]) 1 (s.l.map f) w) := by
  obtain ⟨a, c, l⟩ := s
  have hl : l.length ≤ 140737488351232 := hs.big
  have hc := hide hs.cell
  have HF := hide hf
  clear hs hf
  simp only [SL.val] at *
  obtain ⟨i0, hi, hz0, hz1, hz2⟩ := info_parts info_str
  have Hi := hide hi
  have Hz0 := hide hz0
  have Hz1 := hide hz1
  have Hz2 := hide hz2
  clear hi hz0 hz1 hz2
  go_enter Tryz.func88, Tryz.ntmps88
  go_wp2_with (at_make; refine wpList_make_own _ rfl _ _ _ rfl w.heap.size _ i0 _ 1 Tryz.underlying111 Hi.out Hz0.out Hz1.out .i64 .i64 _ l.length rfl rfl rfl (by rw [Hz2.out]; omega) (by simp only [maxLen]; omega) (by simp) ?_; intro w1 hown1 hg1)
  obtain ⟨G1, rfl⟩ := to_gr (grown_below (v := .slice none 0 0) (Below.refl _ w) hg1 (by simp [Value.ownBlock]))
  clear hg1
  have HO1 := hide hown1
  clear hown1
  generalize Value.slice (some ⟨w.heap.size, 0, none⟩) 0 l.length = v0 at *
  go_loopg [5, 13] l.length (fun gg s5 s13 wr => ∃ kk : Nat, kk ≤ l.length ∧ l.length - kk ≤ gg ∧ s13 = .int .i64 kk ∧ Hid (∃ G : Grw w, wr = gr w G ∧ (gr w G).ownsRow w.heap.size 9 1 s5 kk (((l.take kk).map f).flatMap (fun x => [.string x]))))
  case atStart => exact ⟨0, Nat.zero_le _, by omega, rfl, G1, rfl, by simpa using HO1.out⟩
  case round =>
    obtain ⟨kk, hkk, hg, rfl, ⟨G, rfl, HO⟩⟩ := hrel
    have HO' := hide HO
    clear HO HO1
    by_cases hlt : kk < l.length
    · have hx : l[kk]? = some l[kk] := List.getElem?_eq_getElem hlt
      obtain ⟨b, off, rfl, hb, hcell⟩ := hc.out kk l[kk] hx
      have ib : LtB b w.heap.size := ⟨hb⟩
      have HC := hide (fun W hW => HF.out G l[kk] (List.getElem_mem hlt) W hW)
      generalize l[kk] = x at hx hcell HC
      have c0 : w.cell? ⟨b, off + kk * 10, none⟩ = some _ := hcell 0 _ rfl
      have c1 := hcell 1 _ rfl
      have c2 := hcell 2 _ rfl
      have c3 := hcell 3 _ rfl
      have c4 := hcell 4 _ rfl
      have c5 := hcell 5 _ rfl
      have c6 := hcell 6 _ rfl
      have c7 := hcell 7 _ rfl
      have c8 := hcell 8 _ rfl
      have c9 := hcell 9 _ rfl
      have Hx := hide hx
      clear hcell hx hb
      go_wp2_with (first
        | (go_at_fn g; refine (calls_gr (HC.out _ (b_alloc (Below.refl _ _) _))).mono ?_; rintro e w1 ⟨rfl, g1, rfl⟩)
        | (at_builtin; refine wpList_append_own _ rfl _ _ 111 rfl w.heap.size 9 i0 _ 1 16 Tryz.underlying111 Hi.out Hz0.out Hz1.out Hz2.out rfl (by decide) _ _ _ rfl (own_below (own_gr (own_below HO'.out (b_alloc (Below.refl _ _) _)) _) (b_alloc (Below.refl _ _) _)) _ 1 1 [.string (f x)] rfl rfl (cells_new _ _ _) (by simp [Value.oneCell']) (by simp only [maxLen]; omega) (by omega) (b_alloc (b_gr (b_alloc (gr_below w G) _) _) _).size ?_; intro v' w2 hown' hgrow _))
      go_roundg (l.length - (kk + 1))
      case measure => omega
      case rel =>
        have hB := grown_below (b_alloc (b_gr (b_alloc (gr_below w G) _) _) _) hgrow (own_ge HO'.out)
        obtain ⟨G', rfl⟩ := to_gr hB
        exact ⟨kk + 1, by omega, by omega, by go_num, G', rfl, by rw [take_succ_map f Hx.out, flat_snoc]; exact hown'⟩
    · obtain rfl : kk = l.length := by omega
      go_wp2_with fail
      go_ret
      have h := HO'.out
      rw [List.take_length] at h
      exact gives_row (fun _ => rfl) (by rw [List.length_map]; exact h) (by rw [List.length_map]; omega) (gr_below w G)

set_option maxHeartbeats 2000000 in
theorem each_Pod_str (s : SL Pod) (f : Pod → ByteArray) (g : Nat) (eg : ∀ args w, (callFunc g args).run Tryz.prog w = .ok (.enter g args) w) (w : World) (hs : s.At Pod.enc 15 w) (hn : s.l.length ≤ 65536)
    (hf : ∀ (G : Grw w) x, x ∈ s.l → ∀ W, Below (gr w G).heap.size (gr w G) W → Calls Tryz.prog g #[x.val] W (Gives (.string (f x)) W)) :
    Calls Tryz.prog 90 #[s.val, .func (.func g) #[] #[]] w (GivesSL (fun x => [.string x]) 1 (s.l.map f) w) := by
  obtain ⟨a, c, l⟩ := s
  have hl : l.length ≤ 140737488351232 := hs.big
  have hc := hide hs.cell
  have HF := hide hf
  clear hs hf
  simp only [SL.val] at *
  obtain ⟨i0, hi, hz0, hz1, hz2⟩ := info_parts info_str
  have Hi := hide hi
  have Hz0 := hide hz0
  have Hz1 := hide hz1
  have Hz2 := hide hz2
  clear hi hz0 hz1 hz2
  go_enter Tryz.func90, Tryz.ntmps90
  go_wp2_with (at_make; refine wpList_make_own _ rfl _ _ _ rfl w.heap.size _ i0 _ 1 Tryz.underlying111 Hi.out Hz0.out Hz1.out .i64 .i64 _ l.length rfl rfl rfl (by rw [Hz2.out]; omega) (by simp only [maxLen]; omega) (by simp) ?_; intro w1 hown1 hg1)
  obtain ⟨G1, rfl⟩ := to_gr (grown_below (v := .slice none 0 0) (Below.refl _ w) hg1 (by simp [Value.ownBlock]))
  clear hg1
  have HO1 := hide hown1
  clear hown1
  generalize Value.slice (some ⟨w.heap.size, 0, none⟩) 0 l.length = v0 at *
  go_loopg [5, 13] l.length (fun gg s5 s13 wr => ∃ kk : Nat, kk ≤ l.length ∧ l.length - kk ≤ gg ∧ s13 = .int .i64 kk ∧ Hid (∃ G : Grw w, wr = gr w G ∧ (gr w G).ownsRow w.heap.size 9 1 s5 kk (((l.take kk).map f).flatMap (fun x => [.string x]))))
  case atStart => exact ⟨0, Nat.zero_le _, by omega, rfl, G1, rfl, by simpa using HO1.out⟩
  case round =>
    obtain ⟨kk, hkk, hg, rfl, ⟨G, rfl, HO⟩⟩ := hrel
    have HO' := hide HO
    clear HO HO1
    by_cases hlt : kk < l.length
    · have hx : l[kk]? = some l[kk] := List.getElem?_eq_getElem hlt
      obtain ⟨b, off, rfl, hb, hcell⟩ := hc.out kk l[kk] hx
      have ib : LtB b w.heap.size := ⟨hb⟩
      have HC := hide (fun W hW => HF.out G l[kk] (List.getElem_mem hlt) W hW)
      generalize l[kk] = x at hx hcell HC
      have c0 : w.cell? ⟨b, off + kk * 15, none⟩ = some _ := hcell 0 _ rfl
      have c1 := hcell 1 _ rfl
      have c2 := hcell 2 _ rfl
      have c3 := hcell 3 _ rfl
      have c4 := hcell 4 _ rfl
      have c5 := hcell 5 _ rfl
      have c6 := hcell 6 _ rfl
      have c7 := hcell 7 _ rfl
      have c8 := hcell 8 _ rfl
      have c9 := hcell 9 _ rfl
      have c10 := hcell 10 _ rfl
      have c11 := hcell 11 _ rfl
      have c12 := hcell 12 _ rfl
      have c13 := hcell 13 _ rfl
      have c14 := hcell 14 _ rfl
      have Hx := hide hx
      clear hcell hx hb
      go_wp2_with (first
        | (go_at_fn g; refine (calls_gr (HC.out _ (b_alloc (Below.refl _ _) _))).mono ?_; rintro e w1 ⟨rfl, g1, rfl⟩)
        | (at_builtin; refine wpList_append_own _ rfl _ _ 111 rfl w.heap.size 9 i0 _ 1 16 Tryz.underlying111 Hi.out Hz0.out Hz1.out Hz2.out rfl (by decide) _ _ _ rfl (own_below (own_gr (own_below HO'.out (b_alloc (Below.refl _ _) _)) _) (b_alloc (Below.refl _ _) _)) _ 1 1 [.string (f x)] rfl rfl (cells_new _ _ _) (by simp [Value.oneCell']) (by simp only [maxLen]; omega) (by omega) (b_alloc (b_gr (b_alloc (gr_below w G) _) _) _).size ?_; intro v' w2 hown' hgrow _))
      go_roundg (l.length - (kk + 1))
      case measure => omega
      case rel =>
        have hB := grown_below (b_alloc (b_gr (b_alloc (gr_below w G) _) _) _) hgrow (own_ge HO'.out)
        obtain ⟨G', rfl⟩ := to_gr hB
        exact ⟨kk + 1, by omega, by omega, by go_num, G', rfl, by rw [take_succ_map f Hx.out, flat_snoc]; exact hown'⟩
    · obtain rfl : kk = l.length := by omega
      go_wp2_with fail
      go_ret
      have h := HO'.out
      rw [List.take_length] at h
      exact gives_row (fun _ => rfl) (by rw [List.length_map]; exact h) (by rw [List.length_map]; omega) (gr_below w G)

set_option maxHeartbeats 2000000 in
theorem each_Owner_str (s : SL Owner) (f : Owner → ByteArray) (g : Nat) (eg : ∀ args w, (callFunc g args).run Tryz.prog w = .ok (.enter g args) w) (w : World) (hs : s.At Owner.enc 5 w) (hn : s.l.length ≤ 65536)
    (hf : ∀ (G : Grw w) x, x ∈ s.l → ∀ W, Below (gr w G).heap.size (gr w G) W → Calls Tryz.prog g #[x.val] W (Gives (.string (f x)) W)) :
    Calls Tryz.prog 92 #[s.val, .func (.func g) #[] #[]] w (GivesSL (fun x => [.string x]) 1 (s.l.map f) w) := by
  obtain ⟨a, c, l⟩ := s
  have hl : l.length ≤ 140737488351232 := hs.big
  have hc := hide hs.cell
  have HF := hide hf
  clear hs hf
  simp only [SL.val] at *
  obtain ⟨i0, hi, hz0, hz1, hz2⟩ := info_parts info_str
  have Hi := hide hi
  have Hz0 := hide hz0
  have Hz1 := hide hz1
  have Hz2 := hide hz2
  clear hi hz0 hz1 hz2
  go_enter Tryz.func92, Tryz.ntmps92
  go_wp2_with (at_make; refine wpList_make_own _ rfl _ _ _ rfl w.heap.size _ i0 _ 1 Tryz.underlying111 Hi.out Hz0.out Hz1.out .i64 .i64 _ l.length rfl rfl rfl (by rw [Hz2.out]; omega) (by simp only [maxLen]; omega) (by simp) ?_; intro w1 hown1 hg1)
  obtain ⟨G1, rfl⟩ := to_gr (grown_below (v := .slice none 0 0) (Below.refl _ w) hg1 (by simp [Value.ownBlock]))
  clear hg1
  have HO1 := hide hown1
  clear hown1
  generalize Value.slice (some ⟨w.heap.size, 0, none⟩) 0 l.length = v0 at *
  go_loopg [5, 13] l.length (fun gg s5 s13 wr => ∃ kk : Nat, kk ≤ l.length ∧ l.length - kk ≤ gg ∧ s13 = .int .i64 kk ∧ Hid (∃ G : Grw w, wr = gr w G ∧ (gr w G).ownsRow w.heap.size 9 1 s5 kk (((l.take kk).map f).flatMap (fun x => [.string x]))))
  case atStart => exact ⟨0, Nat.zero_le _, by omega, rfl, G1, rfl, by simpa using HO1.out⟩
  case round =>
    obtain ⟨kk, hkk, hg, rfl, ⟨G, rfl, HO⟩⟩ := hrel
    have HO' := hide HO
    clear HO HO1
    by_cases hlt : kk < l.length
    · have hx : l[kk]? = some l[kk] := List.getElem?_eq_getElem hlt
      obtain ⟨b, off, rfl, hb, hcell⟩ := hc.out kk l[kk] hx
      have ib : LtB b w.heap.size := ⟨hb⟩
      have HC := hide (fun W hW => HF.out G l[kk] (List.getElem_mem hlt) W hW)
      generalize l[kk] = x at hx hcell HC
      have c0 : w.cell? ⟨b, off + kk * 5, none⟩ = some _ := hcell 0 _ rfl
      have c1 := hcell 1 _ rfl
      have c2 := hcell 2 _ rfl
      have c3 := hcell 3 _ rfl
      have c4 := hcell 4 _ rfl
      have Hx := hide hx
      clear hcell hx hb
      go_wp2_with (first
        | (go_at_fn g; refine (calls_gr (HC.out _ (b_alloc (Below.refl _ _) _))).mono ?_; rintro e w1 ⟨rfl, g1, rfl⟩)
        | (at_builtin; refine wpList_append_own _ rfl _ _ 111 rfl w.heap.size 9 i0 _ 1 16 Tryz.underlying111 Hi.out Hz0.out Hz1.out Hz2.out rfl (by decide) _ _ _ rfl (own_below (own_gr (own_below HO'.out (b_alloc (Below.refl _ _) _)) _) (b_alloc (Below.refl _ _) _)) _ 1 1 [.string (f x)] rfl rfl (cells_new _ _ _) (by simp [Value.oneCell']) (by simp only [maxLen]; omega) (by omega) (b_alloc (b_gr (b_alloc (gr_below w G) _) _) _).size ?_; intro v' w2 hown' hgrow _))
      go_roundg (l.length - (kk + 1))
      case measure => omega
      case rel =>
        have hB := grown_below (b_alloc (b_gr (b_alloc (gr_below w G) _) _) _) hgrow (own_ge HO'.out)
        obtain ⟨G', rfl⟩ := to_gr hB
        exact ⟨kk + 1, by omega, by omega, by go_num, G', rfl, by rw [take_succ_map f Hx.out, flat_snoc]; exact hown'⟩
    · obtain rfl : kk = l.length := by omega
      go_wp2_with fail
      go_ret
      have h := HO'.out
      rw [List.take_length] at h
      exact gives_row (fun _ => rfl) (by rw [List.length_map]; exact h) (by rw [List.length_map]; omega) (gr_below w G)

set_option maxHeartbeats 2000000 in
theorem each_Node_vec (s : SL Node) (f : Node → Vec) (g : Nat) (eg : ∀ args w, (callFunc g args).run Tryz.prog w = .ok (.enter g args) w) (w : World) (hs : s.At Node.enc 10 w) (hn : s.l.length ≤ 65536)
    (hf : ∀ (G : Grw w) x, x ∈ s.l → ∀ W, Below (gr w G).heap.size (gr w G) W → Calls Tryz.prog g #[x.val] W (Gives ((f x).val) W)) :
    Calls Tryz.prog 68 #[s.val, .func (.func g) #[] #[]] w (GivesSL Vec.enc 5 (s.l.map f) w) := by
  obtain ⟨a, c, l⟩ := s
  have hl : l.length ≤ 140737488351232 := hs.big
  have hc := hide hs.cell
  have HF := hide hf
  clear hs hf
  simp only [SL.val] at *
  obtain ⟨i0, hi, hz0, hz1, hz2⟩ := info_parts info_vec
  have Hi := hide hi
  have Hz0 := hide hz0
  have Hz1 := hide hz1
  have Hz2 := hide hz2
  clear hi hz0 hz1 hz2
  go_enter Tryz.func68, Tryz.ntmps68
  go_wp2_with (at_make; refine wpList_make_own _ rfl _ _ _ rfl w.heap.size _ i0 _ 5 Tryz.underlying101 Hi.out Hz0.out Hz1.out .i64 .i64 _ l.length rfl rfl rfl (by rw [Hz2.out]; omega) (by simp only [maxLen]; omega) (by simp) ?_; intro w1 hown1 hg1)
  obtain ⟨G1, rfl⟩ := to_gr (grown_below (v := .slice none 0 0) (Below.refl _ w) hg1 (by simp [Value.ownBlock]))
  clear hg1
  have HO1 := hide hown1
  clear hown1
  generalize Value.slice (some ⟨w.heap.size, 0, none⟩) 0 l.length = v0 at *
  go_loopg [5, 13] l.length (fun gg s5 s13 wr => ∃ kk : Nat, kk ≤ l.length ∧ l.length - kk ≤ gg ∧ s13 = .int .i64 kk ∧ Hid (∃ G : Grw w, wr = gr w G ∧ (gr w G).ownsRow w.heap.size 32 5 s5 kk (((l.take kk).map f).flatMap Vec.enc)))
  case atStart => exact ⟨0, Nat.zero_le _, by omega, rfl, G1, rfl, by simpa using HO1.out⟩
  case round =>
    obtain ⟨kk, hkk, hg, rfl, ⟨G, rfl, HO⟩⟩ := hrel
    have HO' := hide HO
    clear HO HO1
    by_cases hlt : kk < l.length
    · have hx : l[kk]? = some l[kk] := List.getElem?_eq_getElem hlt
      obtain ⟨b, off, rfl, hb, hcell⟩ := hc.out kk l[kk] hx
      have ib : LtB b w.heap.size := ⟨hb⟩
      have HC := hide (fun W hW => HF.out G l[kk] (List.getElem_mem hlt) W hW)
      generalize l[kk] = x at hx hcell HC
      have c0 : w.cell? ⟨b, off + kk * 10, none⟩ = some _ := hcell 0 _ rfl
      have c1 := hcell 1 _ rfl
      have c2 := hcell 2 _ rfl
      have c3 := hcell 3 _ rfl
      have c4 := hcell 4 _ rfl
      have c5 := hcell 5 _ rfl
      have c6 := hcell 6 _ rfl
      have c7 := hcell 7 _ rfl
      have c8 := hcell 8 _ rfl
      have c9 := hcell 9 _ rfl
      have Hx := hide hx
      clear hcell hx hb
      simp only [Vec.val] at HC
      go_wp2_with (first
        | (go_at_fn g; refine (calls_gr (HC.out _ (b_alloc (Below.refl _ _) _))).mono ?_; rintro e w1 ⟨rfl, g1, rfl⟩)
        | (at_builtin; refine wpList_append_own _ rfl _ _ 101 rfl w.heap.size 32 i0 _ 5 40 Tryz.underlying101 Hi.out Hz0.out Hz1.out Hz2.out rfl (by decide) _ _ _ rfl (own_below (own_gr (own_below HO'.out (b_alloc (Below.refl _ _) _)) _) (b_alloc (Below.refl _ _) _)) _ 1 1 (Vec.enc (f x)) rfl rfl (cells_new _ _ _) (by simp [Value.oneCell']) (by simp only [maxLen]; omega) (by omega) (b_alloc (b_gr (b_alloc (gr_below w G) _) _) _).size ?_; intro v' w2 hown' hgrow _))
      go_roundg (l.length - (kk + 1))
      case measure => omega
      case rel =>
        have hB := grown_below (b_alloc (b_gr (b_alloc (gr_below w G) _) _) _) hgrow (own_ge HO'.out)
        obtain ⟨G', rfl⟩ := to_gr hB
        exact ⟨kk + 1, by omega, by omega, by go_num, G', rfl, by rw [take_succ_map f Hx.out, flat_snoc]; exact hown'⟩
    · obtain rfl : kk = l.length := by omega
      go_wp2_with fail
      go_ret
      have h := HO'.out
      rw [List.take_length] at h
      exact gives_row (fun _ => rfl) (by rw [List.length_map]; exact h) (by rw [List.length_map]; omega) (gr_below w G)

set_option maxHeartbeats 2000000 in
theorem each_Pod_vec (s : SL Pod) (f : Pod → Vec) (g : Nat) (eg : ∀ args w, (callFunc g args).run Tryz.prog w = .ok (.enter g args) w) (w : World) (hs : s.At Pod.enc 15 w) (hn : s.l.length ≤ 65536)
    (hf : ∀ (G : Grw w) x, x ∈ s.l → ∀ W, Below (gr w G).heap.size (gr w G) W → Calls Tryz.prog g #[x.val] W (Gives ((f x).val) W)) :
    Calls Tryz.prog 70 #[s.val, .func (.func g) #[] #[]] w (GivesSL Vec.enc 5 (s.l.map f) w) := by
  obtain ⟨a, c, l⟩ := s
  have hl : l.length ≤ 140737488351232 := hs.big
  have hc := hide hs.cell
  have HF := hide hf
  clear hs hf
  simp only [SL.val] at *
  obtain ⟨i0, hi, hz0, hz1, hz2⟩ := info_parts info_vec
  have Hi := hide hi
  have Hz0 := hide hz0
  have Hz1 := hide hz1
  have Hz2 := hide hz2
  clear hi hz0 hz1 hz2
  go_enter Tryz.func70, Tryz.ntmps70
  go_wp2_with (at_make; refine wpList_make_own _ rfl _ _ _ rfl w.heap.size _ i0 _ 5 Tryz.underlying101 Hi.out Hz0.out Hz1.out .i64 .i64 _ l.length rfl rfl rfl (by rw [Hz2.out]; omega) (by simp only [maxLen]; omega) (by simp) ?_; intro w1 hown1 hg1)
  obtain ⟨G1, rfl⟩ := to_gr (grown_below (v := .slice none 0 0) (Below.refl _ w) hg1 (by simp [Value.ownBlock]))
  clear hg1
  have HO1 := hide hown1
  clear hown1
  generalize Value.slice (some ⟨w.heap.size, 0, none⟩) 0 l.length = v0 at *
  go_loopg [5, 13] l.length (fun gg s5 s13 wr => ∃ kk : Nat, kk ≤ l.length ∧ l.length - kk ≤ gg ∧ s13 = .int .i64 kk ∧ Hid (∃ G : Grw w, wr = gr w G ∧ (gr w G).ownsRow w.heap.size 32 5 s5 kk (((l.take kk).map f).flatMap Vec.enc)))
  case atStart => exact ⟨0, Nat.zero_le _, by omega, rfl, G1, rfl, by simpa using HO1.out⟩
  case round =>
    obtain ⟨kk, hkk, hg, rfl, ⟨G, rfl, HO⟩⟩ := hrel
    have HO' := hide HO
    clear HO HO1
    by_cases hlt : kk < l.length
    · have hx : l[kk]? = some l[kk] := List.getElem?_eq_getElem hlt
      obtain ⟨b, off, rfl, hb, hcell⟩ := hc.out kk l[kk] hx
      have ib : LtB b w.heap.size := ⟨hb⟩
      have HC := hide (fun W hW => HF.out G l[kk] (List.getElem_mem hlt) W hW)
      generalize l[kk] = x at hx hcell HC
      have c0 : w.cell? ⟨b, off + kk * 15, none⟩ = some _ := hcell 0 _ rfl
      have c1 := hcell 1 _ rfl
      have c2 := hcell 2 _ rfl
      have c3 := hcell 3 _ rfl
      have c4 := hcell 4 _ rfl
      have c5 := hcell 5 _ rfl
      have c6 := hcell 6 _ rfl
      have c7 := hcell 7 _ rfl
      have c8 := hcell 8 _ rfl
      have c9 := hcell 9 _ rfl
      have c10 := hcell 10 _ rfl
      have c11 := hcell 11 _ rfl
      have c12 := hcell 12 _ rfl
      have c13 := hcell 13 _ rfl
      have c14 := hcell 14 _ rfl
      have Hx := hide hx
      clear hcell hx hb
      simp only [Vec.val] at HC
      go_wp2_with (first
        | (go_at_fn g; refine (calls_gr (HC.out _ (b_alloc (Below.refl _ _) _))).mono ?_; rintro e w1 ⟨rfl, g1, rfl⟩)
        | (at_builtin; refine wpList_append_own _ rfl _ _ 101 rfl w.heap.size 32 i0 _ 5 40 Tryz.underlying101 Hi.out Hz0.out Hz1.out Hz2.out rfl (by decide) _ _ _ rfl (own_below (own_gr (own_below HO'.out (b_alloc (Below.refl _ _) _)) _) (b_alloc (Below.refl _ _) _)) _ 1 1 (Vec.enc (f x)) rfl rfl (cells_new _ _ _) (by simp [Value.oneCell']) (by simp only [maxLen]; omega) (by omega) (b_alloc (b_gr (b_alloc (gr_below w G) _) _) _).size ?_; intro v' w2 hown' hgrow _))
      go_roundg (l.length - (kk + 1))
      case measure => omega
      case rel =>
        have hB := grown_below (b_alloc (b_gr (b_alloc (gr_below w G) _) _) _) hgrow (own_ge HO'.out)
        obtain ⟨G', rfl⟩ := to_gr hB
        exact ⟨kk + 1, by omega, by omega, by go_num, G', rfl, by rw [take_succ_map f Hx.out, flat_snoc]; exact hown'⟩
    · obtain rfl : kk = l.length := by omega
      go_wp2_with fail
      go_ret
      have h := HO'.out
      rw [List.take_length] at h
      exact gives_row (fun _ => rfl) (by rw [List.length_map]; exact h) (by rw [List.length_map]; omega) (gr_below w G)
end Go.Proofs.YtnjjdilmaepokaaGreat
namespace Go.Proofs.YtnjjdilmaepokaaGreat
open Go.RowKit
theorem isNaN_ok (a : ByteArray) (w : World) : Calls Tryz.prog 159 #[.string a] w fun e w' => e = .returned (.bool false) ∧ w = w' := by
  go_enter Tryz.func159, Tryz.ntmps159
  go_wp2
  go_ret
  exact ⟨by simp, rfl⟩
theorem less_ok (a b : ByteArray) (w : World) : Calls Tryz.prog 135 #[.string a, .string b] w (Gives (.bool (slt a b)) w) := by
  go_enter Tryz.func135, Tryz.ntmps135
  go_wp2_with (go_at_call 159; refine (isNaN_ok _ _).mono ?_; rintro e w1 ⟨rfl, rfl⟩)
  go_ret
  exact ⟨by rw [← slt_w]; rfl, Below.refl _ _⟩
def downAt (l : List ByteArray) (i : Nat) : Bool := decide (0 < i) && slt (l.getD i ⟨#[]⟩) (l.getD (i - 1) ⟨#[]⟩)
def sortedB (l : List ByteArray) : Bool := !(List.range l.length).any (downAt l)
set_option maxHeartbeats 1000000 in
theorem isSorted_ok (s : SL ByteArray) (w : World) (hs : Strs w s) : Calls Tryz.prog 85 #[s.val] w (Gives (.bool (sortedB s.l)) w) := by
  obtain ⟨a, c, l⟩ := s
  have hl : l.length ≤ 140737488351232 := hs.big
  have hc := hide hs.cell
  clear hs
  simp only [SL.val] at *
  go_enter Tryz.func85, Tryz.ntmps85
  go_wp2_with fail
  go_loopg [3] l.length (fun gg s3 wr => ∃ i : Int, -1 ≤ i ∧ i < l.length ∧ (i.toNat : Nat) ≤ gg ∧ s3 = .int .i64 i ∧ Hid (∃ G : Grw w, wr = gr w G) ∧ Hid (∀ j : Nat, i < j → j < l.length → downAt l j = false))
  case atStart => exact ⟨(l.length : Int) - 1, by omega, by omega, by omega, rfl, to_gr (Below.refl _ w), fun j h1 h2 => by omega⟩
  case round =>
    obtain ⟨i, h1, h2, hg, rfl, ⟨G, rfl⟩, A⟩ := hrel
    by_cases hlt : 0 < i
    · obtain ⟨j, rfl⟩ : ∃ j : Nat, i = (j : Int) + 1 := ⟨(i - 1).toNat, by omega⟩
      have hx : l[j + 1]? = some (l.getD (j + 1) ⟨#[]⟩) := by rw [List.getD_eq_getElem?_getD, List.getElem?_eq_getElem (by omega)]; rfl
      have hy : l[j]? = some (l.getD j ⟨#[]⟩) := by rw [List.getD_eq_getElem?_getD, List.getElem?_eq_getElem (by omega)]; rfl
      obtain ⟨b, off, rfl, hb, hcell⟩ := hc.out (j + 1) _ hx
      obtain ⟨b', off', he, _, hcell'⟩ := hc.out j _ hy
      injection he with he
      injection he with he1 he2
      subst he1 he2
      have ib : LtB b w.heap.size := ⟨hb⟩
      have hd : downAt l (j + 1) = slt (l.getD (j + 1) ⟨#[]⟩) (l.getD j ⟨#[]⟩) := by simp [downAt]
      generalize l.getD (j + 1) ⟨#[]⟩ = x at *
      generalize l.getD j ⟨#[]⟩ = y at *
      have c0 : w.cell? ⟨b, off + (j + 1), none⟩ = some (.string x) := by have h := hcell 0 _ rfl; simpa using h
      have d0 : w.cell? ⟨b, off + j, none⟩ = some (.string y) := by have h := hcell' 0 _ rfl; simpa using h
      have HL := hide (fun W => less_ok x y W)
      have Hd := hide hd
      clear hcell hcell' hx hy hb hd
      cases hq : slt x y
      all_goals
        rw [hq] at HL Hd
        clear hq
        go_wp2_with fail
        refine wp_region_gr (by kernel_rfl) (by kernel_rfl) ?_
        repeat (go_big_quiet_step ((first | (go_at_call 135; exact quiet_call (HL.out _)))))
        refine wpQuiet_nil ?_
        intro g
        go_wp2_with fail
      · go_roundg j
        case measure => omega
        case rel =>
          refine ⟨(j : Int), by omega, by omega, by omega, by go_num, to_gr (b_gr (gr_below w G) _), fun k hk hk' => ?_⟩
          rcases Nat.lt_or_ge (j + 1) k with h | h
          · exact A.out k (by omega) hk'
          · obtain rfl : k = j + 1 := by omega
            exact Hd.out
      · go_ret
        exact ⟨by rw [sortedB, range_any_hit (k := j + 1) (by omega) Hd.out]; rfl, b_gr (gr_below w G) _⟩
    · have A' := hide (range_any_none (n := l.length) (p := downAt l) (fun k h => by
        rcases Nat.eq_zero_or_pos k with h0 | h0
        · subst h0; rfl
        · exact A.out k (by omega) h))
      clear A
      go_wp2_with fail
      go_ret
      exact ⟨by rw [sortedB, A'.out]; rfl, gr_below w G⟩

/-! ### Clone and Compact -/
theorem cloneStr_ok (s : SL ByteArray) (w : World) (hs : Strs w s) (hn : s.l.length ≤ 65536) : Calls Tryz.prog 87 #[s.val] w fun e w' => ∃ v', e = .returned v' ∧ w'.ownsRow w.heap.size 9 1 v' s.l.length (s.l.map Value.string) ∧ Below w.heap.size w w' := by
  obtain ⟨a, c, l⟩ := s
  by_cases h0 : l = []
  · subst h0
    cases a with
    | none => exact (Tryz.slices_Clone_string_nil 0 c w).mono fun e w' ⟨he, hw⟩ => ⟨_, he, hw ▸ ⟨by simp, .inl ⟨rfl, rfl⟩⟩, hw ▸ Below.refl _ _⟩
    | some a => exact (Tryz.slices_Clone_string_zero a c w).mono fun e w' ⟨v', he, ho, _, hb⟩ => ⟨v', he, ho, hb⟩
  · obtain ⟨b, off, rfl, hb, _⟩ := hs.cell 0 _ (List.getElem?_eq_getElem (List.length_pos_iff.2 h0))
    have hcell : ∀ j, j < l.length → w.cell? ⟨b, off + j, none⟩ = some (.string (l.getD j ByteArray.empty)) := fun j hj => by
      obtain ⟨b', off', he, _, hc⟩ := hs.cell j _ (List.getElem?_eq_getElem hj)
      injection he with he
      injection he with he1 he2
      subst he1 he2
      have := hc 0 _ rfl
      rw [List.getD_eq_getElem?_getD, List.getElem?_eq_getElem hj]
      simpa using this
    simp only at hn
    exact (Tryz.slices_Clone_string b off l.length c l w (Nat.le_refl _) (by omega) hcell).mono fun e w' ⟨v', he, ho, _, hb'⟩ => ⟨v', he, by rw [List.take_length] at ho; exact ho, hb'⟩
def bytesOf (l : List ByteArray) : List (List UInt8) := l.map fun s => s.data.toList
theorem below_setCells {B b : Nat} {a : World} (hb : B ≤ b) : ∀ (vs : List Value) (o : Nat) (w : World), Below B a w → Below B a (w.setCells b o vs)
  | [], _, _, h => h
  | v :: r, o, w, h => below_setCells hb r (o + 1) _ (h.setCell (p := ⟨b, o, none⟩) hb v)
theorem compact_ok {l : List ByteArray} {base : Nat} {v : Value} (w : World) (h : w.ownsRow base 9 1 v l.length (l.map Value.string)) (hn : l.length ≤ 65536) :
    Calls Tryz.prog 86 #[v] w fun e w' => ∃ a c, e = .returned (.slice a (Lib.compact (bytesOf l)).length c) ∧ Below base w w' := by
  rcases h.2 with ⟨rfl, h0⟩ | ⟨g, cap, cur, rfl, hbg, hh, hnc, hcap, hsz, ht⟩
  · have : l = [] := List.eq_nil_of_length_eq_zero h0
    subst this
    exact (Tryz.slices_Compact_string_empty none 0 w).mono fun e w' ⟨he, hw⟩ => ⟨none, 0, he, hw ▸ Below.refl _ _⟩
  · have hcell : ∀ i, i < l.length → w.cell? ⟨g, 0 + i, none⟩ = some (.string (l.getD i ByteArray.empty)) := fun i hi => by
      rw [Nat.zero_add, cell_of_row w g i cur _ (0, 0) hh, ← Array.getElem?_toList]
      have hf : (cur.toList.take (l.length * 1))[i]? = some (.string (l.getD i ByteArray.empty)) := by
        rw [ht, List.getElem?_map, List.getD_eq_getElem?_getD, List.getElem?_eq_getElem hi]; rfl
      rw [List.getElem?_take] at hf
      split at hf
      · exact hf
      · cases hf
    have hfz : ∀ j, j < l.length → w.frozen? ⟨g, 0 + j, none⟩ = false := fun j _ => by simp [World.frozen?, hh]
    refine (Tryz.slices_Compact_string_cells g 0 l.length cap (fun i => l.getD i ByteArray.empty) w (by omega) hnc hcell hfz).mono ?_
    rintro e w' ⟨he, q, rfl⟩
    have hl : Lib.strsOf (fun i => l.getD i ByteArray.empty) l.length = bytesOf l := by
      unfold Lib.strsOf bytesOf
      apply List.ext_getElem?
      intro i
      rw [List.getElem?_map, List.getElem?_map]
      rcases Nat.lt_or_ge i l.length with hi | hi
      · rw [List.getElem?_range hi, List.getElem?_eq_getElem hi]
        simp [List.getD_eq_getElem?_getD, List.getElem?_eq_getElem hi]
      · rw [List.getElem?_eq_none (by simpa using hi), List.getElem?_eq_none (by simpa using hi)]
        rfl
    rw [hl] at he
    exact ⟨_, _, he, below_setCells hbg _ _ _ ⟨rfl, rfl, rfl, Nat.le_refl _, fun _ _ => rfl⟩⟩
def riseB (l : List ByteArray) : Bool := !(l.any fun s => !nameB s) && sortedB l && decide ((Lib.compact (bytesOf l)).length = l.length)
theorem rise1_ok (s : ByteArray) (w : World) : Calls Tryz.prog 83 #[.string s] w (Gives (.bool (!nameB s)) w) := by
  have H := hide (name_ok s w)
  go_enter Tryz.func83, Tryz.ntmps83
  go_wp2_with (go_at_call 84; refine H.out.mono ?_; rintro e w1 ⟨rfl, hb⟩)
  go_ret
  exact ⟨rfl, hb⟩
set_option maxHeartbeats 1000000 in
theorem rise_ok (s : SL ByteArray) (w : World) (hs : Strs w s) (hn : s.l.length ≤ 65536) : Calls Tryz.prog 54 #[s.val] w (Gives (.bool (riseB s.l)) w) := by
  have H1 := hide (ContainsFunc_Strings s (fun x => !nameB x) 83 #[] (enters_of Tryz.func83 (by kernel_rfl) rfl) w hs (fun G x _ => rise1_ok x _))
  have H2 := hide (fun G : Grw w => isSorted_ok s (gr w G) (hs.below (gr_below w G)))
  have H3 := hide (fun (G : Grw w) (G' : Grw (gr w G)) => cloneStr_ok s (gr (gr w G) G') ((hs.below (gr_below w G)).below (gr_below _ G')) hn)
  have H4 := hide (fun (base : Nat) (v : Value) (W : World) (h : W.ownsRow base 9 1 v s.l.length (s.l.map Value.string)) => compact_ok W h hn)
  unfold riseB
  have hl := hs.big
  obtain ⟨a, c, l⟩ := s
  clear hs
  simp only [SL.val] at *
  generalize l.any (fun x => !nameB x) = q1 at *
  generalize sortedB l = q2 at *
  generalize hm : (Lib.compact (bytesOf l)).length = m at *
  clear hm
  cases q1
  · cases q2
    · go_enter Tryz.func54, Tryz.ntmps54
      go_wp2_with fail
      refine (calls_gr H1.out).mono ?_
      rintro e w1 ⟨rfl, g1, rfl⟩
      go_wp2_with fail
      refine (calls_gr (H2.out _)).mono ?_
      rintro e w1 ⟨rfl, g2, rfl⟩
      go_wp2_with fail
      go_ret
      exact ⟨rfl, b_gr (gr_below w _) _⟩
    · go_enter Tryz.func54, Tryz.ntmps54
      go_wp2_with fail
      refine (calls_gr H1.out).mono ?_
      rintro e w1 ⟨rfl, g1, rfl⟩
      go_wp2_with fail
      refine (calls_gr (H2.out _)).mono ?_
      rintro e w1 ⟨rfl, g2, rfl⟩
      go_wp2_with fail
      refine (H3.out _ _).mono ?_
      rintro e w1 ⟨v', rfl, ho, hb⟩
      go_wp2_with fail
      refine (H4.out _ _ _ ho).mono ?_
      rintro e w2 ⟨a', c', rfl, hb'⟩
      go_wp2_with fail
      go_ret
      have he : ((m : Int) == (l.length : Int)) = decide (m = l.length) := by
        rw [Bool.eq_iff_iff, beq_iff_eq, decide_eq_true_iff]
        omega
      exact ⟨by rw [← he]; rfl, b_then (b_gr (gr_below w g1) g2) (hb.trans hb')⟩
  · go_enter Tryz.func54, Tryz.ntmps54
    go_wp2_with fail
    refine (calls_gr H1.out).mono ?_
    rintro e w1 ⟨rfl, g1, rfl⟩
    go_wp2_with fail
    go_ret
    exact ⟨rfl, gr_below w _⟩
end Go.Proofs.YtnjjdilmaepokaaGreat
namespace Go.Proofs.YtnjjdilmaepokaaGreat
open Go.RowKit
theorem at_blk {α : Type} {enc : α → List Value} {k : Nat} {w : World} {B : Nat} {t : TypeId} {cs : Array Value} {xs : List α} {c : Nat} (h : Blk w B t cs) (hcs : cs.toList = xs.flatMap enc) (hk : ∀ x, (enc x).length = k) (hl : xs.length ≤ c) (hb : xs.length ≤ 140737488351232) (hc : c ≤ 9223372036854775807) : (⟨some ⟨B, 0, none⟩, c, xs⟩ : SL α).At enc k w :=
  ⟨hl, hb, hc, fun i x hx => ⟨B, 0, rfl, h.lt, fun j v hv => by
    have hf := flat_at hk xs i x j v hx hv
    rw [← hcs, Array.getElem?_toList] at hf
    rw [Nat.zero_add, h.cell]
    exact hf⟩⟩
theorem idxFromS_eq (x : ByteArray) : ∀ (zs : List ByteArray) (i : Nat), Lib.idxFromS zs x i = if idxOf (fun y => seq y x) zs < 0 then -1 else idxOf (fun y => seq y x) zs + i
  | [], i => by simp [Lib.idxFromS, idxOf]
  | z :: zs, i => by
    simp only [Lib.idxFromS, idxOf]
    by_cases h : z = x
    · have : seq z x = true := (seq_iff z x).2 h
      simp [h, (seq_iff x x).2 rfl]
    · have : seq z x = false := by
        cases hq : seq z x
        · rfl
        · exact absurd ((seq_iff z x).1 hq) h
      have hr := idxOf_range (fun y => seq y x) zs
      by_cases h' : idxOf (fun y => seq y x) zs < 0
      · simp [h, this, idxFromS_eq x zs (i + 1), h']
      · have h2 : ¬ idxOf (fun y => seq y x) zs + 1 < 0 := by omega
        simp only [if_neg h, this, Bool.false_eq_true, if_false, idxFromS_eq x zs (i + 1), if_neg h', if_neg h2]
        omega
theorem idxOfS_eq (zs : List ByteArray) (x : ByteArray) : Lib.idxOfS zs x = idxOf (fun y => seq y x) zs := by
  unfold Lib.idxOfS
  rw [idxFromS_eq]
  have hr := idxOf_range (fun y => seq y x) zs
  split <;> omega
theorem indexStr_ok (s : SL ByteArray) (x : ByteArray) (w : World) (hs : Strs w s) : Calls Tryz.prog 131 #[s.val, .string x] w (Gives (.int .i64 (idxOf (fun y => seq y x) s.l)) w) := by
  obtain ⟨a, c, l⟩ := s
  have hb := hs.big
  by_cases h0 : l = []
  · subst h0
    exact (Tryz.slices_Index_string_empty a c x w).mono fun e w' ⟨he, hw⟩ => ⟨by rw [he, idxOfS_eq], hw ▸ Below.refl _ _⟩
  · obtain ⟨b, off, rfl, _, _⟩ := hs.cell 0 _ (List.getElem?_eq_getElem (List.length_pos_iff.2 h0))
    have hcell : ∀ j, j < l.length → w.cell? ⟨b, off + j, none⟩ = some (.string (l.getD j ByteArray.empty)) := fun j hj => by
      obtain ⟨b', off', he, _, hc⟩ := hs.cell j _ (List.getElem?_eq_getElem hj)
      injection he with he
      injection he with he1 he2
      subst he1 he2
      have := hc 0 _ rfl
      rw [List.getD_eq_getElem?_getD, List.getElem?_eq_getElem hj]
      simpa using this
    simp only at hb
    exact (Tryz.slices_Index_string b off l.length c l x w (Nat.le_refl _) (by omega) hcell).mono fun e w' ⟨he, hw⟩ => ⟨by rw [he, List.take_length, idxOfS_eq], hw ▸ Below.refl _ _⟩


theorem nodes1_ok (x : Node) (w : World) : Calls Tryz.prog 89 #[x.val] w (Gives (.string x.name) w) := by
  simp only [Node.val]
  go_enter Tryz.func89, Tryz.ntmps89
  go_wp2
  go_ret
  exact ⟨rfl, b_alloc (Below.refl _ _) _⟩
def nodesNames (s : Snap) : List ByteArray := s.nodes.l.map fun x => x.name
theorem nodes_ok (s : Snap) (w : World) (hs : s.At w) (hn : s.nodes.l.length ≤ 65536) : Calls Tryz.prog 55 #[s.val] w (GivesSL (fun x => [.string x]) 1 (nodesNames s) w) := by
  have HE := hide (each_Node_str s.nodes (fun x => x.name) 89 (enters_of Tryz.func89 (by kernel_rfl) rfl) (w.alloc (.cells #[.slice s.nodes.a s.nodes.l.length s.nodes.c, .slice s.pods.a s.pods.l.length s.pods.c, .slice s.owners.a s.owners.l.length s.owners.c] 26)) ((hs.nodes).below (b_alloc (Below.refl _ _) _)) hn (fun G x _ W _ => nodes1_ok x W))
  clear hs
  simp only [Snap.val, SL.val] at *
  go_enter Tryz.func55, Tryz.ntmps55
  go_wp2_with (go_at_call 88; refine HE.out.mono ?_; rintro e w1 ⟨r, hr, rfl, hat, hb⟩; have Hr := hide hr; clear hr)
  go_ret
  exact ⟨r, Hr.out, rfl, hat, b_then (b_alloc (Below.refl _ _) _) hb⟩

theorem pods1_ok (x : Pod) (w : World) : Calls Tryz.prog 91 #[x.val] w (Gives (.string x.name) w) := by
  simp only [Pod.val]
  go_enter Tryz.func91, Tryz.ntmps91
  go_wp2
  go_ret
  exact ⟨rfl, b_alloc (Below.refl _ _) _⟩
def podsNames (s : Snap) : List ByteArray := s.pods.l.map fun x => x.name
theorem pods_ok (s : Snap) (w : World) (hs : s.At w) (hn : s.pods.l.length ≤ 65536) : Calls Tryz.prog 56 #[s.val] w (GivesSL (fun x => [.string x]) 1 (podsNames s) w) := by
  have HE := hide (each_Pod_str s.pods (fun x => x.name) 91 (enters_of Tryz.func91 (by kernel_rfl) rfl) (w.alloc (.cells #[.slice s.nodes.a s.nodes.l.length s.nodes.c, .slice s.pods.a s.pods.l.length s.pods.c, .slice s.owners.a s.owners.l.length s.owners.c] 26)) ((hs.pods).below (b_alloc (Below.refl _ _) _)) hn (fun G x _ W _ => pods1_ok x W))
  clear hs
  simp only [Snap.val, SL.val] at *
  go_enter Tryz.func56, Tryz.ntmps56
  go_wp2_with (go_at_call 90; refine HE.out.mono ?_; rintro e w1 ⟨r, hr, rfl, hat, hb⟩; have Hr := hide hr; clear hr)
  go_ret
  exact ⟨r, Hr.out, rfl, hat, b_then (b_alloc (Below.refl _ _) _) hb⟩

theorem owners1_ok (x : Owner) (w : World) : Calls Tryz.prog 93 #[x.val] w (Gives (.string x.name) w) := by
  simp only [Owner.val]
  go_enter Tryz.func93, Tryz.ntmps93
  go_wp2
  go_ret
  exact ⟨rfl, b_alloc (Below.refl _ _) _⟩
def ownersNames (s : Snap) : List ByteArray := s.owners.l.map fun x => x.name
theorem owners_ok (s : Snap) (w : World) (hs : s.At w) (hn : s.owners.l.length ≤ 65536) : Calls Tryz.prog 57 #[s.val] w (GivesSL (fun x => [.string x]) 1 (ownersNames s) w) := by
  have HE := hide (each_Owner_str s.owners (fun x => x.name) 93 (enters_of Tryz.func93 (by kernel_rfl) rfl) (w.alloc (.cells #[.slice s.nodes.a s.nodes.l.length s.nodes.c, .slice s.pods.a s.pods.l.length s.pods.c, .slice s.owners.a s.owners.l.length s.owners.c] 26)) ((hs.owners).below (b_alloc (Below.refl _ _) _)) hn (fun G x _ W _ => owners1_ok x W))
  clear hs
  simp only [Snap.val, SL.val] at *
  go_enter Tryz.func57, Tryz.ntmps57
  go_wp2_with (go_at_call 92; refine HE.out.mono ?_; rintro e w1 ⟨r, hr, rfl, hat, hb⟩; have Hr := hide hr; clear hr)
  go_ret
  exact ⟨r, Hr.out, rfl, hat, b_then (b_alloc (Below.refl _ _) _) hb⟩

def nodeIdx (s : Snap) (x : ByteArray) : Int := idxOf (fun y => seq y x) (nodesNames s)
theorem snapNode_ok (s : Snap) (x : ByteArray) (w : World) (hs : s.At w) (hn : s.nodes.l.length ≤ 65536) : Calls Tryz.prog 99 #[s.val, .string x] w (Gives (.int .i64 (nodeIdx s x)) w) := by
  have HN := hide (nodes_ok s (w.alloc (.cells #[.slice s.nodes.a s.nodes.l.length s.nodes.c, .slice s.pods.a s.pods.l.length s.pods.c, .slice s.owners.a s.owners.l.length s.owners.c] 26)) (hs.below (b_alloc (Below.refl _ _) _)) hn)
  unfold nodeIdx
  generalize nodesNames s = l at *
  clear hs hn
  simp only [Snap.val, SL.val] at *
  go_enter Tryz.func99, Tryz.ntmps99
  go_wp2_with fail
  refine HN.out.mono ?_
  rintro e w1 ⟨⟨a, c, l'⟩, rfl, rfl, hat, hb⟩
  have HI := hide (indexStr_ok ⟨a, c, l'⟩ x w1 hat)
  clear hat HN
  simp only [SL.val] at *
  go_wp2_with (go_at_call 131; refine HI.out.mono ?_; rintro e w2 ⟨rfl, hb2⟩)
  go_ret
  exact ⟨rfl, b_then (b_then (b_alloc (Below.refl _ _) _) hb) hb2⟩

def ownerIdx (s : Snap) (x : ByteArray) : Int := idxOf (fun y => seq y x) (ownersNames s)
theorem snapOwner_ok (s : Snap) (x : ByteArray) (w : World) (hs : s.At w) (hn : s.owners.l.length ≤ 65536) : Calls Tryz.prog 100 #[s.val, .string x] w (Gives (.int .i64 (ownerIdx s x)) w) := by
  have HN := hide (owners_ok s (w.alloc (.cells #[.slice s.nodes.a s.nodes.l.length s.nodes.c, .slice s.pods.a s.pods.l.length s.pods.c, .slice s.owners.a s.owners.l.length s.owners.c] 26)) (hs.below (b_alloc (Below.refl _ _) _)) hn)
  unfold ownerIdx
  generalize ownersNames s = l at *
  clear hs hn
  simp only [Snap.val, SL.val] at *
  go_enter Tryz.func100, Tryz.ntmps100
  go_wp2_with fail
  refine HN.out.mono ?_
  rintro e w1 ⟨⟨a, c, l'⟩, rfl, rfl, hat, hb⟩
  have HI := hide (indexStr_ok ⟨a, c, l'⟩ x w1 hat)
  clear hat HN
  simp only [SL.val] at *
  go_wp2_with (go_at_call 131; refine HI.out.mono ?_; rintro e w2 ⟨rfl, hb2⟩)
  go_ret
  exact ⟨rfl, b_then (b_then (b_alloc (Below.refl _ _) _) hb) hb2⟩

/-! ### many, near, fine -/
def manyB (s : Snap) : Bool := decide (s.nodes.l.length > 8) || decide (s.pods.l.length > 24) || decide (s.owners.l.length > 8)
theorem many_ok (s : Snap) (w : World) : Calls Tryz.prog 53 #[s.val] w (Gives (.bool (manyB s)) w) := by
  unfold manyB
  simp only [Snap.val]
  by_cases h1 : s.nodes.l.length > 8 <;> by_cases h2 : s.pods.l.length > 24 <;> by_cases h3 : s.owners.l.length > 8
  all_goals
    go_enter Tryz.func53, Tryz.ntmps53
    go_wp2
    go_ret
    exact ⟨by simp [h1, h2, h3] <;> omega, b_alloc (Below.refl _ _) _⟩
theorem nat_beq (a b : Nat) : ((a : Int) == (b : Int)) = decide (a = b) := by rw [Bool.eq_iff_iff, beq_iff_eq, decide_eq_true_iff]; omega
theorem nat_beq0 (a : Nat) : ((a : Int) == 0) = decide (a = 0) := by rw [Bool.eq_iff_iff, beq_iff_eq, decide_eq_true_iff]; omega
theorem nat_bne (a b : Nat) : ((a : Int) != (b : Int)) = !decide (a = b) := by rw [bne, nat_beq]
def nearB (n : Near) : Bool := if emp n.topo then decide (n.terms.l.length = 0) else nameB n.topo && termsCheck n.terms.l == 0
set_option maxHeartbeats 400000 in
theorem near_ok (n : Near) (w : World) (hs : Terms w n.terms) : Calls Tryz.prog 103 #[n.val] w (Gives (.bool (nearB n)) w) := by
  have HN := hide (fun W => name_ok n.topo W)
  have HT := hide (fun W hW => termsCheck_ok n.terms W (hs.below hW))
  unfold nearB
  clear hs
  simp only [Near.val, SL.val] at *
  cases he : emp n.topo with
  | true =>
    have h3 : n.topo.toList = [] := emp_true he
    have h4 : n.topo.toList.isEmpty = true := (emp_w _).trans he
    clear he
    go_enter Tryz.func103, Tryz.ntmps103
    go_wp2_with fail
    go_ret
    exact ⟨by rw [← nat_beq0]; rfl, b_alloc (Below.refl _ _) _⟩
  | false =>
    have h3 : ¬ n.topo.toList = [] := emp_false he
    have h4 : n.topo.toList.isEmpty = false := (emp_w _).trans he
    clear he
    generalize termsCheck n.terms.l = tc at *
    cases hn : nameB n.topo
    all_goals
      rw [hn] at HN
      clear hn
      go_enter Tryz.func103, Tryz.ntmps103
      go_wp2_with (first | (go_at_call 84; refine (calls_gr (HN.out _)).mono ?_; rintro e w1 ⟨rfl, g, rfl⟩) | (go_at_call 101; refine (HT.out _ (b_gr (b_alloc (Below.refl _ _) _) _)).mono ?_; rintro e w2 ⟨rfl, hb⟩))
      go_ret
      first
      | exact ⟨by simp, b_gr (b_alloc (Below.refl _ _) _) _⟩
      | exact ⟨by simp, b_then (b_gr (b_alloc (Below.refl _ _) _) _) hb⟩
theorem fine1_ok (e0 : Int) (w : World) : Calls Tryz.prog 108 #[.int .i64 e0] w (Gives (.bool (e0 != 0)) w) := by
  go_enter Tryz.func108, Tryz.ntmps108
  go_wp2
  go_ret
  exact ⟨rfl, Below.refl _ _⟩
theorem fine_ok (s : SL Int) (w : World) (hs : Ints w s) : Calls Tryz.prog 72 #[s.val] w (Gives (.bool (!s.l.any fun e => e != 0)) w) := by
  have H := hide (ContainsFunc_Errnos s (fun e => e != 0) 108 #[] (enters_of Tryz.func108 (by kernel_rfl) rfl) w hs (fun G x _ => fine1_ok x _))
  obtain ⟨a, c, l⟩ := s
  clear hs
  simp only [SL.val] at *
  go_enter Tryz.func72, Tryz.ntmps72
  go_wp2_with (go_at_call 107; refine H.out.mono ?_; rintro e w1 ⟨rfl, hb⟩)
  go_ret
  exact ⟨rfl, hb⟩
theorem fine2_ok (r0 r1 : Int) {B : Nat} {w : World} {t : TypeId} (h : Blk w B t #[.int .i64 r0, .int .i64 r1]) : Calls Tryz.prog 72 #[.slice (some ⟨B, 0, none⟩) 2 2] w (Gives (.bool ((r0 == 0) && (r1 == 0))) w) :=
  (fine_ok ⟨some ⟨B, 0, none⟩, 2, [r0, r1]⟩ w (at_blk h rfl (fun _ => rfl) (Nat.le_refl _) (by simp) (by omega))).mono fun e w' ⟨he, hb⟩ => ⟨by rw [he]; congr 2; simp [Bool.and_assoc, bne], hb⟩
theorem fine3_ok (r0 r1 r2 : Int) {B : Nat} {w : World} {t : TypeId} (h : Blk w B t #[.int .i64 r0, .int .i64 r1, .int .i64 r2]) : Calls Tryz.prog 72 #[.slice (some ⟨B, 0, none⟩) 3 3] w (Gives (.bool ((r0 == 0) && (r1 == 0) && (r2 == 0))) w) :=
  (fine_ok ⟨some ⟨B, 0, none⟩, 3, [r0, r1, r2]⟩ w (at_blk h rfl (fun _ => rfl) (Nat.le_refl _) (by simp) (by omega))).mono fun e w' ⟨he, hb⟩ => ⟨by rw [he]; congr 2; simp [Bool.and_assoc, bne], hb⟩
theorem fine4_ok (r0 r1 r2 r3 : Int) {B : Nat} {w : World} {t : TypeId} (h : Blk w B t #[.int .i64 r0, .int .i64 r1, .int .i64 r2, .int .i64 r3]) : Calls Tryz.prog 72 #[.slice (some ⟨B, 0, none⟩) 4 4] w (Gives (.bool ((r0 == 0) && (r1 == 0) && (r2 == 0) && (r3 == 0))) w) :=
  (fine_ok ⟨some ⟨B, 0, none⟩, 4, [r0, r1, r2, r3]⟩ w (at_blk h rfl (fun _ => rfl) (Nat.le_refl _) (by simp) (by omega))).mono fun e w' ⟨he, hb⟩ => ⟨by rw [he]; congr 2; simp [Bool.and_assoc, bne], hb⟩

/-! ### node, owner -/
def nodeB (n : Node) : Bool := vecCheck n.cap == 0 && labelCheck n.labels.l == 0 && labelCheck n.taints.l == 0
set_option maxHeartbeats 1000000 in
theorem node_ok (n : Node) (w : World) (hs : n.At w) : Calls Tryz.prog 60 #[n.val] w (Gives (.bool (nodeB n)) w) := by
  have HV := hide (fun W => vecCheck_ok n.cap W)
  have HL := hide (fun W hW => labelCheck_ok n.labels W (hs.labels.below hW))
  have HT := hide (fun W hW => labelCheck_ok n.taints W (hs.taints.below hW))
  unfold nodeB
  clear hs
  generalize vecCheck n.cap = r0 at *
  generalize labelCheck n.labels.l = r1 at *
  generalize labelCheck n.taints.l = r2 at *
  simp only [Node.val, SL.val, Vec.val] at *
  go_enter Tryz.func60, Tryz.ntmps60
  go_wp2_with fail
  refine wp_region_gr_tail 9 (by kernel_rfl) (by kernel_rfl) ?_
  simp only [List.take_succ_cons, List.take_zero, List.drop_succ_cons, List.drop_zero]
  repeat (go_big_quiet_step ((first | (go_at_call 95; exact quiet_call (HV.out _)) | (go_at_call_of 96 (Value.slice n.labels.a n.labels.l.length n.labels.c); exact quiet_call (HL.out _ (b_gr (b_alloc (Below.refl _ _) _) _))) | (go_at_call_of 96 (Value.slice n.taints.a n.taints.l.length n.taints.c); exact quiet_call (HT.out _ (b_gr (b_alloc (Below.refl _ _) _) _))))))
  refine wpQuiet_nil ?_
  intro g
  go_wp2_with (go_at_call 72; refine (fine3_ok r0 r1 r2 (Blk.new _ _ _)).mono ?_; rintro e w1 ⟨rfl, hb⟩)
  go_ret
  exact ⟨rfl, b_then (b_alloc (b_gr (b_alloc (Below.refl _ _) _) _) _) hb⟩
def spreadOK (o : Owner) : Bool := (emp o.topo && o.skew == 0) || (nameB o.topo && decide (o.skew ≥ 1) && decide (o.skew ≤ 24))
def ownerB (o : Owner) : Bool := spreadOK o && decide (o.min ≥ 0) && decide (o.min ≤ 24)
set_option maxHeartbeats 2000000 in
theorem owner_ok (o : Owner) (w : World) : Calls Tryz.prog 63 #[o.val] w (Gives (.bool (ownerB o)) w) := by
  have HN := hide (fun W => name_ok o.topo W)
  unfold ownerB spreadOK
  have e0 : o.topo.toList.isEmpty = emp o.topo := emp_w _
  have hc : (emp o.topo = true ∧ o.topo.toList = []) ∨ (emp o.topo = false ∧ ¬ o.topo.toList = []) := by
    cases h : emp o.topo
    · exact .inr ⟨rfl, emp_false h⟩
    · exact .inl ⟨rfl, emp_true h⟩
  generalize emp o.topo = te at *
  generalize nameB o.topo = nb at *
  generalize h2 : (o.skew == 0) = s0
  have hs0 : s0 = true → o.skew = 0 := by rw [← h2]; simp
  generalize h3 : decide (o.skew ≥ 1) = s1
  generalize h4 : decide (o.skew ≤ 24) = s2
  generalize h5 : decide (o.min ≥ 0) = m1
  generalize h6 : decide (o.min ≤ 24) = m2
  clear hs0
  have hI : (te = true ∧ s0 = true) ∨ (te = true ∧ s0 = false ∧ nb = false) ∨ (te = true ∧ s0 = false ∧ nb = true ∧ s1 = false) ∨ (te = true ∧ s0 = false ∧ nb = true ∧ s1 = true ∧ s2 = false) ∨ (te = true ∧ s0 = false ∧ nb = true ∧ s1 = true ∧ s2 = true) ∨
      (te = false ∧ nb = false) ∨ (te = false ∧ nb = true ∧ s1 = false) ∨ (te = false ∧ nb = true ∧ s1 = true ∧ s2 = false) ∨ (te = false ∧ nb = true ∧ s1 = true ∧ s2 = true) := by cases te <;> cases s0 <;> cases nb <;> cases s1 <;> cases s2 <;> simp
  have hM : (m1 = false) ∨ (m1 = true ∧ m2 = false) ∨ (m1 = true ∧ m2 = true) := by cases m1 <;> cases m2 <;> simp
  simp only [Owner.val] at *
  rcases hI with ⟨rfl, rfl⟩ | ⟨rfl, rfl, rfl⟩ | ⟨rfl, rfl, rfl, rfl⟩ | ⟨rfl, rfl, rfl, rfl, rfl⟩ | ⟨rfl, rfl, rfl, rfl, rfl⟩ | ⟨rfl, rfl⟩ | ⟨rfl, rfl, rfl⟩ | ⟨rfl, rfl, rfl, rfl⟩ | ⟨rfl, rfl, rfl, rfl⟩ <;> rcases hc with ⟨hq, h7⟩ | ⟨hq, h7⟩
  all_goals first | (exfalso; exact Bool.noConfusion hq) | skip
  all_goals clear hq
  all_goals rcases hM with rfl | ⟨rfl, rfl⟩ | ⟨rfl, rfl⟩
  all_goals
    go_enter Tryz.func63, Tryz.ntmps63
    go_wp2_with (go_at_call 84; refine (calls_gr (HN.out _)).mono ?_; rintro e w1 ⟨rfl, g, rfl⟩)
    go_ret
    first
    | exact ⟨rfl, b_gr (b_alloc (Below.refl _ _) _) _⟩
    | exact ⟨rfl, b_alloc (Below.refl _ _) _⟩
end Go.Proofs.YtnjjdilmaepokaaGreat
namespace Go.Proofs.YtnjjdilmaepokaaGreat
open Go.RowKit
def colOf (l : List Vec) (i : Nat) : List Int := l.map fun v => v.l.getD i 0
def plusF (l : List Vec) (i : Nat) : Int × Int := addL (colOf l i)

set_option maxRecDepth 100000 in
set_option maxHeartbeats 1000000 in
theorem plus1_0 (s : SL Vec) (k : Nat) (w : World) (hs : s.At Vec.enc 5 w) (hn : s.l.length ≤ 65536) (ik : LtB k w.heap.size) (hk : w.cell? ⟨k, 0, none⟩ = some s.val) : Calls Tryz.prog 105 #[.int .i64 0, .pointer (some ⟨k, 0, none⟩)] w (Gives (pairI (plusF s.l 0)) w) := by
  obtain ⟨a, c, l⟩ := s
  have hl : l.length ≤ 140737488351232 := hs.big
  have hc := hide hs.cell
  clear hs
  simp only [SL.val] at *
  obtain ⟨i0, hi, hz0, hz1, hz2⟩ := info_parts info_int
  have Hi := hide hi
  have Hz0 := hide hz0
  have Hz1 := hide hz1
  have Hz2 := hide hz2
  clear hi hz0 hz1 hz2
  go_enter Tryz.func105, Tryz.ntmps105
  go_wp2_with (at_make; refine wpList_make_own _ rfl _ _ _ rfl w.heap.size _ i0 _ 1 Tryz.underlying44 Hi.out Hz0.out Hz1.out .i64 .i64 _ l.length rfl rfl rfl (by rw [Hz2.out]; omega) (by simp only [maxLen]; omega) (by simp) ?_; intro w1 hown1 hg1; obtain ⟨G1, rfl⟩ := to_gr (grown_below (v := .slice none 0 0) (Below.refl _ w) hg1 (by simp [Value.ownBlock])); clear hg1; have HO1 := hide hown1; clear hown1)
  generalize Value.slice (some ⟨w.heap.size, 0, none⟩) 0 l.length = v0 at *
  go_loopg [5, 13] l.length (fun gg s5 s13 wr => ∃ kk : Nat, kk ≤ l.length ∧ l.length - kk ≤ gg ∧ s13 = .int .i64 kk ∧ Hid (∃ G : Grw w, wr = gr w G ∧ (gr w G).ownsRow w.heap.size 3 1 s5 kk ((colOf (l.take kk) 0).flatMap (fun x => [.int .i64 x]))))
  case atStart => exact ⟨0, Nat.zero_le _, by omega, rfl, G1, rfl, by simpa [colOf] using HO1.out⟩
  case round =>
    obtain ⟨kk, hkk, hg, rfl, ⟨G, rfl, HO⟩⟩ := hrel
    have HO' := hide HO
    clear HO HO1
    by_cases hlt : kk < l.length
    · have hx : l[kk]? = some l[kk] := List.getElem?_eq_getElem hlt
      obtain ⟨b, off, rfl, hb, hcell⟩ := hc.out kk l[kk] hx
      have ib : LtB b w.heap.size := ⟨hb⟩
      generalize l[kk] = x at hx hcell
      have c0 : w.cell? ⟨b, off + kk * 5, none⟩ = some _ := hcell 0 _ rfl
      have c1 := hcell 1 _ rfl
      have c2 := hcell 2 _ rfl
      have c3 := hcell 3 _ rfl
      have c4 := hcell 4 _ rfl
      have Hx := hide hx
      clear hcell hx hb
      go_wp2_with (at_builtin; refine wpList_append_own _ rfl _ _ 44 rfl w.heap.size 3 i0 _ 1 8 Tryz.underlying44 Hi.out Hz0.out Hz1.out Hz2.out rfl (by decide) _ _ _ rfl (own_below (own_below HO'.out (b_alloc (Below.refl _ _) _)) (b_alloc (Below.refl _ _) _)) _ 1 1 [.int .i64 x.a] rfl rfl (cells_at _ _ _ _ (by simp)) (by simp [Value.oneCell']) (by simp only [maxLen]; omega) (by omega) (b_alloc (b_alloc (gr_below w G) _) _).size ?_; intro v' w2 hown' hgrow _)
      go_roundg (l.length - (kk + 1))
      case measure => omega
      case rel =>
        have hB := grown_below (b_alloc (b_alloc (gr_below w G) _) _) hgrow (own_ge HO'.out)
        obtain ⟨G', rfl⟩ := to_gr hB
        exact ⟨kk + 1, by omega, by omega, by go_num, G', rfl, by unfold colOf at hown' ⊢; rw [take_succ_map _ Hx.out, flat_snoc]; exact hown'⟩
    · obtain rfl : kk = l.length := by omega
      have h := HO'.out
      rw [List.take_length] at h
      obtain ⟨⟨a', c', l'⟩, hl', rfl, hat⟩ := sl_of_row (α := Int) (enc := fun x => [.int .i64 x]) (fun _ => rfl) (xs := colOf l 0) (by unfold colOf at *; rw [List.length_map]; exact h) (by unfold colOf; rw [List.length_map]; omega)
      simp only at hl'
      have HA := hide (add_ok ⟨a', c', l'⟩ (gr w G) hat)
      have Hl' := hide hl'
      clear hat h HO' hl'
      simp only [SL.val] at *
      unfold pairI at *
      go_wp2_with fail
      refine (calls_gr HA.out).mono ?_
      rintro e w1 ⟨rfl, g, rfl⟩
      go_wp2_with fail
      go_ret2
      exact ⟨by unfold plusF; rw [← Hl'.out]; rfl, b_gr (gr_below w G) _⟩

set_option maxRecDepth 100000 in
set_option maxHeartbeats 1000000 in
theorem plus1_1 (s : SL Vec) (k : Nat) (w : World) (hs : s.At Vec.enc 5 w) (hn : s.l.length ≤ 65536) (ik : LtB k w.heap.size) (hk : w.cell? ⟨k, 0, none⟩ = some s.val) : Calls Tryz.prog 105 #[.int .i64 1, .pointer (some ⟨k, 0, none⟩)] w (Gives (pairI (plusF s.l 1)) w) := by
  obtain ⟨a, c, l⟩ := s
  have hl : l.length ≤ 140737488351232 := hs.big
  have hc := hide hs.cell
  clear hs
  simp only [SL.val] at *
  obtain ⟨i0, hi, hz0, hz1, hz2⟩ := info_parts info_int
  have Hi := hide hi
  have Hz0 := hide hz0
  have Hz1 := hide hz1
  have Hz2 := hide hz2
  clear hi hz0 hz1 hz2
  go_enter Tryz.func105, Tryz.ntmps105
  go_wp2_with (at_make; refine wpList_make_own _ rfl _ _ _ rfl w.heap.size _ i0 _ 1 Tryz.underlying44 Hi.out Hz0.out Hz1.out .i64 .i64 _ l.length rfl rfl rfl (by rw [Hz2.out]; omega) (by simp only [maxLen]; omega) (by simp) ?_; intro w1 hown1 hg1; obtain ⟨G1, rfl⟩ := to_gr (grown_below (v := .slice none 0 0) (Below.refl _ w) hg1 (by simp [Value.ownBlock])); clear hg1; have HO1 := hide hown1; clear hown1)
  generalize Value.slice (some ⟨w.heap.size, 0, none⟩) 0 l.length = v0 at *
  go_loopg [5, 13] l.length (fun gg s5 s13 wr => ∃ kk : Nat, kk ≤ l.length ∧ l.length - kk ≤ gg ∧ s13 = .int .i64 kk ∧ Hid (∃ G : Grw w, wr = gr w G ∧ (gr w G).ownsRow w.heap.size 3 1 s5 kk ((colOf (l.take kk) 1).flatMap (fun x => [.int .i64 x]))))
  case atStart => exact ⟨0, Nat.zero_le _, by omega, rfl, G1, rfl, by simpa [colOf] using HO1.out⟩
  case round =>
    obtain ⟨kk, hkk, hg, rfl, ⟨G, rfl, HO⟩⟩ := hrel
    have HO' := hide HO
    clear HO HO1
    by_cases hlt : kk < l.length
    · have hx : l[kk]? = some l[kk] := List.getElem?_eq_getElem hlt
      obtain ⟨b, off, rfl, hb, hcell⟩ := hc.out kk l[kk] hx
      have ib : LtB b w.heap.size := ⟨hb⟩
      generalize l[kk] = x at hx hcell
      have c0 : w.cell? ⟨b, off + kk * 5, none⟩ = some _ := hcell 0 _ rfl
      have c1 := hcell 1 _ rfl
      have c2 := hcell 2 _ rfl
      have c3 := hcell 3 _ rfl
      have c4 := hcell 4 _ rfl
      have Hx := hide hx
      clear hcell hx hb
      go_wp2_with (at_builtin; refine wpList_append_own _ rfl _ _ 44 rfl w.heap.size 3 i0 _ 1 8 Tryz.underlying44 Hi.out Hz0.out Hz1.out Hz2.out rfl (by decide) _ _ _ rfl (own_below (own_below HO'.out (b_alloc (Below.refl _ _) _)) (b_alloc (Below.refl _ _) _)) _ 1 1 [.int .i64 x.b] rfl rfl (cells_at _ _ _ _ (by simp)) (by simp [Value.oneCell']) (by simp only [maxLen]; omega) (by omega) (b_alloc (b_alloc (gr_below w G) _) _).size ?_; intro v' w2 hown' hgrow _)
      go_roundg (l.length - (kk + 1))
      case measure => omega
      case rel =>
        have hB := grown_below (b_alloc (b_alloc (gr_below w G) _) _) hgrow (own_ge HO'.out)
        obtain ⟨G', rfl⟩ := to_gr hB
        exact ⟨kk + 1, by omega, by omega, by go_num, G', rfl, by unfold colOf at hown' ⊢; rw [take_succ_map _ Hx.out, flat_snoc]; exact hown'⟩
    · obtain rfl : kk = l.length := by omega
      have h := HO'.out
      rw [List.take_length] at h
      obtain ⟨⟨a', c', l'⟩, hl', rfl, hat⟩ := sl_of_row (α := Int) (enc := fun x => [.int .i64 x]) (fun _ => rfl) (xs := colOf l 1) (by unfold colOf at *; rw [List.length_map]; exact h) (by unfold colOf; rw [List.length_map]; omega)
      simp only at hl'
      have HA := hide (add_ok ⟨a', c', l'⟩ (gr w G) hat)
      have Hl' := hide hl'
      clear hat h HO' hl'
      simp only [SL.val] at *
      unfold pairI at *
      go_wp2_with fail
      refine (calls_gr HA.out).mono ?_
      rintro e w1 ⟨rfl, g, rfl⟩
      go_wp2_with fail
      go_ret2
      exact ⟨by unfold plusF; rw [← Hl'.out]; rfl, b_gr (gr_below w G) _⟩

set_option maxRecDepth 100000 in
set_option maxHeartbeats 1000000 in
theorem plus1_2 (s : SL Vec) (k : Nat) (w : World) (hs : s.At Vec.enc 5 w) (hn : s.l.length ≤ 65536) (ik : LtB k w.heap.size) (hk : w.cell? ⟨k, 0, none⟩ = some s.val) : Calls Tryz.prog 105 #[.int .i64 2, .pointer (some ⟨k, 0, none⟩)] w (Gives (pairI (plusF s.l 2)) w) := by
  obtain ⟨a, c, l⟩ := s
  have hl : l.length ≤ 140737488351232 := hs.big
  have hc := hide hs.cell
  clear hs
  simp only [SL.val] at *
  obtain ⟨i0, hi, hz0, hz1, hz2⟩ := info_parts info_int
  have Hi := hide hi
  have Hz0 := hide hz0
  have Hz1 := hide hz1
  have Hz2 := hide hz2
  clear hi hz0 hz1 hz2
  go_enter Tryz.func105, Tryz.ntmps105
  go_wp2_with (at_make; refine wpList_make_own _ rfl _ _ _ rfl w.heap.size _ i0 _ 1 Tryz.underlying44 Hi.out Hz0.out Hz1.out .i64 .i64 _ l.length rfl rfl rfl (by rw [Hz2.out]; omega) (by simp only [maxLen]; omega) (by simp) ?_; intro w1 hown1 hg1; obtain ⟨G1, rfl⟩ := to_gr (grown_below (v := .slice none 0 0) (Below.refl _ w) hg1 (by simp [Value.ownBlock])); clear hg1; have HO1 := hide hown1; clear hown1)
  generalize Value.slice (some ⟨w.heap.size, 0, none⟩) 0 l.length = v0 at *
  go_loopg [5, 13] l.length (fun gg s5 s13 wr => ∃ kk : Nat, kk ≤ l.length ∧ l.length - kk ≤ gg ∧ s13 = .int .i64 kk ∧ Hid (∃ G : Grw w, wr = gr w G ∧ (gr w G).ownsRow w.heap.size 3 1 s5 kk ((colOf (l.take kk) 2).flatMap (fun x => [.int .i64 x]))))
  case atStart => exact ⟨0, Nat.zero_le _, by omega, rfl, G1, rfl, by simpa [colOf] using HO1.out⟩
  case round =>
    obtain ⟨kk, hkk, hg, rfl, ⟨G, rfl, HO⟩⟩ := hrel
    have HO' := hide HO
    clear HO HO1
    by_cases hlt : kk < l.length
    · have hx : l[kk]? = some l[kk] := List.getElem?_eq_getElem hlt
      obtain ⟨b, off, rfl, hb, hcell⟩ := hc.out kk l[kk] hx
      have ib : LtB b w.heap.size := ⟨hb⟩
      generalize l[kk] = x at hx hcell
      have c0 : w.cell? ⟨b, off + kk * 5, none⟩ = some _ := hcell 0 _ rfl
      have c1 := hcell 1 _ rfl
      have c2 := hcell 2 _ rfl
      have c3 := hcell 3 _ rfl
      have c4 := hcell 4 _ rfl
      have Hx := hide hx
      clear hcell hx hb
      go_wp2_with (at_builtin; refine wpList_append_own _ rfl _ _ 44 rfl w.heap.size 3 i0 _ 1 8 Tryz.underlying44 Hi.out Hz0.out Hz1.out Hz2.out rfl (by decide) _ _ _ rfl (own_below (own_below HO'.out (b_alloc (Below.refl _ _) _)) (b_alloc (Below.refl _ _) _)) _ 1 1 [.int .i64 x.c] rfl rfl (cells_at _ _ _ _ (by simp)) (by simp [Value.oneCell']) (by simp only [maxLen]; omega) (by omega) (b_alloc (b_alloc (gr_below w G) _) _).size ?_; intro v' w2 hown' hgrow _)
      go_roundg (l.length - (kk + 1))
      case measure => omega
      case rel =>
        have hB := grown_below (b_alloc (b_alloc (gr_below w G) _) _) hgrow (own_ge HO'.out)
        obtain ⟨G', rfl⟩ := to_gr hB
        exact ⟨kk + 1, by omega, by omega, by go_num, G', rfl, by unfold colOf at hown' ⊢; rw [take_succ_map _ Hx.out, flat_snoc]; exact hown'⟩
    · obtain rfl : kk = l.length := by omega
      have h := HO'.out
      rw [List.take_length] at h
      obtain ⟨⟨a', c', l'⟩, hl', rfl, hat⟩ := sl_of_row (α := Int) (enc := fun x => [.int .i64 x]) (fun _ => rfl) (xs := colOf l 2) (by unfold colOf at *; rw [List.length_map]; exact h) (by unfold colOf; rw [List.length_map]; omega)
      simp only at hl'
      have HA := hide (add_ok ⟨a', c', l'⟩ (gr w G) hat)
      have Hl' := hide hl'
      clear hat h HO' hl'
      simp only [SL.val] at *
      unfold pairI at *
      go_wp2_with fail
      refine (calls_gr HA.out).mono ?_
      rintro e w1 ⟨rfl, g, rfl⟩
      go_wp2_with fail
      go_ret2
      exact ⟨by unfold plusF; rw [← Hl'.out]; rfl, b_gr (gr_below w G) _⟩

set_option maxRecDepth 100000 in
set_option maxHeartbeats 1000000 in
theorem plus1_3 (s : SL Vec) (k : Nat) (w : World) (hs : s.At Vec.enc 5 w) (hn : s.l.length ≤ 65536) (ik : LtB k w.heap.size) (hk : w.cell? ⟨k, 0, none⟩ = some s.val) : Calls Tryz.prog 105 #[.int .i64 3, .pointer (some ⟨k, 0, none⟩)] w (Gives (pairI (plusF s.l 3)) w) := by
  obtain ⟨a, c, l⟩ := s
  have hl : l.length ≤ 140737488351232 := hs.big
  have hc := hide hs.cell
  clear hs
  simp only [SL.val] at *
  obtain ⟨i0, hi, hz0, hz1, hz2⟩ := info_parts info_int
  have Hi := hide hi
  have Hz0 := hide hz0
  have Hz1 := hide hz1
  have Hz2 := hide hz2
  clear hi hz0 hz1 hz2
  go_enter Tryz.func105, Tryz.ntmps105
  go_wp2_with (at_make; refine wpList_make_own _ rfl _ _ _ rfl w.heap.size _ i0 _ 1 Tryz.underlying44 Hi.out Hz0.out Hz1.out .i64 .i64 _ l.length rfl rfl rfl (by rw [Hz2.out]; omega) (by simp only [maxLen]; omega) (by simp) ?_; intro w1 hown1 hg1; obtain ⟨G1, rfl⟩ := to_gr (grown_below (v := .slice none 0 0) (Below.refl _ w) hg1 (by simp [Value.ownBlock])); clear hg1; have HO1 := hide hown1; clear hown1)
  generalize Value.slice (some ⟨w.heap.size, 0, none⟩) 0 l.length = v0 at *
  go_loopg [5, 13] l.length (fun gg s5 s13 wr => ∃ kk : Nat, kk ≤ l.length ∧ l.length - kk ≤ gg ∧ s13 = .int .i64 kk ∧ Hid (∃ G : Grw w, wr = gr w G ∧ (gr w G).ownsRow w.heap.size 3 1 s5 kk ((colOf (l.take kk) 3).flatMap (fun x => [.int .i64 x]))))
  case atStart => exact ⟨0, Nat.zero_le _, by omega, rfl, G1, rfl, by simpa [colOf] using HO1.out⟩
  case round =>
    obtain ⟨kk, hkk, hg, rfl, ⟨G, rfl, HO⟩⟩ := hrel
    have HO' := hide HO
    clear HO HO1
    by_cases hlt : kk < l.length
    · have hx : l[kk]? = some l[kk] := List.getElem?_eq_getElem hlt
      obtain ⟨b, off, rfl, hb, hcell⟩ := hc.out kk l[kk] hx
      have ib : LtB b w.heap.size := ⟨hb⟩
      generalize l[kk] = x at hx hcell
      have c0 : w.cell? ⟨b, off + kk * 5, none⟩ = some _ := hcell 0 _ rfl
      have c1 := hcell 1 _ rfl
      have c2 := hcell 2 _ rfl
      have c3 := hcell 3 _ rfl
      have c4 := hcell 4 _ rfl
      have Hx := hide hx
      clear hcell hx hb
      go_wp2_with (at_builtin; refine wpList_append_own _ rfl _ _ 44 rfl w.heap.size 3 i0 _ 1 8 Tryz.underlying44 Hi.out Hz0.out Hz1.out Hz2.out rfl (by decide) _ _ _ rfl (own_below (own_below HO'.out (b_alloc (Below.refl _ _) _)) (b_alloc (Below.refl _ _) _)) _ 1 1 [.int .i64 x.d] rfl rfl (cells_at _ _ _ _ (by simp)) (by simp [Value.oneCell']) (by simp only [maxLen]; omega) (by omega) (b_alloc (b_alloc (gr_below w G) _) _).size ?_; intro v' w2 hown' hgrow _)
      go_roundg (l.length - (kk + 1))
      case measure => omega
      case rel =>
        have hB := grown_below (b_alloc (b_alloc (gr_below w G) _) _) hgrow (own_ge HO'.out)
        obtain ⟨G', rfl⟩ := to_gr hB
        exact ⟨kk + 1, by omega, by omega, by go_num, G', rfl, by unfold colOf at hown' ⊢; rw [take_succ_map _ Hx.out, flat_snoc]; exact hown'⟩
    · obtain rfl : kk = l.length := by omega
      have h := HO'.out
      rw [List.take_length] at h
      obtain ⟨⟨a', c', l'⟩, hl', rfl, hat⟩ := sl_of_row (α := Int) (enc := fun x => [.int .i64 x]) (fun _ => rfl) (xs := colOf l 3) (by unfold colOf at *; rw [List.length_map]; exact h) (by unfold colOf; rw [List.length_map]; omega)
      simp only at hl'
      have HA := hide (add_ok ⟨a', c', l'⟩ (gr w G) hat)
      have Hl' := hide hl'
      clear hat h HO' hl'
      simp only [SL.val] at *
      unfold pairI at *
      go_wp2_with fail
      refine (calls_gr HA.out).mono ?_
      rintro e w1 ⟨rfl, g, rfl⟩
      go_wp2_with fail
      go_ret2
      exact ⟨by unfold plusF; rw [← Hl'.out]; rfl, b_gr (gr_below w G) _⟩

set_option maxRecDepth 100000 in
set_option maxHeartbeats 1000000 in
theorem plus1_4 (s : SL Vec) (k : Nat) (w : World) (hs : s.At Vec.enc 5 w) (hn : s.l.length ≤ 65536) (ik : LtB k w.heap.size) (hk : w.cell? ⟨k, 0, none⟩ = some s.val) : Calls Tryz.prog 105 #[.int .i64 4, .pointer (some ⟨k, 0, none⟩)] w (Gives (pairI (plusF s.l 4)) w) := by
  obtain ⟨a, c, l⟩ := s
  have hl : l.length ≤ 140737488351232 := hs.big
  have hc := hide hs.cell
  clear hs
  simp only [SL.val] at *
  obtain ⟨i0, hi, hz0, hz1, hz2⟩ := info_parts info_int
  have Hi := hide hi
  have Hz0 := hide hz0
  have Hz1 := hide hz1
  have Hz2 := hide hz2
  clear hi hz0 hz1 hz2
  go_enter Tryz.func105, Tryz.ntmps105
  go_wp2_with (at_make; refine wpList_make_own _ rfl _ _ _ rfl w.heap.size _ i0 _ 1 Tryz.underlying44 Hi.out Hz0.out Hz1.out .i64 .i64 _ l.length rfl rfl rfl (by rw [Hz2.out]; omega) (by simp only [maxLen]; omega) (by simp) ?_; intro w1 hown1 hg1; obtain ⟨G1, rfl⟩ := to_gr (grown_below (v := .slice none 0 0) (Below.refl _ w) hg1 (by simp [Value.ownBlock])); clear hg1; have HO1 := hide hown1; clear hown1)
  generalize Value.slice (some ⟨w.heap.size, 0, none⟩) 0 l.length = v0 at *
  go_loopg [5, 13] l.length (fun gg s5 s13 wr => ∃ kk : Nat, kk ≤ l.length ∧ l.length - kk ≤ gg ∧ s13 = .int .i64 kk ∧ Hid (∃ G : Grw w, wr = gr w G ∧ (gr w G).ownsRow w.heap.size 3 1 s5 kk ((colOf (l.take kk) 4).flatMap (fun x => [.int .i64 x]))))
  case atStart => exact ⟨0, Nat.zero_le _, by omega, rfl, G1, rfl, by simpa [colOf] using HO1.out⟩
  case round =>
    obtain ⟨kk, hkk, hg, rfl, ⟨G, rfl, HO⟩⟩ := hrel
    have HO' := hide HO
    clear HO HO1
    by_cases hlt : kk < l.length
    · have hx : l[kk]? = some l[kk] := List.getElem?_eq_getElem hlt
      obtain ⟨b, off, rfl, hb, hcell⟩ := hc.out kk l[kk] hx
      have ib : LtB b w.heap.size := ⟨hb⟩
      generalize l[kk] = x at hx hcell
      have c0 : w.cell? ⟨b, off + kk * 5, none⟩ = some _ := hcell 0 _ rfl
      have c1 := hcell 1 _ rfl
      have c2 := hcell 2 _ rfl
      have c3 := hcell 3 _ rfl
      have c4 := hcell 4 _ rfl
      have Hx := hide hx
      clear hcell hx hb
      go_wp2_with (at_builtin; refine wpList_append_own _ rfl _ _ 44 rfl w.heap.size 3 i0 _ 1 8 Tryz.underlying44 Hi.out Hz0.out Hz1.out Hz2.out rfl (by decide) _ _ _ rfl (own_below (own_below HO'.out (b_alloc (Below.refl _ _) _)) (b_alloc (Below.refl _ _) _)) _ 1 1 [.int .i64 x.e] rfl rfl (cells_at _ _ _ _ (by simp)) (by simp [Value.oneCell']) (by simp only [maxLen]; omega) (by omega) (b_alloc (b_alloc (gr_below w G) _) _).size ?_; intro v' w2 hown' hgrow _)
      go_roundg (l.length - (kk + 1))
      case measure => omega
      case rel =>
        have hB := grown_below (b_alloc (b_alloc (gr_below w G) _) _) hgrow (own_ge HO'.out)
        obtain ⟨G', rfl⟩ := to_gr hB
        exact ⟨kk + 1, by omega, by omega, by go_num, G', rfl, by unfold colOf at hown' ⊢; rw [take_succ_map _ Hx.out, flat_snoc]; exact hown'⟩
    · obtain rfl : kk = l.length := by omega
      have h := HO'.out
      rw [List.take_length] at h
      obtain ⟨⟨a', c', l'⟩, hl', rfl, hat⟩ := sl_of_row (α := Int) (enc := fun x => [.int .i64 x]) (fun _ => rfl) (xs := colOf l 4) (by unfold colOf at *; rw [List.length_map]; exact h) (by unfold colOf; rw [List.length_map]; omega)
      simp only at hl'
      have HA := hide (add_ok ⟨a', c', l'⟩ (gr w G) hat)
      have Hl' := hide hl'
      clear hat h HO' hl'
      simp only [SL.val] at *
      unfold pairI at *
      go_wp2_with fail
      refine (calls_gr HA.out).mono ?_
      rintro e w1 ⟨rfl, g, rfl⟩
      go_wp2_with fail
      go_ret2
      exact ⟨by unfold plusF; rw [← Hl'.out]; rfl, b_gr (gr_below w G) _⟩

theorem plus1_ok (s : SL Vec) (i k : Nat) (hi : i < 5) (w : World) (hs : s.At Vec.enc 5 w) (hn : s.l.length ≤ 65536) (ik : LtB k w.heap.size) (hk : w.cell? ⟨k, 0, none⟩ = some s.val) : Calls Tryz.prog 105 #[.int .i64 (i : Int), .pointer (some ⟨k, 0, none⟩)] w (Gives (pairI (plusF s.l i)) w) := by
  match i, hi with
  | 0, _ => exact plus1_0 s k w hs hn ik hk
  | 1, _ => exact plus1_1 s k w hs hn ik hk
  | 2, _ => exact plus1_2 s k w hs hn ik hk
  | 3, _ => exact plus1_3 s k w hs hn ik hk
  | 4, _ => exact plus1_4 s k w hs hn ik hk
def plusV (l : List Vec) : Vec := eachV (plusF l)
def plusE (l : List Vec) : Int := eachE (plusF l)
theorem plus_ok (s : SL Vec) (w : World) (hs : s.At Vec.enc 5 w) (hn : s.l.length ≤ 65536) : Calls Tryz.prog 67 #[s.val] w (Gives (.tuple #[(plusV s.l).val, .int .i64 (plusE s.l)]) w) := by
  have h1 : Below w.heap.size w ((w.alloc (.cells #[s.val] 101)).alloc (.cells #[.int .i64 0, .int .i64 0, .int .i64 0, .int .i64 0, .int .i64 0] 32)) := b_alloc (b_alloc (Below.refl _ _) _) _
  have HE := hide (each_ok 105 #[.pointer (some ⟨w.heap.size, 0, none⟩)] (enters_of Tryz.func105 (by kernel_rfl) rfl) (plusF s.l) ((w.alloc (.cells #[s.val] 101)).alloc (.cells #[.int .i64 0, .int .i64 0, .int .i64 0, .int .i64 0, .int .i64 0] 32)) (fun i W hi hW => by
    refine plus1_ok s i w.heap.size hi W (hs.below (h1.trans (hW.mono h1.size))) hn ⟨Nat.lt_of_lt_of_le (by simp; omega) hW.size⟩ ?_
    rw [hW.cell (p := ⟨w.heap.size, 0, none⟩) (by simp; omega)]
    simp))
  unfold plusV plusE
  generalize eachE (plusF s.l) = ee at *
  generalize eachV (plusF s.l) = vv at *
  clear hs h1 hn
  simp only [SL.val, Vec.val] at *
  go_enter Tryz.func67, Tryz.ntmps67
  go_wp2_with (go_at_call 104; refine (calls_gr HE.out).mono ?_; rintro e w1 ⟨rfl, g, rfl⟩)
  refine bodyPost_ret (v := .tuple #[.agg #[.int .i64 vv.a, .int .i64 vv.b, .int .i64 vv.c, .int .i64 vv.d, .int .i64 vv.e], .int .i64 ee]) (by simp [results, Tryz.results67, go_sem]) rfl ⟨rfl, ?_⟩
  exact b_set (b_set (b_set (b_set (b_set (b_gr (b_alloc (b_alloc (Below.refl _ _) _) _) g) (by simp) _) (by simp) _) (by simp) _) (by simp) _) (by simp) _
end Go.Proofs.YtnjjdilmaepokaaGreat
namespace Go.Proofs.YtnjjdilmaepokaaGreat
open Go.RowKit
def lostAt (s : Snap) (i : Int) : Bool := match s.nodes.l[i.toNat]? with | some n => n.lost | none => false
def podFine (p : Pod) : Bool := vecCheck p.req == 0 && labelCheck p.labels.l == 0 && termsCheck p.wher.l == 0 && bearsCheck p.bears.l == 0
def podB (s : Snap) (p : Pod) : Bool :=
  (emp p.owner || decide (ownerIdx s p.owner ≥ 0)) && (emp p.on || (decide (nodeIdx s p.on ≥ 0) && !lostAt s (nodeIdx s p.on))) && podFine p && nearB p.wth && nearB p.apart
theorem emp_cases (x : ByteArray) : (emp x = true ∧ x.toList = [] ∧ x.toList.isEmpty = true) ∨ (emp x = false ∧ (¬ x.toList = []) ∧ x.toList.isEmpty = false) := by
  cases h : emp x
  · exact .inr ⟨rfl, emp_false h, (emp_w x).trans h⟩
  · exact .inl ⟨rfl, emp_true h, (emp_w x).trans h⟩
set_option maxRecDepth 100000 in
set_option maxHeartbeats 4000000 in
theorem pod_ok (s : Snap) (x : Pod) (w : World) (hs : s.At w) (hx : x.At w) (hn : s.nodes.l.length ≤ 65536) (ho : s.owners.l.length ≤ 65536) : Calls Tryz.prog 66 #[s.val, x.val] w (Gives (.bool (podB s x)) w) := by
  have HN := hide (fun W hW => snapNode_ok s x.on W (hs.below hW) hn)
  have HO := hide (fun W hW => snapOwner_ok s x.owner W (hs.below hW) ho)
  have HV := hide (fun W => vecCheck_ok x.req W)
  have HL := hide (fun W hW => labelCheck_ok x.labels W (hx.labels.below hW))
  have HT := hide (fun W hW => termsCheck_ok x.wher W (hx.wher.below hW))
  have HB := hide (fun W hW => bearsCheck_ok x.bears W (hx.bears.below hW))
  have H1 := hide (fun W hW => near_ok x.wth W (hx.wth.below hW))
  have H2 := hide (fun W hW => near_ok x.apart W (hx.apart.below hW))
  have hnode := hide hs.nodes.cell
  have hnl : s.nodes.l.length ≤ 140737488351232 := hs.nodes.big
  clear hx hn ho hs
  unfold podB podFine
  have hco := emp_cases x.owner
  have hcn := emp_cases x.on
  have hr := idxOf_range (fun y => seq y x.on) (nodesNames s)
  change -1 ≤ nodeIdx s x.on ∧ nodeIdx s x.on < (nodesNames s).length at hr
  rw [show (nodesNames s).length = s.nodes.l.length by unfold nodesNames; rw [List.length_map]] at hr
  generalize ownerIdx s x.owner = io at *
  generalize nodeIdx s x.on = n at *
  generalize emp x.owner = eo at *
  generalize emp x.on = en at *
  generalize vecCheck x.req = r0 at *
  generalize labelCheck x.labels.l = r1 at *
  generalize termsCheck x.wher.l = r2 at *
  generalize bearsCheck x.bears.l = r3 at *
  generalize nearB x.wth = q1 at *
  generalize nearB x.apart = q2 at *
  obtain ⟨⟨na, nc, nl⟩, ⟨pa, pc, pl⟩, ⟨oa, oc, ol⟩⟩ := s
  simp only [Snap.val, Pod.val, SL.val, Vec.val, Near.val] at *
  have hA : (eo = false ∧ ¬ io ≥ 0) ∨ eo = true ∨ (eo = false ∧ io ≥ 0) := by cases eo <;> simp <;> omega
  rcases hA with ⟨rfl, hio⟩ | hA
  · rcases hco with ⟨h, _⟩ | ⟨_, ho1, ho2⟩
    · cases h
    have e1 := decide_eq_false hio
    rw [e1]
    clear hcn hr
    go_enter Tryz.func66, Tryz.ntmps66
    go_wp2_with fail
    refine (calls_gr (HN.out _ (by repeat' (first | exact Below.refl _ _ | assumption | refine b_gr ?_ _ | refine b_alloc ?_ _ | refine b_drew ?_)))).mono ?_
    rintro e w1 ⟨rfl, g0, rfl⟩
    go_wp2_with fail
    refine wp_region_gr_tail 41 (by kernel_rfl) (by kernel_rfl) ?_
    simp only [List.take_succ_cons, List.take_zero, List.drop_succ_cons, List.drop_zero]
    repeat (go_big_quiet_step ((first | (go_at_call 100; exact quiet_call (HO.out _ (by repeat' (first | exact Below.refl _ _ | assumption | refine b_gr ?_ _ | refine b_alloc ?_ _ | refine b_drew ?_)))) | (go_at_call 95; exact quiet_call (HV.out _)) | (go_at_call 96; exact quiet_call (HL.out _ (by repeat' (first | exact Below.refl _ _ | assumption | refine b_gr ?_ _ | refine b_alloc ?_ _ | refine b_drew ?_)))) | (go_at_call 101; exact quiet_call (HT.out _ (by repeat' (first | exact Below.refl _ _ | assumption | refine b_gr ?_ _ | refine b_alloc ?_ _ | refine b_drew ?_)))) | (go_at_call 102; exact quiet_call (HB.out _ (by repeat' (first | exact Below.refl _ _ | assumption | refine b_gr ?_ _ | refine b_alloc ?_ _ | refine b_drew ?_)))))))
    refine wpQuiet_nil ?_
    intro g
    go_wp2_with fail
    go_ret
    exact ⟨rfl, (by repeat' (first | exact Below.refl _ _ | assumption | refine b_gr ?_ _ | refine b_alloc ?_ _ | refine b_drew ?_))⟩
  · have hA' : ((eo || decide (io ≥ 0)) = true) ∧ ((eo = true ∧ x.owner.toList = [] ∧ x.owner.toList.isEmpty = true) ∨ (eo = false ∧ (¬ x.owner.toList = []) ∧ x.owner.toList.isEmpty = false ∧ decide (io ≥ 0) = true)) := by
      rcases hA with rfl | ⟨rfl, h⟩
      · refine ⟨by simp, .inl ?_⟩
        rcases hco with h | ⟨h, _⟩
        · exact h
        · cases h
      · refine ⟨by simp [h], .inr ?_⟩
        rcases hco with ⟨h', _⟩ | ⟨_, h1, h2⟩
        · cases h'
        · exact ⟨rfl, h1, h2, decide_eq_true h⟩
    rw [hA'.1]
    obtain ⟨_, hA2⟩ := hA'
    clear hco hA
    have hB : (en = false ∧ n < 0) ∨ (en = false ∧ ∃ k : Nat, n = k) ∨ en = true := by
      cases en
      · rcases Int.lt_or_le n 0 with h | h
        · exact .inl ⟨rfl, h⟩
        · exact .inr (.inl ⟨rfl, n.toNat, by omega⟩)
      · exact .inr (.inr rfl)
    rcases hB with ⟨rfl, hneg⟩ | ⟨rfl, k, rfl⟩ | rfl
    · rcases hcn with ⟨h, _⟩ | ⟨_, h1, h2⟩
      · cases h
      have e2 : decide (n ≥ 0) = false := decide_eq_false (by omega)
      rw [e2]
      rcases hA2 with ⟨rfl, h3, h4⟩ | ⟨rfl, h3, h4, h5⟩
      all_goals
        go_enter Tryz.func66, Tryz.ntmps66
        go_wp2_with fail
        refine (calls_gr (HN.out _ (by repeat' (first | exact Below.refl _ _ | assumption | refine b_gr ?_ _ | refine b_alloc ?_ _ | refine b_drew ?_)))).mono ?_
        rintro e w1 ⟨rfl, g0, rfl⟩
        go_wp2_with fail
        refine wp_region_gr_tail 41 (by kernel_rfl) (by kernel_rfl) ?_
        simp only [List.take_succ_cons, List.take_zero, List.drop_succ_cons, List.drop_zero]
        repeat (go_big_quiet_step ((first | (go_at_call 100; exact quiet_call (HO.out _ (by repeat' (first | exact Below.refl _ _ | assumption | refine b_gr ?_ _ | refine b_alloc ?_ _ | refine b_drew ?_)))) | (go_at_call 95; exact quiet_call (HV.out _)) | (go_at_call 96; exact quiet_call (HL.out _ (by repeat' (first | exact Below.refl _ _ | assumption | refine b_gr ?_ _ | refine b_alloc ?_ _ | refine b_drew ?_)))) | (go_at_call 101; exact quiet_call (HT.out _ (by repeat' (first | exact Below.refl _ _ | assumption | refine b_gr ?_ _ | refine b_alloc ?_ _ | refine b_drew ?_)))) | (go_at_call 102; exact quiet_call (HB.out _ (by repeat' (first | exact Below.refl _ _ | assumption | refine b_gr ?_ _ | refine b_alloc ?_ _ | refine b_drew ?_)))))))
        refine wpQuiet_nil ?_
        intro g
        go_wp2_with fail
        go_ret
        exact ⟨rfl, (by repeat' (first | exact Below.refl _ _ | assumption | refine b_gr ?_ _ | refine b_alloc ?_ _ | refine b_drew ?_))⟩
    · rcases hcn with ⟨h, _⟩ | ⟨_, h1, h2⟩
      · cases h
      have hk : k < nl.length := by omega
      obtain ⟨b, off, rfl, hb0, hcell⟩ := hnode.out k _ (List.getElem?_eq_getElem hk)
      have ib : LtB b w.heap.size := ⟨hb0⟩
      have c9 := hcell 9 _ rfl
      have e2 : decide ((k : Int) ≥ 0) = true := decide_eq_true (by omega)
      rw [e2]
      have hlo : lostAt ⟨⟨some ⟨b, off, none⟩, nc, nl⟩, ⟨pa, pc, pl⟩, ⟨oa, oc, ol⟩⟩ (k : Int) = nl[k].lost := by unfold lostAt; simp [List.getElem?_eq_getElem hk]
      rw [hlo]
      generalize nl[k].lost = lo at *
      clear hcell hb0 hlo hnode
      cases lo
      · have hF : ((r0 == 0 && r1 == 0 && r2 == 0 && r3 == 0) = false) ∨ ((r0 == 0 && r1 == 0 && r2 == 0 && r3 == 0) = true ∧ q1 = false) ∨ ((r0 == 0 && r1 == 0 && r2 == 0 && r3 == 0) = true ∧ q1 = true) := by cases (r0 == 0 && r1 == 0 && r2 == 0 && r3 == 0) <;> cases q1 <;> simp
        have HF := hide (fun (B : Nat) (W : World) (t : TypeId) (h : Blk W B t _) => fine4_ok r0 r1 r2 r3 h)
        generalize (r0 == 0 && r1 == 0 && r2 == 0 && r3 == 0) = ff at *
        rcases hA2 with ⟨rfl, h3, h4⟩ | ⟨rfl, h3, h4, h5⟩ <;> rcases hF with rfl | ⟨rfl, rfl⟩ | ⟨rfl, rfl⟩
        all_goals
          go_enter Tryz.func66, Tryz.ntmps66
          go_wp2_with fail
          refine (calls_gr (HN.out _ (by repeat' (first | exact Below.refl _ _ | assumption | refine b_gr ?_ _ | refine b_alloc ?_ _ | refine b_drew ?_)))).mono ?_
          rintro e w1 ⟨rfl, g0, rfl⟩
          go_wp2_with fail
          refine wp_region_gr_tail 41 (by kernel_rfl) (by kernel_rfl) ?_
          simp only [List.take_succ_cons, List.take_zero, List.drop_succ_cons, List.drop_zero]
          repeat (go_big_quiet_step ((first | (go_at_call 100; exact quiet_call (HO.out _ (by repeat' (first | exact Below.refl _ _ | assumption | refine b_gr ?_ _ | refine b_alloc ?_ _ | refine b_drew ?_)))) | (go_at_call 95; exact quiet_call (HV.out _)) | (go_at_call 96; exact quiet_call (HL.out _ (by repeat' (first | exact Below.refl _ _ | assumption | refine b_gr ?_ _ | refine b_alloc ?_ _ | refine b_drew ?_)))) | (go_at_call 101; exact quiet_call (HT.out _ (by repeat' (first | exact Below.refl _ _ | assumption | refine b_gr ?_ _ | refine b_alloc ?_ _ | refine b_drew ?_)))) | (go_at_call 102; exact quiet_call (HB.out _ (by repeat' (first | exact Below.refl _ _ | assumption | refine b_gr ?_ _ | refine b_alloc ?_ _ | refine b_drew ?_)))))))
          refine wpQuiet_nil ?_
          intro g
          go_wp2_with (first | (go_at_call 72; refine (calls_gr (HF.out _ _ _ (Blk.new _ _ _))).mono ?_; rintro e w2 ⟨rfl, g2, rfl⟩) | (go_at_call_of 103 (Value.agg #[.string x.wth.topo, .slice x.wth.terms.a x.wth.terms.l.length x.wth.terms.c]); refine (calls_gr (H1.out _ (by repeat' (first | exact Below.refl _ _ | assumption | refine b_gr ?_ _ | refine b_alloc ?_ _ | refine b_drew ?_)))).mono ?_; rintro e w3 ⟨rfl, g3, rfl⟩) | (go_at_call_of 103 (Value.agg #[.string x.apart.topo, .slice x.apart.terms.a x.apart.terms.l.length x.apart.terms.c]); refine (calls_gr (H2.out _ (by repeat' (first | exact Below.refl _ _ | assumption | refine b_gr ?_ _ | refine b_alloc ?_ _ | refine b_drew ?_)))).mono ?_; rintro e w4 ⟨rfl, g4, rfl⟩))
          go_ret
          exact ⟨by simp, (by repeat' (first | exact Below.refl _ _ | assumption | refine b_gr ?_ _ | refine b_alloc ?_ _ | refine b_drew ?_))⟩
      · rcases hA2 with ⟨rfl, h3, h4⟩ | ⟨rfl, h3, h4, h5⟩
        all_goals
          go_enter Tryz.func66, Tryz.ntmps66
          go_wp2_with fail
          refine (calls_gr (HN.out _ (by repeat' (first | exact Below.refl _ _ | assumption | refine b_gr ?_ _ | refine b_alloc ?_ _ | refine b_drew ?_)))).mono ?_
          rintro e w1 ⟨rfl, g0, rfl⟩
          go_wp2_with fail
          refine wp_region_gr_tail 41 (by kernel_rfl) (by kernel_rfl) ?_
          simp only [List.take_succ_cons, List.take_zero, List.drop_succ_cons, List.drop_zero]
          repeat (go_big_quiet_step ((first | (go_at_call 100; exact quiet_call (HO.out _ (by repeat' (first | exact Below.refl _ _ | assumption | refine b_gr ?_ _ | refine b_alloc ?_ _ | refine b_drew ?_)))) | (go_at_call 95; exact quiet_call (HV.out _)) | (go_at_call 96; exact quiet_call (HL.out _ (by repeat' (first | exact Below.refl _ _ | assumption | refine b_gr ?_ _ | refine b_alloc ?_ _ | refine b_drew ?_)))) | (go_at_call 101; exact quiet_call (HT.out _ (by repeat' (first | exact Below.refl _ _ | assumption | refine b_gr ?_ _ | refine b_alloc ?_ _ | refine b_drew ?_)))) | (go_at_call 102; exact quiet_call (HB.out _ (by repeat' (first | exact Below.refl _ _ | assumption | refine b_gr ?_ _ | refine b_alloc ?_ _ | refine b_drew ?_)))))))
          refine wpQuiet_nil ?_
          intro g
          go_wp2_with fail
          go_ret
          exact ⟨rfl, (by repeat' (first | exact Below.refl _ _ | assumption | refine b_gr ?_ _ | refine b_alloc ?_ _ | refine b_drew ?_))⟩
    · rcases hcn with ⟨_, h1, h2⟩ | ⟨h, _⟩
      · have hF : ((r0 == 0 && r1 == 0 && r2 == 0 && r3 == 0) = false) ∨ ((r0 == 0 && r1 == 0 && r2 == 0 && r3 == 0) = true ∧ q1 = false) ∨ ((r0 == 0 && r1 == 0 && r2 == 0 && r3 == 0) = true ∧ q1 = true) := by cases (r0 == 0 && r1 == 0 && r2 == 0 && r3 == 0) <;> cases q1 <;> simp
        have HF := hide (fun (B : Nat) (W : World) (t : TypeId) (h : Blk W B t _) => fine4_ok r0 r1 r2 r3 h)
        generalize (r0 == 0 && r1 == 0 && r2 == 0 && r3 == 0) = ff at *
        clear hr hnode
        rcases hA2 with ⟨rfl, h3, h4⟩ | ⟨rfl, h3, h4, h5⟩ <;> rcases hF with rfl | ⟨rfl, rfl⟩ | ⟨rfl, rfl⟩
        all_goals
          go_enter Tryz.func66, Tryz.ntmps66
          go_wp2_with fail
          refine (calls_gr (HN.out _ (by repeat' (first | exact Below.refl _ _ | assumption | refine b_gr ?_ _ | refine b_alloc ?_ _ | refine b_drew ?_)))).mono ?_
          rintro e w1 ⟨rfl, g0, rfl⟩
          go_wp2_with fail
          refine wp_region_gr_tail 41 (by kernel_rfl) (by kernel_rfl) ?_
          simp only [List.take_succ_cons, List.take_zero, List.drop_succ_cons, List.drop_zero]
          repeat (go_big_quiet_step ((first | (go_at_call 100; exact quiet_call (HO.out _ (by repeat' (first | exact Below.refl _ _ | assumption | refine b_gr ?_ _ | refine b_alloc ?_ _ | refine b_drew ?_)))) | (go_at_call 95; exact quiet_call (HV.out _)) | (go_at_call 96; exact quiet_call (HL.out _ (by repeat' (first | exact Below.refl _ _ | assumption | refine b_gr ?_ _ | refine b_alloc ?_ _ | refine b_drew ?_)))) | (go_at_call 101; exact quiet_call (HT.out _ (by repeat' (first | exact Below.refl _ _ | assumption | refine b_gr ?_ _ | refine b_alloc ?_ _ | refine b_drew ?_)))) | (go_at_call 102; exact quiet_call (HB.out _ (by repeat' (first | exact Below.refl _ _ | assumption | refine b_gr ?_ _ | refine b_alloc ?_ _ | refine b_drew ?_)))))))
          refine wpQuiet_nil ?_
          intro g
          go_wp2_with (first | (go_at_call 72; refine (calls_gr (HF.out _ _ _ (Blk.new _ _ _))).mono ?_; rintro e w2 ⟨rfl, g2, rfl⟩) | (go_at_call_of 103 (Value.agg #[.string x.wth.topo, .slice x.wth.terms.a x.wth.terms.l.length x.wth.terms.c]); refine (calls_gr (H1.out _ (by repeat' (first | exact Below.refl _ _ | assumption | refine b_gr ?_ _ | refine b_alloc ?_ _ | refine b_drew ?_)))).mono ?_; rintro e w3 ⟨rfl, g3, rfl⟩) | (go_at_call_of 103 (Value.agg #[.string x.apart.topo, .slice x.apart.terms.a x.apart.terms.l.length x.apart.terms.c]); refine (calls_gr (H2.out _ (by repeat' (first | exact Below.refl _ _ | assumption | refine b_gr ?_ _ | refine b_alloc ?_ _ | refine b_drew ?_)))).mono ?_; rintro e w4 ⟨rfl, g4, rfl⟩))
          go_ret
          exact ⟨by simp, (by repeat' (first | exact Below.refl _ _ | assumption | refine b_gr ?_ _ | refine b_alloc ?_ _ | refine b_drew ?_))⟩
      · cases h
end Go.Proofs.YtnjjdilmaepokaaGreat
namespace Go.Proofs.YtnjjdilmaepokaaGreat
open Go.RowKit
theorem check1_ok (x : Node) (w : World) (hx : x.At w) : Calls Tryz.prog 59 #[x.val] w (Gives (.bool (!nodeB x)) w) := by
  have H := hide (fun W hW => node_ok x W (hx.below hW))
  clear hx
  simp only [Node.val] at *
  go_enter Tryz.func59, Tryz.ntmps59
  go_wp2_with (go_at_call 60; refine (calls_gr (H.out _ (by repeat' (first | exact Below.refl _ _ | assumption | refine b_gr ?_ _ | refine b_alloc ?_ _ | refine b_drew ?_)))).mono ?_; rintro e w1 ⟨rfl, g, rfl⟩)
  go_ret
  exact ⟨rfl, (by repeat' (first | exact Below.refl _ _ | assumption | refine b_gr ?_ _ | refine b_alloc ?_ _ | refine b_drew ?_))⟩
theorem check2_ok (x : Owner) (w : World) : Calls Tryz.prog 62 #[x.val] w (Gives (.bool (!ownerB x)) w) := by
  have H := hide (fun W => owner_ok x W)
  simp only [Owner.val] at *
  go_enter Tryz.func62, Tryz.ntmps62
  go_wp2_with (go_at_call 63; refine (calls_gr (H.out _)).mono ?_; rintro e w1 ⟨rfl, g, rfl⟩)
  go_ret
  exact ⟨rfl, (by repeat' (first | exact Below.refl _ _ | assumption | refine b_gr ?_ _ | refine b_alloc ?_ _ | refine b_drew ?_))⟩
theorem check3_ok (s : Snap) (x : Pod) (k : Nat) (w : World) (hs : s.At w) (hx : x.At w) (hn : s.nodes.l.length ≤ 65536) (ho : s.owners.l.length ≤ 65536) (ik : LtB k w.heap.size)
    (h0 : w.cell? ⟨k, 0, none⟩ = some (.slice s.nodes.a s.nodes.l.length s.nodes.c)) (h1 : w.cell? ⟨k, 1, none⟩ = some (.slice s.pods.a s.pods.l.length s.pods.c)) (h2 : w.cell? ⟨k, 2, none⟩ = some (.slice s.owners.a s.owners.l.length s.owners.c)) :
    Calls Tryz.prog 65 #[x.val, .pointer (some ⟨k, 0, none⟩)] w (Gives (.bool (!podB s x)) w) := by
  have H := hide (fun W hW => pod_ok s x W (hs.below hW) (hx.below hW) hn ho)
  clear hx hs hn ho
  simp only [Snap.val, Pod.val] at *
  go_enter Tryz.func65, Tryz.ntmps65
  go_wp2_with (go_at_call 66; refine (calls_gr (H.out _ (by repeat' (first | exact Below.refl _ _ | assumption | refine b_gr ?_ _ | refine b_alloc ?_ _ | refine b_drew ?_)))).mono ?_; rintro e w1 ⟨rfl, g, rfl⟩)
  go_ret
  exact ⟨rfl, (by repeat' (first | exact Below.refl _ _ | assumption | refine b_gr ?_ _ | refine b_alloc ?_ _ | refine b_drew ?_))⟩
theorem check4_ok (x : Node) (w : World) : Calls Tryz.prog 69 #[x.val] w (Gives x.cap.val w) := by
  simp only [Node.val, Vec.val] at *
  go_enter Tryz.func69, Tryz.ntmps69
  go_wp2_with fail
  refine bodyPost_end (v := .agg #[.int .i64 x.cap.a, .int .i64 x.cap.b, .int .i64 x.cap.c, .int .i64 x.cap.d, .int .i64 x.cap.e]) (by simp [results, Tryz.results69, go_sem]) rfl ⟨rfl, ?_⟩
  exact (by repeat' (first | exact Below.refl _ _ | assumption | refine b_gr ?_ _ | refine b_alloc ?_ _ | refine b_drew ?_))
theorem check5_ok (x : Pod) (w : World) : Calls Tryz.prog 71 #[x.val] w (Gives x.req.val w) := by
  simp only [Pod.val, Vec.val] at *
  go_enter Tryz.func71, Tryz.ntmps71
  go_wp2_with fail
  refine bodyPost_end (v := .agg #[.int .i64 x.req.a, .int .i64 x.req.b, .int .i64 x.req.c, .int .i64 x.req.d, .int .i64 x.req.e]) (by simp [results, Tryz.results71, go_sem]) rfl ⟨rfl, ?_⟩
  exact (by repeat' (first | exact Below.refl _ _ | assumption | refine b_gr ?_ _ | refine b_alloc ?_ _ | refine b_drew ?_))
def sumsFine (s : Snap) : Bool := (plusE (s.nodes.l.map fun x => x.cap) == 0) && (plusE (s.pods.l.map fun x => x.req) == 0)
def snapCheck (s : Snap) : Int :=
  if (manyB s || !riseB (nodesNames s) || !riseB (podsNames s) || !riseB (ownersNames s)) = true then 50
  else if (s.nodes.l.any (fun x => !nodeB x) || s.owners.l.any (fun x => !ownerB x)) = true then 50
  else if s.pods.l.any (fun x => !podB s x) = true then 50
  else if sumsFine s = true then 0 else 10
theorem many_false {s : Snap} (h : manyB s = false) : s.nodes.l.length ≤ 8 ∧ s.pods.l.length ≤ 24 ∧ s.owners.l.length ≤ 8 := by
  unfold manyB at h
  simp only [Bool.or_eq_false_iff, decide_eq_false_iff_not] at h
  omega
set_option maxRecDepth 100000 in
set_option maxHeartbeats 4000000 in
theorem snapCheck_ok (s : Snap) (w : World) (hs : s.At w) : Calls Tryz.prog 43 #[s.val] w (Gives (.int .i64 (snapCheck s)) w) := by
  have HM := hide (fun W => many_ok s W)
  unfold snapCheck
  cases hm : manyB s with
  | true =>
    rw [hm] at HM
    clear hm hs
    simp only [Bool.true_or, if_true]
    simp only [Snap.val] at *
    go_enter Tryz.func43, Tryz.ntmps43
    go_wp2_with (go_at_call 53; refine (calls_gr (HM.out _)).mono ?_; rintro e w1 ⟨rfl, g, rfl⟩)
    go_ret
    exact ⟨rfl, (by repeat' (first | exact Below.refl _ _ | assumption | refine b_gr ?_ _ | refine b_alloc ?_ _ | refine b_drew ?_))⟩
  | false =>
    rw [hm] at HM
    obtain ⟨n1, n2, n3⟩ := many_false hm
    clear hm
    have HN := hide (fun W hW => nodes_ok s W (hs.below hW) (by omega))
    have HP := hide (fun W hW => pods_ok s W (hs.below hW) (by omega))
    have HO := hide (fun W hW => owners_ok s W (hs.below hW) (by omega))
    have HNr := hide (fun (r : SL ByteArray) W (hr : r.l = nodesNames s) (hat : Strs W r) => hr ▸ rise_ok r W hat (by rw [hr]; unfold nodesNames; rw [List.length_map]; omega))
    have HPr := hide (fun (r : SL ByteArray) W (hr : r.l = podsNames s) (hat : Strs W r) => hr ▸ rise_ok r W hat (by rw [hr]; unfold podsNames; rw [List.length_map]; omega))
    have HOr := hide (fun (r : SL ByteArray) W (hr : r.l = ownersNames s) (hat : Strs W r) => hr ▸ rise_ok r W hat (by rw [hr]; unfold ownersNames; rw [List.length_map]; omega))
    have HC1 := hide (fun W (hW : Below w.heap.size w W) => ContainsFunc_Node s.nodes (fun x => !nodeB x) 59 #[] (enters_of Tryz.func59 (by kernel_rfl) rfl) W (hs.nodes.below hW) (fun G x hx => check1_ok x _ ((hs.node x hx).below (b_gr hW G))))
    have HC2 := hide (fun W (hW : Below w.heap.size w W) => ContainsFunc_Owner s.owners (fun x => !ownerB x) 62 #[] (enters_of Tryz.func62 (by kernel_rfl) rfl) W (hs.owners.below hW) (fun G x hx => check2_ok x _))
    have HC3 := hide (fun W (hW : Below w.heap.size w W) (hb : Blk W w.heap.size 26 #[.slice s.nodes.a s.nodes.l.length s.nodes.c, .slice s.pods.a s.pods.l.length s.pods.c, .slice s.owners.a s.owners.l.length s.owners.c]) =>
      ContainsFunc_Pod s.pods (fun x => !podB s x) 65 #[.pointer (some ⟨w.heap.size, 0, none⟩)] (enters_of Tryz.func65 (by kernel_rfl) rfl) W (hs.pods.below hW) (fun G x hx => check3_ok s x w.heap.size _ (hs.below (b_gr hW G)) ((hs.pod x hx).below (b_gr hW G)) (by omega) (by omega) ((hb.gr G).ltb) ((hb.gr G).cell 0) ((hb.gr G).cell 1) ((hb.gr G).cell 2)))
    have HE1 := hide (fun W (hW : Below w.heap.size w W) => each_Node_vec s.nodes (fun x => x.cap) 69 (enters_of Tryz.func69 (by kernel_rfl) rfl) W (hs.nodes.below hW) (by omega) (fun G x hx W' _ => check4_ok x W'))
    have HE2 := hide (fun W (hW : Below w.heap.size w W) => each_Pod_vec s.pods (fun x => x.req) 71 (enters_of Tryz.func71 (by kernel_rfl) rfl) W (hs.pods.below hW) (by omega) (fun G x hx W' _ => check5_ok x W'))
    have HS1 := hide (fun (r : SL Vec) W (hr : r.l = s.nodes.l.map fun x => x.cap) (hat : r.At Vec.enc 5 W) => hr ▸ plus_ok r W hat (by rw [hr, List.length_map]; omega))
    have HS2 := hide (fun (r : SL Vec) W (hr : r.l = s.pods.l.map fun x => x.req) (hat : r.At Vec.enc 5 W) => hr ▸ plus_ok r W hat (by rw [hr, List.length_map]; omega))
    clear hs n1 n2 n3
    unfold sumsFine
    simp only [Bool.false_or]
    generalize (s.nodes.l.map fun x => x.cap) = lc at *
    generalize (s.pods.l.map fun x => x.req) = lq at *
    generalize plusE lc = e1 at *
    generalize plusE lq = e2 at *
    generalize plusV lc = v1 at *
    generalize plusV lq = v2 at *
    generalize nodesNames s = ln at *
    generalize podsNames s = lp at *
    generalize ownersNames s = lo at *
    generalize riseB ln = q1 at *
    generalize riseB lp = q2 at *
    generalize riseB lo = q3 at *
    generalize s.nodes.l.any (fun x => !nodeB x) = o1 at *
    generalize s.owners.l.any (fun x => !ownerB x) = o2 at *
    generalize s.pods.l.any (fun x => !podB s x) = o3 at *
    -- THE WAYS
    simp only [Snap.val, Vec.val] at *
    have hQ : (q1 = false) ∨ (q1 = true ∧ q2 = false) ∨ (q1 = true ∧ q2 = true ∧ q3 = false) ∨ (q1 = true ∧ q2 = true ∧ q3 = true ∧ o1 = true) ∨ (q1 = true ∧ q2 = true ∧ q3 = true ∧ o1 = false ∧ o2 = true) ∨ (q1 = true ∧ q2 = true ∧ q3 = true ∧ o1 = false ∧ o2 = false ∧ o3 = true) ∨ (q1 = true ∧ q2 = true ∧ q3 = true ∧ o1 = false ∧ o2 = false ∧ o3 = false) := by cases q1 <;> cases q2 <;> cases q3 <;> cases o1 <;> cases o2 <;> cases o3 <;> simp
    rcases hQ with rfl | ⟨rfl, rfl⟩ | ⟨rfl, rfl, rfl⟩ | ⟨rfl, rfl, rfl, rfl⟩ | ⟨rfl, rfl, rfl, rfl, rfl⟩ | ⟨rfl, rfl, rfl, rfl, rfl, rfl⟩ | ⟨rfl, rfl, rfl, rfl, rfl, rfl⟩
    · clear HP HPr HO HOr HC1 HC2 HC3 HE1 HE2 HS1 HS2
      go_enter Tryz.func43, Tryz.ntmps43
      go_wp2_with fail
      refine (calls_gr (HM.out _)).mono ?_
      rintro e w1 ⟨rfl, g1, rfl⟩
      clear HM
      go_wp2_with fail
      refine (HN.out _ (by repeat' (first | exact Below.refl _ _ | assumption | refine b_gr ?_ _ | refine b_alloc ?_ _ | refine b_drew ?_))).mono ?_
      rintro e x2 ⟨r2, hr2, rfl, hat2, hb2⟩
      have HR := hide (HNr.out r2 x2 hr2 hat2)
      obtain ⟨G2, rfl⟩ := to_gr ((gr_below _ _).trans (hb2.mono (size_gr _)))
      clear hr2 hat2 hb2
      simp only [SL.val] at *
      go_wp2_with fail
      refine (quiet_call HR.out).mono ?_
      rintro e y2 ⟨rfl, F2, rfl⟩
      clear HR HN HNr
      go_wp2_with fail
      go_ret
      exact ⟨rfl, (by repeat' (first | exact Below.refl _ _ | assumption | refine b_gr ?_ _ | refine b_alloc ?_ _ | refine b_drew ?_))⟩
    · clear HO HOr HC1 HC2 HC3 HE1 HE2 HS1 HS2
      go_enter Tryz.func43, Tryz.ntmps43
      go_wp2_with fail
      refine (calls_gr (HM.out _)).mono ?_
      rintro e w1 ⟨rfl, g1, rfl⟩
      clear HM
      go_wp2_with fail
      refine (HN.out _ (by repeat' (first | exact Below.refl _ _ | assumption | refine b_gr ?_ _ | refine b_alloc ?_ _ | refine b_drew ?_))).mono ?_
      rintro e x2 ⟨r2, hr2, rfl, hat2, hb2⟩
      have HR := hide (HNr.out r2 x2 hr2 hat2)
      obtain ⟨G2, rfl⟩ := to_gr ((gr_below _ _).trans (hb2.mono (size_gr _)))
      clear hr2 hat2 hb2
      simp only [SL.val] at *
      go_wp2_with fail
      refine (quiet_call HR.out).mono ?_
      rintro e y2 ⟨rfl, F2, rfl⟩
      clear HR HN HNr
      go_wp2_with fail
      refine (HP.out _ (by repeat' (first | exact Below.refl _ _ | assumption | refine b_gr ?_ _ | refine b_alloc ?_ _ | refine b_drew ?_))).mono ?_
      rintro e x3 ⟨r3, hr3, rfl, hat3, hb3⟩
      have HR := hide (HPr.out r3 x3 hr3 hat3)
      obtain ⟨G3, rfl⟩ := to_gr ((gr_below _ _).trans (hb3.mono (size_gr _)))
      clear hr3 hat3 hb3
      simp only [SL.val] at *
      go_wp2_with fail
      refine (quiet_call HR.out).mono ?_
      rintro e y3 ⟨rfl, F3, rfl⟩
      clear HR HP HPr
      go_wp2_with fail
      go_ret
      exact ⟨rfl, (by repeat' (first | exact Below.refl _ _ | assumption | refine b_gr ?_ _ | refine b_alloc ?_ _ | refine b_drew ?_))⟩
    · clear HC1 HC2 HC3 HE1 HE2 HS1 HS2
      go_enter Tryz.func43, Tryz.ntmps43
      go_wp2_with fail
      refine (calls_gr (HM.out _)).mono ?_
      rintro e w1 ⟨rfl, g1, rfl⟩
      clear HM
      go_wp2_with fail
      refine (HN.out _ (by repeat' (first | exact Below.refl _ _ | assumption | refine b_gr ?_ _ | refine b_alloc ?_ _ | refine b_drew ?_))).mono ?_
      rintro e x2 ⟨r2, hr2, rfl, hat2, hb2⟩
      have HR := hide (HNr.out r2 x2 hr2 hat2)
      obtain ⟨G2, rfl⟩ := to_gr ((gr_below _ _).trans (hb2.mono (size_gr _)))
      clear hr2 hat2 hb2
      simp only [SL.val] at *
      go_wp2_with fail
      refine (quiet_call HR.out).mono ?_
      rintro e y2 ⟨rfl, F2, rfl⟩
      clear HR HN HNr
      go_wp2_with fail
      refine (HP.out _ (by repeat' (first | exact Below.refl _ _ | assumption | refine b_gr ?_ _ | refine b_alloc ?_ _ | refine b_drew ?_))).mono ?_
      rintro e x3 ⟨r3, hr3, rfl, hat3, hb3⟩
      have HR := hide (HPr.out r3 x3 hr3 hat3)
      obtain ⟨G3, rfl⟩ := to_gr ((gr_below _ _).trans (hb3.mono (size_gr _)))
      clear hr3 hat3 hb3
      simp only [SL.val] at *
      go_wp2_with fail
      refine (quiet_call HR.out).mono ?_
      rintro e y3 ⟨rfl, F3, rfl⟩
      clear HR HP HPr
      go_wp2_with fail
      refine (HO.out _ (by repeat' (first | exact Below.refl _ _ | assumption | refine b_gr ?_ _ | refine b_alloc ?_ _ | refine b_drew ?_))).mono ?_
      rintro e x4 ⟨r4, hr4, rfl, hat4, hb4⟩
      have HR := hide (HOr.out r4 x4 hr4 hat4)
      obtain ⟨G4, rfl⟩ := to_gr ((gr_below _ _).trans (hb4.mono (size_gr _)))
      clear hr4 hat4 hb4
      simp only [SL.val] at *
      go_wp2_with fail
      refine (quiet_call HR.out).mono ?_
      rintro e y4 ⟨rfl, F4, rfl⟩
      clear HR HO HOr
      go_wp2_with fail
      go_ret
      exact ⟨rfl, (by repeat' (first | exact Below.refl _ _ | assumption | refine b_gr ?_ _ | refine b_alloc ?_ _ | refine b_drew ?_))⟩
    · clear HC2 HC3 HE1 HE2 HS1 HS2
      go_enter Tryz.func43, Tryz.ntmps43
      go_wp2_with fail
      refine (calls_gr (HM.out _)).mono ?_
      rintro e w1 ⟨rfl, g1, rfl⟩
      clear HM
      go_wp2_with fail
      refine (HN.out _ (by repeat' (first | exact Below.refl _ _ | assumption | refine b_gr ?_ _ | refine b_alloc ?_ _ | refine b_drew ?_))).mono ?_
      rintro e x2 ⟨r2, hr2, rfl, hat2, hb2⟩
      have HR := hide (HNr.out r2 x2 hr2 hat2)
      obtain ⟨G2, rfl⟩ := to_gr ((gr_below _ _).trans (hb2.mono (size_gr _)))
      clear hr2 hat2 hb2
      simp only [SL.val] at *
      go_wp2_with fail
      refine (quiet_call HR.out).mono ?_
      rintro e y2 ⟨rfl, F2, rfl⟩
      clear HR HN HNr
      go_wp2_with fail
      refine (HP.out _ (by repeat' (first | exact Below.refl _ _ | assumption | refine b_gr ?_ _ | refine b_alloc ?_ _ | refine b_drew ?_))).mono ?_
      rintro e x3 ⟨r3, hr3, rfl, hat3, hb3⟩
      have HR := hide (HPr.out r3 x3 hr3 hat3)
      obtain ⟨G3, rfl⟩ := to_gr ((gr_below _ _).trans (hb3.mono (size_gr _)))
      clear hr3 hat3 hb3
      simp only [SL.val] at *
      go_wp2_with fail
      refine (quiet_call HR.out).mono ?_
      rintro e y3 ⟨rfl, F3, rfl⟩
      clear HR HP HPr
      go_wp2_with fail
      refine (HO.out _ (by repeat' (first | exact Below.refl _ _ | assumption | refine b_gr ?_ _ | refine b_alloc ?_ _ | refine b_drew ?_))).mono ?_
      rintro e x4 ⟨r4, hr4, rfl, hat4, hb4⟩
      have HR := hide (HOr.out r4 x4 hr4 hat4)
      obtain ⟨G4, rfl⟩ := to_gr ((gr_below _ _).trans (hb4.mono (size_gr _)))
      clear hr4 hat4 hb4
      simp only [SL.val] at *
      go_wp2_with fail
      refine (quiet_call HR.out).mono ?_
      rintro e y4 ⟨rfl, F4, rfl⟩
      clear HR HO HOr
      go_wp2_with fail
      refine (quiet_call (HC1.out _ (by repeat' (first | exact Below.refl _ _ | assumption | refine b_gr ?_ _ | refine b_alloc ?_ _ | refine b_drew ?_)))).mono ?_
      rintro e z5 ⟨rfl, E5, rfl⟩
      clear HC1
      go_wp2_with fail
      go_ret
      exact ⟨rfl, (by repeat' (first | exact Below.refl _ _ | assumption | refine b_gr ?_ _ | refine b_alloc ?_ _ | refine b_drew ?_))⟩
    · clear HC3 HE1 HE2 HS1 HS2
      go_enter Tryz.func43, Tryz.ntmps43
      go_wp2_with fail
      refine (calls_gr (HM.out _)).mono ?_
      rintro e w1 ⟨rfl, g1, rfl⟩
      clear HM
      go_wp2_with fail
      refine (HN.out _ (by repeat' (first | exact Below.refl _ _ | assumption | refine b_gr ?_ _ | refine b_alloc ?_ _ | refine b_drew ?_))).mono ?_
      rintro e x2 ⟨r2, hr2, rfl, hat2, hb2⟩
      have HR := hide (HNr.out r2 x2 hr2 hat2)
      obtain ⟨G2, rfl⟩ := to_gr ((gr_below _ _).trans (hb2.mono (size_gr _)))
      clear hr2 hat2 hb2
      simp only [SL.val] at *
      go_wp2_with fail
      refine (quiet_call HR.out).mono ?_
      rintro e y2 ⟨rfl, F2, rfl⟩
      clear HR HN HNr
      go_wp2_with fail
      refine (HP.out _ (by repeat' (first | exact Below.refl _ _ | assumption | refine b_gr ?_ _ | refine b_alloc ?_ _ | refine b_drew ?_))).mono ?_
      rintro e x3 ⟨r3, hr3, rfl, hat3, hb3⟩
      have HR := hide (HPr.out r3 x3 hr3 hat3)
      obtain ⟨G3, rfl⟩ := to_gr ((gr_below _ _).trans (hb3.mono (size_gr _)))
      clear hr3 hat3 hb3
      simp only [SL.val] at *
      go_wp2_with fail
      refine (quiet_call HR.out).mono ?_
      rintro e y3 ⟨rfl, F3, rfl⟩
      clear HR HP HPr
      go_wp2_with fail
      refine (HO.out _ (by repeat' (first | exact Below.refl _ _ | assumption | refine b_gr ?_ _ | refine b_alloc ?_ _ | refine b_drew ?_))).mono ?_
      rintro e x4 ⟨r4, hr4, rfl, hat4, hb4⟩
      have HR := hide (HOr.out r4 x4 hr4 hat4)
      obtain ⟨G4, rfl⟩ := to_gr ((gr_below _ _).trans (hb4.mono (size_gr _)))
      clear hr4 hat4 hb4
      simp only [SL.val] at *
      go_wp2_with fail
      refine (quiet_call HR.out).mono ?_
      rintro e y4 ⟨rfl, F4, rfl⟩
      clear HR HO HOr
      go_wp2_with fail
      refine (quiet_call (HC1.out _ (by repeat' (first | exact Below.refl _ _ | assumption | refine b_gr ?_ _ | refine b_alloc ?_ _ | refine b_drew ?_)))).mono ?_
      rintro e z5 ⟨rfl, E5, rfl⟩
      clear HC1
      go_wp2_with fail
      refine (quiet_call (HC2.out _ (by repeat' (first | exact Below.refl _ _ | assumption | refine b_gr ?_ _ | refine b_alloc ?_ _ | refine b_drew ?_)))).mono ?_
      rintro e z6 ⟨rfl, E6, rfl⟩
      clear HC2
      go_wp2_with fail
      go_ret
      exact ⟨rfl, (by repeat' (first | exact Below.refl _ _ | assumption | refine b_gr ?_ _ | refine b_alloc ?_ _ | refine b_drew ?_))⟩
    · clear HE1 HE2 HS1 HS2
      go_enter Tryz.func43, Tryz.ntmps43
      go_wp2_with fail
      refine (calls_gr (HM.out _)).mono ?_
      rintro e w1 ⟨rfl, g1, rfl⟩
      clear HM
      go_wp2_with fail
      refine (HN.out _ (by repeat' (first | exact Below.refl _ _ | assumption | refine b_gr ?_ _ | refine b_alloc ?_ _ | refine b_drew ?_))).mono ?_
      rintro e x2 ⟨r2, hr2, rfl, hat2, hb2⟩
      have HR := hide (HNr.out r2 x2 hr2 hat2)
      obtain ⟨G2, rfl⟩ := to_gr ((gr_below _ _).trans (hb2.mono (size_gr _)))
      clear hr2 hat2 hb2
      simp only [SL.val] at *
      go_wp2_with fail
      refine (quiet_call HR.out).mono ?_
      rintro e y2 ⟨rfl, F2, rfl⟩
      clear HR HN HNr
      go_wp2_with fail
      refine (HP.out _ (by repeat' (first | exact Below.refl _ _ | assumption | refine b_gr ?_ _ | refine b_alloc ?_ _ | refine b_drew ?_))).mono ?_
      rintro e x3 ⟨r3, hr3, rfl, hat3, hb3⟩
      have HR := hide (HPr.out r3 x3 hr3 hat3)
      obtain ⟨G3, rfl⟩ := to_gr ((gr_below _ _).trans (hb3.mono (size_gr _)))
      clear hr3 hat3 hb3
      simp only [SL.val] at *
      go_wp2_with fail
      refine (quiet_call HR.out).mono ?_
      rintro e y3 ⟨rfl, F3, rfl⟩
      clear HR HP HPr
      go_wp2_with fail
      refine (HO.out _ (by repeat' (first | exact Below.refl _ _ | assumption | refine b_gr ?_ _ | refine b_alloc ?_ _ | refine b_drew ?_))).mono ?_
      rintro e x4 ⟨r4, hr4, rfl, hat4, hb4⟩
      have HR := hide (HOr.out r4 x4 hr4 hat4)
      obtain ⟨G4, rfl⟩ := to_gr ((gr_below _ _).trans (hb4.mono (size_gr _)))
      clear hr4 hat4 hb4
      simp only [SL.val] at *
      go_wp2_with fail
      refine (quiet_call HR.out).mono ?_
      rintro e y4 ⟨rfl, F4, rfl⟩
      clear HR HO HOr
      go_wp2_with fail
      refine (quiet_call (HC1.out _ (by repeat' (first | exact Below.refl _ _ | assumption | refine b_gr ?_ _ | refine b_alloc ?_ _ | refine b_drew ?_)))).mono ?_
      rintro e z5 ⟨rfl, E5, rfl⟩
      clear HC1
      go_wp2_with fail
      refine (quiet_call (HC2.out _ (by repeat' (first | exact Below.refl _ _ | assumption | refine b_gr ?_ _ | refine b_alloc ?_ _ | refine b_drew ?_)))).mono ?_
      rintro e z6 ⟨rfl, E6, rfl⟩
      clear HC2
      go_wp2_with fail
      refine (quiet_call (HC3.out _ (by repeat' (first | exact Below.refl _ _ | assumption | refine b_gr ?_ _ | refine b_alloc ?_ _ | refine b_drew ?_)) (by repeat' (first | exact Blk.new _ _ _ | apply Blk.gr | apply Blk.alloc)))).mono ?_
      rintro e z7 ⟨rfl, E7, rfl⟩
      clear HC3
      go_wp2_with fail
      go_ret
      exact ⟨rfl, (by repeat' (first | exact Below.refl _ _ | assumption | refine b_gr ?_ _ | refine b_alloc ?_ _ | refine b_drew ?_))⟩
    · have HF := hide (fun (B : Nat) (W : World) (t : TypeId) (h : Blk W B t _) => fine2_ok e1 e2 h)
      generalize (e1 == 0 && e2 == 0) = ff at *
      cases ff
      all_goals
        go_enter Tryz.func43, Tryz.ntmps43
        go_wp2_with fail
        refine (calls_gr (HM.out _)).mono ?_
        rintro e w1 ⟨rfl, g1, rfl⟩
        clear HM
        go_wp2_with fail
        refine (HN.out _ (by repeat' (first | exact Below.refl _ _ | assumption | refine b_gr ?_ _ | refine b_alloc ?_ _ | refine b_drew ?_))).mono ?_
        rintro e x2 ⟨r2, hr2, rfl, hat2, hb2⟩
        have HR := hide (HNr.out r2 x2 hr2 hat2)
        obtain ⟨G2, rfl⟩ := to_gr ((gr_below _ _).trans (hb2.mono (size_gr _)))
        clear hr2 hat2 hb2
        simp only [SL.val] at *
        go_wp2_with fail
        refine (quiet_call HR.out).mono ?_
        rintro e y2 ⟨rfl, F2, rfl⟩
        clear HR HN HNr
        go_wp2_with fail
        refine (HP.out _ (by repeat' (first | exact Below.refl _ _ | assumption | refine b_gr ?_ _ | refine b_alloc ?_ _ | refine b_drew ?_))).mono ?_
        rintro e x3 ⟨r3, hr3, rfl, hat3, hb3⟩
        have HR := hide (HPr.out r3 x3 hr3 hat3)
        obtain ⟨G3, rfl⟩ := to_gr ((gr_below _ _).trans (hb3.mono (size_gr _)))
        clear hr3 hat3 hb3
        simp only [SL.val] at *
        go_wp2_with fail
        refine (quiet_call HR.out).mono ?_
        rintro e y3 ⟨rfl, F3, rfl⟩
        clear HR HP HPr
        go_wp2_with fail
        refine (HO.out _ (by repeat' (first | exact Below.refl _ _ | assumption | refine b_gr ?_ _ | refine b_alloc ?_ _ | refine b_drew ?_))).mono ?_
        rintro e x4 ⟨r4, hr4, rfl, hat4, hb4⟩
        have HR := hide (HOr.out r4 x4 hr4 hat4)
        obtain ⟨G4, rfl⟩ := to_gr ((gr_below _ _).trans (hb4.mono (size_gr _)))
        clear hr4 hat4 hb4
        simp only [SL.val] at *
        go_wp2_with fail
        refine (quiet_call HR.out).mono ?_
        rintro e y4 ⟨rfl, F4, rfl⟩
        clear HR HO HOr
        go_wp2_with fail
        refine (quiet_call (HC1.out _ (by repeat' (first | exact Below.refl _ _ | assumption | refine b_gr ?_ _ | refine b_alloc ?_ _ | refine b_drew ?_)))).mono ?_
        rintro e z5 ⟨rfl, E5, rfl⟩
        clear HC1
        go_wp2_with fail
        refine (quiet_call (HC2.out _ (by repeat' (first | exact Below.refl _ _ | assumption | refine b_gr ?_ _ | refine b_alloc ?_ _ | refine b_drew ?_)))).mono ?_
        rintro e z6 ⟨rfl, E6, rfl⟩
        clear HC2
        go_wp2_with fail
        refine (quiet_call (HC3.out _ (by repeat' (first | exact Below.refl _ _ | assumption | refine b_gr ?_ _ | refine b_alloc ?_ _ | refine b_drew ?_)) (by repeat' (first | exact Blk.new _ _ _ | apply Blk.gr | apply Blk.alloc)))).mono ?_
        rintro e z7 ⟨rfl, E7, rfl⟩
        clear HC3
        go_wp2_with fail
        refine (HE1.out _ (by repeat' (first | exact Below.refl _ _ | assumption | refine b_gr ?_ _ | refine b_alloc ?_ _ | refine b_drew ?_))).mono ?_
        rintro e x8 ⟨r8, hr8, rfl, hat8, hb8⟩
        have HR := hide (HS1.out r8 x8 hr8 hat8)
        obtain ⟨G8, rfl⟩ := to_gr ((gr_below _ _).trans (hb8.mono (size_gr _)))
        clear hr8 hat8 hb8
        simp only [SL.val] at *
        go_wp2_with fail
        refine (quiet_call HR.out).mono ?_
        rintro e y8 ⟨rfl, F8, rfl⟩
        clear HR HE1 HS1
        go_wp2_with fail
        refine (HE2.out _ (by repeat' (first | exact Below.refl _ _ | assumption | refine b_gr ?_ _ | refine b_alloc ?_ _ | refine b_drew ?_))).mono ?_
        rintro e x9 ⟨r9, hr9, rfl, hat9, hb9⟩
        have HR := hide (HS2.out r9 x9 hr9 hat9)
        obtain ⟨G9, rfl⟩ := to_gr hb9
        clear hr9 hat9 hb9
        simp only [SL.val] at *
        go_wp2_with fail
        refine (quiet_call HR.out).mono ?_
        rintro e y9 ⟨rfl, F9, rfl⟩
        clear HR HE2 HS2
        go_wp2_with fail
        refine (calls_gr (HF.out _ _ _ (Blk.at_ _ _ _ _ (by simp)))).mono ?_
        rintro e u1 ⟨rfl, U1, rfl⟩
        go_wp2_with fail
        go_ret
        exact ⟨rfl, (by repeat' (first | exact Below.refl _ _ | assumption | refine b_gr ?_ _ | refine b_alloc ?_ _ | refine b_drew ?_))⟩
end Go.Proofs.YtnjjdilmaepokaaGreat
namespace Go.Proofs.YtnjjdilmaepokaaGreat
open Go.RowKit
def oddAt (s : Snap) (n : Int) : Bool := decide (n < -1) || decide (n ≥ s.nodes.l.length) || (decide (n ≥ 0) && lostAt s n)
set_option maxHeartbeats 1000000 in
theorem odd_ok (s : Snap) (n : Int) (k : Nat) (w : World) (hs : s.At w) (ik : LtB k w.heap.size) (h0 : w.cell? ⟨k, 0, none⟩ = some (.slice s.nodes.a s.nodes.l.length s.nodes.c)) :
    Calls Tryz.prog 44 #[.int .i64 n, .pointer (some ⟨k, 0, none⟩)] w (Gives (.bool (oddAt s n)) w) := by
  have hnode := hide hs.nodes.cell
  have hnl : s.nodes.l.length ≤ 140737488351232 := hs.nodes.big
  clear hs
  unfold oddAt
  by_cases h1 : n < -1
  · have e1 := decide_eq_true h1
    rw [e1]
    clear h1
    go_enter Tryz.func44, Tryz.ntmps44
    go_wp2
    go_ret
    exact ⟨rfl, (by repeat' (first | exact Below.refl _ _ | assumption | refine b_gr ?_ _ | refine b_alloc ?_ _ | refine b_drew ?_))⟩
  · have e1 := decide_eq_false h1
    rw [e1]
    by_cases h2 : n ≥ s.nodes.l.length
    · have e2 := decide_eq_true h2
      rw [e2]
      clear h1 h2
      go_enter Tryz.func44, Tryz.ntmps44
      go_wp2
      go_ret
      exact ⟨rfl, (by repeat' (first | exact Below.refl _ _ | assumption | refine b_gr ?_ _ | refine b_alloc ?_ _ | refine b_drew ?_))⟩
    · have e2 := decide_eq_false h2
      rw [e2]
      by_cases h3 : n ≥ 0
      · obtain ⟨j, rfl⟩ : ∃ j : Nat, n = j := ⟨n.toNat, by omega⟩
        have e3 := decide_eq_true h3
        rw [e3]
        have hj : j < s.nodes.l.length := by omega
        obtain ⟨⟨na, nc, nl⟩, ps, os⟩ := s
        simp only at *
        obtain ⟨b, off, rfl, hb0, hcell⟩ := hnode.out j _ (List.getElem?_eq_getElem hj)
        have ib : LtB b w.heap.size := ⟨hb0⟩
        have c9 := hcell 9 _ rfl
        have hlo : lostAt ⟨⟨some ⟨b, off, none⟩, nc, nl⟩, ps, os⟩ (j : Int) = nl[j].lost := by unfold lostAt; simp [List.getElem?_eq_getElem hj]
        rw [hlo]
        generalize nl[j].lost = lo at *
        clear hcell hb0 hlo hnode h1 h2 h3
        go_enter Tryz.func44, Tryz.ntmps44
        go_wp2
        go_ret
        exact ⟨by simp; intro h; omega, (by repeat' (first | exact Below.refl _ _ | assumption | refine b_gr ?_ _ | refine b_alloc ?_ _ | refine b_drew ?_))⟩
      · have e3 := decide_eq_false h3
        rw [e3]
        clear h1 h2 h3
        go_enter Tryz.func44, Tryz.ntmps44
        go_wp2
        go_ret
        exact ⟨rfl, (by repeat' (first | exact Below.refl _ _ | assumption | refine b_gr ?_ _ | refine b_alloc ?_ _ | refine b_drew ?_))⟩
def placeCheck (s : Snap) (p : List Int) : Int := if snapCheck s = 0 then (if (!decide (p.length = s.pods.l.length) || p.any (oddAt s)) = true then 2 else 0) else snapCheck s
set_option maxHeartbeats 1000000 in
theorem placeCheck_ok (s : Snap) (p : SL Int) (w : World) (hs : s.At w) (hp : Ints w p) : Calls Tryz.prog 17 #[s.val, p.val] w (Gives (.int .i64 (placeCheck s p.l)) w) := by
  have HS := hide (fun W hW => snapCheck_ok s W (hs.below hW))
  have HC := hide (fun W (hW : Below w.heap.size w W) (hb : Blk W w.heap.size 26 #[.slice s.nodes.a s.nodes.l.length s.nodes.c, .slice s.pods.a s.pods.l.length s.pods.c, .slice s.owners.a s.owners.l.length s.owners.c]) =>
      ContainsFunc_Ints p (oddAt s) 44 #[.pointer (some ⟨w.heap.size, 0, none⟩)] (enters_of Tryz.func44 (by kernel_rfl) rfl) W (hp.below hW) (fun G x hx => odd_ok s x w.heap.size _ (hs.below (b_gr hW G)) ((hb.gr G).ltb) ((hb.gr G).cell 0)))
  have hpl := hp.big
  have hsl := hs.pods.big
  clear hs hp
  unfold placeCheck
  rw [← nat_beq]
  generalize snapCheck s = e0 at *
  generalize p.l.any (oddAt s) = od at *
  obtain ⟨pa, pc, pl⟩ := p
  simp only [Snap.val, SL.val] at *
  by_cases h0 : e0 = 0
  · subst h0
    rw [if_pos rfl]
    have hb : ((pl.length : Int) != (s.pods.l.length : Int)) = !((pl.length : Int) == (s.pods.l.length : Int)) := rfl
    generalize ((pl.length : Int) == (s.pods.l.length : Int)) = eq at hb ⊢
    cases eq
    · go_enter Tryz.func17, Tryz.ntmps17
      go_wp2_with fail
      refine (calls_gr (HS.out _ (by repeat' (first | exact Below.refl _ _ | assumption | refine b_gr ?_ _ | refine b_alloc ?_ _ | refine b_drew ?_)))).mono ?_
      rintro e w1 ⟨rfl, g, rfl⟩
      clear HS
      go_wp2_with fail
      go_ret
      exact ⟨rfl, (by repeat' (first | exact Below.refl _ _ | assumption | refine b_gr ?_ _ | refine b_alloc ?_ _ | refine b_drew ?_))⟩
    · cases od
      all_goals
        go_enter Tryz.func17, Tryz.ntmps17
        go_wp2_with fail
        refine (calls_gr (HS.out _ (by repeat' (first | exact Below.refl _ _ | assumption | refine b_gr ?_ _ | refine b_alloc ?_ _ | refine b_drew ?_)))).mono ?_
        rintro e w1 ⟨rfl, g, rfl⟩
        clear HS
        go_wp2_with fail
        refine (calls_gr (HC.out _ (by repeat' (first | exact Below.refl _ _ | assumption | refine b_gr ?_ _ | refine b_alloc ?_ _ | refine b_drew ?_)) (by repeat' (first | exact Blk.new _ _ _ | apply Blk.gr | apply Blk.alloc)))).mono ?_
        rintro e w2 ⟨rfl, g2, rfl⟩
        clear HC
        go_wp2_with fail
        go_ret
        exact ⟨rfl, (by repeat' (first | exact Below.refl _ _ | assumption | refine b_gr ?_ _ | refine b_alloc ?_ _ | refine b_drew ?_))⟩
  · rw [if_neg h0]
    have hb : (e0 != 0) = true := by simpa using h0
    clear h0
    go_enter Tryz.func17, Tryz.ntmps17
    go_wp2_with fail
    refine (calls_gr (HS.out _ (by repeat' (first | exact Below.refl _ _ | assumption | refine b_gr ?_ _ | refine b_alloc ?_ _ | refine b_drew ?_)))).mono ?_
    rintro e w1 ⟨rfl, g, rfl⟩
    clear HS HC
    go_wp2_with fail
    go_ret
    exact ⟨rfl, (by repeat' (first | exact Below.refl _ _ | assumption | refine b_gr ?_ _ | refine b_alloc ?_ _ | refine b_drew ?_))⟩
theorem there_ok (i n : Int) (w : World) : Calls Tryz.prog 46 #[.int .i64 i, .int .i64 n] w fun e w' => e = .returned (.bool (decide (0 ≤ i) && decide (i < n))) ∧ w = w' := by
  by_cases h1 : i ≥ 0 <;> by_cases h2 : i < n
  all_goals
    have h3 : decide (0 ≤ i) = decide (i ≥ 0) := rfl
    go_enter Tryz.func46, Tryz.ntmps46
    go_wp2
    go_ret
    exact ⟨by simp [h1, h2], rfl⟩
end Go.Proofs.YtnjjdilmaepokaaGreat
