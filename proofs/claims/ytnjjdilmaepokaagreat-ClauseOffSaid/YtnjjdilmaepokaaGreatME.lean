/- Package clause: the map of the kinds.
   Package clause: of, about an owner. Conditions: a look lies in memory.
   Package clause: of, about a node. Conditions: a look lies in memory.
   Package clause: of, about a pod. Conditions: a look lies in memory; its cache is right.
   append onto a row of the call's own, the source a slice that reads as a list (nil let in). Conditions: the source lies in memory; the new length is within Go's bounds.
   Package clause: all clauses of a look. Conditions: a look lies in memory; its cache is right.
   Package clause: see. Conditions: the cluster and the placement lie in memory.
   Package clause: All, Of, Broken, Pod. Conditions: the cluster and the placement lie in memory.
   Package clause: Broken, Pod. Conditions: the cluster and the placement lie in memory. -/
import Derived.Test.YtnjjdilmaepokaaGreatMD
import Derived.BigRegion
import Derived.Laws.AppendOwnNone
import Derived.Deep.RegionLaw
import Derived.Deep.AppendLies
set_option linter.unusedVariables false
set_option linter.unusedSimpArgs false
namespace Go.Proofs.YtnjjdilmaepokaaGreat
open Go.RowKit Go.Maps
/-- The five, as an element of the map. -/
def kv (f : FuncId) : Value := .agg #[.func (.func f) #[] #[]]
def kindsD : DataW Value := ((((DataW.map []).put (.int .i64 2) (.held (kv 112))).put (.int .i64 3) (.held (kv 116))).put (.int .i64 4) (.held (kv 120))).put (.int .i64 5) (.held (kv 122)) |>.put (.int .i64 6) (.held (kv 123))
theorem int_key (n : Int) (h : (Lit.int .i64 n).wf = true) : keyOf Tryz.prog 3 (.int .i64 n) = some (.int .i64 n) := keyOf_int_mk Tryz.underlying3 h
set_option maxRecDepth 100000 in
theorem kinds_ok (w : World) : Calls Tryz.prog 77 #[] w fun e W => e = .returned (.map (some w.heap.size)) ∧ W.ownsMap Tryz.prog 3 heldV w.heap.size 5 kindsD ∧ Below w.heap.size w W := by
  have hmm := @run_makeMap Tryz.prog
  have o0 := World.ownsMap_made w Tryz.prog 3 heldV
  obtain ⟨w1, r1, o1, g1⟩ := o0.update (int_keyed Tryz.underlying3) Tryz.underlying144 (by unfold maxLen; omega) (val := kv 112) (int_key 2 (by decide)) rfl
  obtain ⟨w2, r2, o2, g2⟩ := o1.update (int_keyed Tryz.underlying3) Tryz.underlying144 (by unfold maxLen; omega) (val := kv 116) (int_key 3 (by decide)) rfl
  obtain ⟨w3, r3, o3, g3⟩ := o2.update (int_keyed Tryz.underlying3) Tryz.underlying144 (by unfold maxLen; omega) (val := kv 120) (int_key 4 (by decide)) rfl
  obtain ⟨w4, r4, o4, g4⟩ := o3.update (int_keyed Tryz.underlying3) Tryz.underlying144 (by unfold maxLen; omega) (val := kv 122) (int_key 5 (by decide)) rfl
  obtain ⟨w5, r5, o5, g5⟩ := o4.update (int_keyed Tryz.underlying3) Tryz.underlying144 (by unfold maxLen; omega) (val := kv 123) (int_key 6 (by decide)) rfl
  have HB := hide (((((((Below.refl w.heap.size w).alloc (Nat.le_refl _) _).grown g1 (by simp) (fun k h => by cases h; exact Nat.le_refl _)).grown g2 (Nat.le_trans (by simp) g1.size) (fun k h => by cases h; exact Nat.le_refl _)).grown g3 (Nat.le_trans (Nat.le_trans (by simp) g1.size) g2.size) (fun k h => by cases h; exact Nat.le_refl _)).grown g4 (Nat.le_trans (Nat.le_trans (Nat.le_trans (by simp) g1.size) g2.size) g3.size) (fun k h => by cases h; exact Nat.le_refl _)).grown g5 (Nat.le_trans (Nat.le_trans (Nat.le_trans (Nat.le_trans (by simp) g1.size) g2.size) g3.size) g4.size) (fun k h => by cases h; exact Nat.le_refl _))
  have HO := hide o5
  unfold kv at r1 r2 r3 r4 r5
  clear o0 o1 o2 o3 o4 o5 g1 g2 g3 g4 g5
  go_enter Tryz.func77, Tryz.ntmps77
  go_wp2_with fail
  go_ret
  exact ⟨rfl, HO.out, HB.out⟩
theorem kindsD_at (n : Nat) (h : 2 ≤ n ∧ n ≤ 6) (z : DataW Value) : kindsD.atKey (.int .i64 n) z = .held (kv (if n = 2 then 112 else if n = 3 then 116 else if n = 4 then 120 else if n = 5 then 122 else 123)) := by
  obtain rfl | rfl | rfl | rfl | rfl : n = 2 ∨ n = 3 ∨ n = 4 ∨ n = 5 ∨ n = 6 := by omega
  all_goals rfl
end Go.Proofs.YtnjjdilmaepokaaGreat
namespace Go.Proofs.YtnjjdilmaepokaaGreat
open Go.RowKit Go.Maps
theorem nodeNumber_ok (i : Int) (w : World) : Calls Tryz.prog 206 #[.int .i64 i] w fun e w' => e = .returned (.int .i64 i) ∧ w = w' := by
  go_enter Tryz.func206, Tryz.ntmps206
  go_wp2
  go_ret
  exact ⟨rfl, rfl⟩
theorem podNumber_ok (i : Int) (w : World) : Calls Tryz.prog 207 #[.int .i64 i] w fun e w' => e = .returned (.int .i64 i) ∧ w = w' := by
  go_enter Tryz.func207, Tryz.ntmps207
  go_wp2
  go_ret
  exact ⟨rfl, rfl⟩
theorem ownerNumber_ok (i : Int) (w : World) : Calls Tryz.prog 208 #[.int .i64 i] w fun e w' => e = .returned (.int .i64 i) ∧ w = w' := by
  go_enter Tryz.func208, Tryz.ntmps208
  go_wp2
  go_ret
  exact ⟨rfl, rfl⟩
theorem intsMax_ok (s : SL Int) (w : World) (hs : Ints w s) (h0 : 0 < s.l.length) : Calls Tryz.prog 80 #[s.val] w (Gives (.int .i64 (Lib.maxOf s.l)) w) := by
  obtain ⟨b, off, ha, hb, _⟩ := hs.cell 0 _ (List.getElem?_eq_getElem h0)
  have hc : ∀ j, j < s.l.length → w.cell? ⟨b, off + j, none⟩ = some (.int .i64 (s.l.getD j 0)) := fun j hj => by
    obtain ⟨b', off', ha', _, hc⟩ := hs.cell j _ (List.getElem?_eq_getElem hj)
    rw [ha] at ha'
    simp only [Option.some.injEq, Addr.mk.injEq, and_true] at ha'
    obtain ⟨rfl, rfl⟩ := ha'
    have := hc 0 _ rfl
    rw [List.getD_eq_getElem?_getD, List.getElem?_eq_getElem hj]
    simpa using this
  unfold SL.val
  rw [ha]
  exact (Tryz.slices_Max_int b off s.l.length s.c s.l w h0 (Nat.le_refl _) (by have := hs.big; omega) hc).mono fun _ _ ⟨he, hw⟩ => ⟨by rw [he, List.take_length], hw ▸ Below.refl _ _⟩
theorem intsMin_ok (s : SL Int) (w : World) (hs : Ints w s) (h0 : 0 < s.l.length) : Calls Tryz.prog 81 #[s.val] w (Gives (.int .i64 (Lib.minOf s.l)) w) := by
  obtain ⟨b, off, ha, hb, _⟩ := hs.cell 0 _ (List.getElem?_eq_getElem h0)
  have hc : ∀ j, j < s.l.length → w.cell? ⟨b, off + j, none⟩ = some (.int .i64 (s.l.getD j 0)) := fun j hj => by
    obtain ⟨b', off', ha', _, hc⟩ := hs.cell j _ (List.getElem?_eq_getElem hj)
    rw [ha] at ha'
    simp only [Option.some.injEq, Addr.mk.injEq, and_true] at ha'
    obtain ⟨rfl, rfl⟩ := ha'
    have := hc 0 _ rfl
    rw [List.getD_eq_getElem?_getD, List.getElem?_eq_getElem hj]
    simpa using this
  unfold SL.val
  rw [ha]
  exact (Tryz.slices_Min_int b off s.l.length s.c s.l w h0 (Nat.le_refl _) (by have := hs.big; omega) hc).mono fun _ _ ⟨he, hw⟩ => ⟨by rw [he, List.take_length], hw ▸ Below.refl _ _⟩
def minC (s : Snap) (p : List Int) (i : Nat) (o : Owner) : Int := max 0 (wrap64 (o.min - placedN s p i))
def spreadC (s : Snap) (p : List Int) (i : Nat) (o : Owner) : Int := if spreadL s p i = [] then 0 else max 0 (wrap64 (wrap64 (Lib.maxOf (spreadL s p i) - Lib.minOf (spreadL s p i)) - o.skew))
def ofOwner (s : Snap) (p : List Int) (which : Int) (i : Nat) (o : Owner) : List Clause := if which = 8 then [⟨8, i, 0, minC s p i o⟩] else if emp o.topo then [] else [⟨which, i, 0, spreadC s p i o⟩]
theorem gives_one {w W : World} {B : Nat} {c : Clause} (h : Blk W B 47 c.enc.toArray) (hB : Below w.heap.size w W) : GivesSL Clause.enc 4 [c] w (.returned (.slice (some ⟨B, 0, none⟩) 1 1)) W :=
  ⟨⟨some ⟨B, 0, none⟩, 1, [c]⟩, rfl, rfl, at_blk h (by simp) (fun _ => rfl) (by simp) (by simp) (by simp), hB⟩
theorem method_node (i : Int) (w : World) : (method 356 106 (.int .i64 i) "drayage/clause.number").run Tryz.prog w = .ok (206, .int .i64 i) w := by kernel_rfl
theorem method_pod (i : Int) (w : World) : (method 356 107 (.int .i64 i) "drayage/clause.number").run Tryz.prog w = .ok (207, .int .i64 i) w := by kernel_rfl
theorem method_owner (i : Int) (w : World) : (method 356 108 (.int .i64 i) "drayage/clause.number").run Tryz.prog w = .ok (208, .int .i64 i) w := by kernel_rfl
theorem ta_node_node (i : Int) (w : World) : (Instr.typeAssert (.iface 106 (.int .i64 i)) 139 106 true).run Tryz.prog w = .ok (.tuple #[.int .i64 i, .bool true]) w := by kernel_rfl
theorem ta_pod_node (i : Int) (w : World) : (Instr.typeAssert (.iface 107 (.int .i64 i)) 139 106 true).run Tryz.prog w = .ok (.tuple #[.int .i64 0, .bool false]) w := by kernel_rfl
theorem ta_pod_pod (i : Int) (w : World) : (Instr.typeAssert (.iface 107 (.int .i64 i)) 139 107 true).run Tryz.prog w = .ok (.tuple #[.int .i64 i, .bool true]) w := by kernel_rfl
theorem ta_owner_node (i : Int) (w : World) : (Instr.typeAssert (.iface 108 (.int .i64 i)) 139 106 true).run Tryz.prog w = .ok (.tuple #[.int .i64 0, .bool false]) w := by kernel_rfl
theorem ta_owner_pod (i : Int) (w : World) : (Instr.typeAssert (.iface 108 (.int .i64 i)) 139 107 true).run Tryz.prog w = .ok (.tuple #[.int .i64 0, .bool false]) w := by kernel_rfl
theorem ta_owner_owner (i : Int) (w : World) : (Instr.typeAssert (.iface 108 (.int .i64 i)) 139 108 true).run Tryz.prog w = .ok (.tuple #[.int .i64 i, .bool true]) w := by kernel_rfl
set_option maxRecDepth 100000 in
set_option maxHeartbeats 2000000 in
theorem ofMin_ok (k : Nat) (s : Snap) (p : SL Int) (us : SL Vec) (mb : Nat) (w : World) (h : LookAt w k s p us mb) (i : Nat) (o : Owner) (ho : s.owners.l[i]? = some o) :
    Calls Tryz.prog 51 #[.pointer (some ⟨k, 0, none⟩), .iface 108 (.int .i64 (i : Int)), .int .i64 8] w (GivesSL Clause.enc 4 [⟨8, i, 0, minC s p.l i o⟩] w) := by
  have HN := hide (fun W => ownerNumber_ok i W)
  have HP := hide (fun W (hW : Below w.heap.size w W) => placed_ok s p i W (h.below hW).s (h.below hW).p)
  have ik := h.lt
  have k0 := h.c0
  have k1 := h.c1
  have k2 := h.c2
  have k3 := h.c3
  obtain ⟨b2, o2, ha2, hb2, hc2⟩ := h.s.owners.cell i o ho
  have i2 : LtB b2 w.heap.size := ⟨hb2⟩
  have e0 : w.cell? ⟨b2, o2 + i * 5, none⟩ = some _ := hc2 0 _ rfl
  have e1 := hc2 1 _ rfl
  have e2 := hc2 2 _ rfl
  have e3 := hc2 3 _ rfl
  have e4 := hc2 4 _ rfl
  have hlj := (List.getElem?_eq_some_iff.1 ho).1
  have q2 := h.s.owners.big
  rw [ha2] at k2
  simp only [Snap.val, SL.val, ha2] at HP
  clear hc2 hb2 h ho ha2
  unfold minC
  generalize (placedN s p.l i : Nat) = pn at *
  have hmo := method_owner i
  have t1 := ta_owner_node i
  have t2 := ta_owner_pod i
  have t3 := ta_owner_owner i
  go_enter Tryz.func51, Tryz.ntmps51
  go_wp2_with fail
  refine (HN.out _).mono ?_
  rintro e w1 ⟨rfl, rfl⟩
  go_wp2_with fail
  refine wp_region_gr_tail 14 (by kernel_rfl) (by kernel_rfl) ?_
  simp only [List.take_succ_cons, List.take_zero, List.drop_succ_cons, List.drop_zero]
  repeat (go_big_quiet_step ((first | (go_at_call 78; exact quiet_call (HP.out _ (by repeat' (first | exact Below.refl _ _ | assumption | refine b_gr ?_ _ | refine b_alloc ?_ _ | refine b_drew ?_)))))))
  refine wpQuiet_nil ?_
  intro g
  go_wp2_with fail
  go_ret
  exact gives_one (Blk.at_ _ _ _ _ (by simp)) (by repeat' (first | exact Below.refl _ _ | assumption | refine b_gr ?_ _ | refine b_alloc ?_ _ | refine b_drew ?_ | refine b_set ?_ (by simp) _))
set_option maxRecDepth 100000 in
set_option maxHeartbeats 2000000 in
theorem ofSpread_ok (k : Nat) (s : Snap) (p : SL Int) (us : SL Vec) (mb : Nat) (w : World) (h : LookAt w k s p us mb) (i : Nat) (o : Owner) (ho : s.owners.l[i]? = some o) (which : Int) (hw : which ≠ 8) :
    Calls Tryz.prog 51 #[.pointer (some ⟨k, 0, none⟩), .iface 108 (.int .i64 (i : Int)), .int .i64 which] w (GivesSL Clause.enc 4 (if emp o.topo then [] else [⟨which, i, 0, spreadC s p.l i o⟩]) w) := by
  have HN := hide (fun W => ownerNumber_ok i W)
  have HP := hide (fun W (hW : Below w.heap.size w W) => spread_ok s p i W (h.below hW).s (h.below hW).p)
  have HX := hide (fun (r : SL Int) (hr : r.l = spreadL s p.l i) W (hW : Ints W r) (h0 : 0 < r.l.length) => hr ▸ intsMax_ok r W hW h0)
  have HM := hide (fun (r : SL Int) (hr : r.l = spreadL s p.l i) W (hW : Ints W r) (h0 : 0 < r.l.length) => hr ▸ intsMin_ok r W hW h0)
  have ik := h.lt
  have k0 := h.c0
  have k1 := h.c1
  have k2 := h.c2
  have k3 := h.c3
  obtain ⟨b2, o2, ha2, hb2, hc2⟩ := h.s.owners.cell i o ho
  have i2 : LtB b2 w.heap.size := ⟨hb2⟩
  have e0 : w.cell? ⟨b2, o2 + i * 5, none⟩ = some _ := hc2 0 _ rfl
  have e1 := hc2 1 _ rfl
  have e2 := hc2 2 _ rfl
  have e3 := hc2 3 _ rfl
  have e4 := hc2 4 _ rfl
  have hlj := (List.getElem?_eq_some_iff.1 ho).1
  have q2 := h.s.owners.big
  rw [ha2] at k2
  simp only [Snap.val, SL.val, ha2] at HP
  clear hc2 hb2 h ho ha2
  have hw8 : (which == 8) = false := by simpa using hw
  have hmo := method_owner i
  have t1 := ta_owner_node i
  have t2 := ta_owner_pod i
  have t3 := ta_owner_owner i
  unfold spreadC
  generalize spreadL s p.l i = sl at *
  rcases emp_cases o.topo with ⟨z0, z1, z2⟩ | ⟨z0, z1, z2⟩
  · rw [if_pos z0]
    have Hz := hide z0
    clear z0 HP HX HM hw
    go_enter Tryz.func51, Tryz.ntmps51
    go_wp2_with fail
    refine (HN.out _).mono ?_
    rintro e w1 ⟨rfl, rfl⟩
    go_wp2_with fail
    go_ret
    exact ⟨⟨none, 0, []⟩, rfl, rfl, SL.At.nil _ _ _, (by repeat' (first | exact Below.refl _ _ | assumption | refine b_gr ?_ _ | refine b_alloc ?_ _ | refine b_drew ?_ | refine b_set ?_ (by simp) _))⟩
  · rw [if_neg (by rw [z0]; simp)]
    have Hz := hide z0
    clear z0 hw
    by_cases hs0 : sl = []
    · rw [if_pos hs0]
      subst hs0
      clear HX HM
      go_enter Tryz.func51, Tryz.ntmps51
      go_wp2_with fail
      refine (HN.out _).mono ?_
      rintro e w1 ⟨rfl, rfl⟩
      go_wp2_with fail
      refine wp_region_gr_tail 9 (by kernel_rfl) (by kernel_rfl) ?_
      simp only [List.take_succ_cons, List.take_zero, List.drop_succ_cons, List.drop_zero]
      repeat (go_big_quiet_step ((first | fail)))
      refine wpQuiet_nil ?_
      intro g
      go_wp2_with fail
      refine (HP.out _ (by repeat' (first | exact Below.refl _ _ | assumption | refine b_gr ?_ _ | refine b_alloc ?_ _ | refine b_drew ?_))).mono ?_
      rintro e w1 ⟨r, hr, rfl, hat, hb⟩
      have hC := ((Blk.at_ (w.alloc (.cells #[.int .i64 which, .int .i64 (i : Int), .int .i64 0, .int .i64 0] 47)) 36 #[.string o.name, .int .i64 o.min, .string o.topo, .int .i64 o.skew, .bool o.single] (w.heap.size + 1) (by simp)).gr g).below hb (by have := size_gr g; simp at this; omega)
      have hD := (((Blk.new w 47 #[.int .i64 which, .int .i64 (i : Int), .int .i64 0, .int .i64 0]).alloc (.cells #[.string o.name, .int .i64 o.min, .string o.topo, .int .i64 o.skew, .bool o.single] 36)).gr g).below hb (by have := size_gr g; simp at this; omega)
      have hB : Below w.heap.size w w1 := b_then (by repeat' (first | exact Below.refl _ _ | assumption | refine b_gr ?_ _ | refine b_alloc ?_ _ | refine b_drew ?_)) hb
      clear hb HP
      have hd : ¬ 0 < r.l.length := by rw [hr]; simp
      have hd' : decide (0 < r.l.length) = false := decide_eq_false hd
      clear hr hat
      have iC := hC.ltb
      have iD := hD.ltb
      have y3 := hC.cell 3
      have x0 := hD.cell 0
      have x1 := hD.cell 1
      have x2 := hD.cell 2
      have x3 := hD.cell 3
      have x4 := hD.frozen 3
      simp at y3 x0 x1 x2 x3
      simp only [SL.val]
      go_wp2_with fail
      go_ret
      exact gives_one (Blk.new _ _ _) (b_alloc hB _)
    · rw [if_neg hs0]
      have hs1 : 0 < sl.length := List.length_pos_iff.2 hs0
      have Hs0 := hide hs0
      clear hs0
      go_enter Tryz.func51, Tryz.ntmps51
      go_wp2_with fail
      refine (HN.out _).mono ?_
      rintro e w1 ⟨rfl, rfl⟩
      go_wp2_with fail
      refine wp_region_gr_tail 9 (by kernel_rfl) (by kernel_rfl) ?_
      simp only [List.take_succ_cons, List.take_zero, List.drop_succ_cons, List.drop_zero]
      repeat (go_big_quiet_step ((first | fail)))
      refine wpQuiet_nil ?_
      intro g
      go_wp2_with fail
      refine (HP.out _ (by repeat' (first | exact Below.refl _ _ | assumption | refine b_gr ?_ _ | refine b_alloc ?_ _ | refine b_drew ?_))).mono ?_
      rintro e w1 ⟨r, hr, rfl, hat, hb⟩
      have hC := ((Blk.at_ (w.alloc (.cells #[.int .i64 which, .int .i64 (i : Int), .int .i64 0, .int .i64 0] 47)) 36 #[.string o.name, .int .i64 o.min, .string o.topo, .int .i64 o.skew, .bool o.single] (w.heap.size + 1) (by simp)).gr g).below hb (by have := size_gr g; simp at this; omega)
      have hD := (((Blk.new w 47 #[.int .i64 which, .int .i64 (i : Int), .int .i64 0, .int .i64 0]).alloc (.cells #[.string o.name, .int .i64 o.min, .string o.topo, .int .i64 o.skew, .bool o.single] 36)).gr g).below hb (by have := size_gr g; simp at this; omega)
      have hB : Below w.heap.size w w1 := b_then (by repeat' (first | exact Below.refl _ _ | assumption | refine b_gr ?_ _ | refine b_alloc ?_ _ | refine b_drew ?_)) hb
      clear hb HP
      have hd : 0 < r.l.length := by rw [hr]; exact hs1
      have hd' : decide (0 < r.l.length) = true := decide_eq_true hd
      have HX' := hide (fun W (hW : Below w1.heap.size w1 W) => HX.out r hr W (hat.below hW) (by rw [hr]; exact hs1))
      have HM' := hide (fun W (hW : Below w1.heap.size w1 W) => HM.out r hr W (hat.below hW) (by rw [hr]; exact hs1))
      clear hr hat HX HM
      have iC := hC.ltb
      have iD := hD.ltb
      have y3 := hC.cell 3
      have x0 := hD.cell 0
      have x1 := hD.cell 1
      have x2 := hD.cell 2
      have x3 := hD.cell 3
      have x4 := hD.frozen 3
      simp at y3 x0 x1 x2 x3
      simp only [SL.val] at *
      go_wp2_with fail
      refine wp_region_gr_tail 9 (by kernel_rfl) (by kernel_rfl) ?_
      simp only [List.take_succ_cons, List.take_zero, List.drop_succ_cons, List.drop_zero]
      repeat (go_big_quiet_step ((first | (go_at_call 80; exact quiet_call (HX'.out _ (by repeat' (first | exact Below.refl _ _ | assumption | refine b_gr ?_ _ | refine b_alloc ?_ _ | refine b_drew ?_)))) | (go_at_call 81; exact quiet_call (HM'.out _ (by repeat' (first | exact Below.refl _ _ | assumption | refine b_gr ?_ _ | refine b_alloc ?_ _ | refine b_drew ?_)))))))
      refine wpQuiet_nil ?_
      intro g2
      go_wp2_with fail
      go_ret
      exact gives_one (Blk.at_ _ _ _ _ (by simp)) (b_alloc (b_set (b_gr hB _) (by simp) _) _)
end Go.Proofs.YtnjjdilmaepokaaGreat
namespace Go.Proofs.YtnjjdilmaepokaaGreat
open Go.RowKit Go.Maps
def capAmt (u v : Int) : Int := max 0 (wrap64 (u - v))
def ofNode (which : Int) (i : Nat) (u v : Vec) : List Clause := [⟨which, i, 0, capAmt u.a v.a⟩, ⟨which, i, 1, capAmt u.b v.b⟩, ⟨which, i, 2, capAmt u.c v.c⟩, ⟨which, i, 3, capAmt u.d v.d⟩, ⟨which, i, 4, capAmt u.e v.e⟩]
theorem info_clause : (Tryz.prog.info? 47).map (fun i => (i.zero, i.size, i.bytes)) = some (some (.agg #[.int .i64 0, .int .i64 0, .int .i64 0, .int .i64 0]), 4, 32) := by kernel_rfl
theorem own_set {W : World} {base : Nat} {e : TypeId} {size n : Nat} {v : Value} {xs : List Value} (h : W.ownsRow base e size v n xs) {p : Addr} (hp : p.block < base) (u : Value) : (W.setCell p u).ownsRow base e size v n xs :=
  ⟨h.1, by
    rcases h.2 with h2 | ⟨g, cap, cur, hv, hb, hh, r⟩
    · exact .inl h2
    · exact .inr ⟨g, cap, cur, hv, hb, (Below.heap_setCell W p u g (by omega)).trans hh, r⟩⟩
theorem Blk.kept {W W' : World} {g : Nat} {t : TypeId} {cs : Array Value} {v : Value} (h : Blk W g t cs) (hg : W.grownBy W' v.ownBlock) (hne : ∀ k, v.ownBlock = some k → g ≠ k) : Blk W' g t cs :=
  (hg.block g h.lt (fun e => hne g e.symm rfl)).trans h
theorem own_drew {W : World} {base : Nat} {e : TypeId} {size n : Nat} {v : Value} {xs : List Value} (h : W.ownsRow base e size v n xs) : W.drew.ownsRow base e size v n xs := h
theorem cells_drew {W : World} {a : Addr} {cs : List Value} (h : ∀ j u, cs[j]? = some u → W.cell? (a.add j) = some u) : ∀ j u, cs[j]? = some u → W.drew.cell? (a.add j) = some u := h
set_option maxRecDepth 100000 in
set_option maxHeartbeats 4000000 in
theorem ofNode_ok (k : Nat) (s : Snap) (p : SL Int) (us : SL Vec) (mb : Nat) (w : World) (h : LookAt w k s p us mb) (which : Int) (i : Nat) (n : Node) (hn : s.nodes.l[i]? = some n) (u : Vec) (hu : us.l[i]? = some u) :
    Calls Tryz.prog 51 #[.pointer (some ⟨k, 0, none⟩), .iface 106 (.int .i64 (i : Int)), .int .i64 which] w (GivesSL Clause.enc 4 (ofNode which i u n.cap) w) := by
  have HN := hide (fun W => nodeNumber_ok i W)
  have ik := h.lt
  have k0 := h.c0
  have k4 := h.c4
  obtain ⟨b1, o1, ha1, hb1, hc1⟩ := h.s.nodes.cell i n hn
  obtain ⟨b2, o2, ha2, hb2, hc2⟩ := h.us.cell i u hu
  have i1 : LtB b1 w.heap.size := ⟨hb1⟩
  have i2 : LtB b2 w.heap.size := ⟨hb2⟩
  have d1 := hc1 1 _ rfl
  have d2 := hc1 2 _ rfl
  have d3 := hc1 3 _ rfl
  have d4 := hc1 4 _ rfl
  have d5 := hc1 5 _ rfl
  have e0 : w.cell? ⟨b2, o2 + i * 5, none⟩ = some _ := hc2 0 _ rfl
  have e1 := hc2 1 _ rfl
  have e2 := hc2 2 _ rfl
  have e3 := hc2 3 _ rfl
  have e4 := hc2 4 _ rfl
  have hli := (List.getElem?_eq_some_iff.1 hn).1
  have hlu := (List.getElem?_eq_some_iff.1 hu).1
  have q1 := h.s.nodes.big
  have q2 := h.us.big
  rw [ha1] at k0
  rw [ha2] at k4
  have n1 : b1 ≠ w.heap.size := by omega
  have n1' : w.heap.size ≠ b1 := by omega
  have n2 : k ≠ w.heap.size := by have := ik.h; omega
  have n2' : w.heap.size ≠ k := by have := ik.h; omega
  clear hc1 hc2 hb1 hb2 h hn hu ha1 ha2
  have hmo := method_node i
  have t1 := ta_node_node i
  have x0 := run_index0 (.int .i64 u.a) (.int .i64 u.b) (.int .i64 u.c) (.int .i64 u.d) (.int .i64 u.e)
  have x1 := run_index1 (.int .i64 u.a) (.int .i64 u.b) (.int .i64 u.c) (.int .i64 u.d) (.int .i64 u.e)
  have x2 := run_index2 (.int .i64 u.a) (.int .i64 u.b) (.int .i64 u.c) (.int .i64 u.d) (.int .i64 u.e)
  have x3 := run_index3 (.int .i64 u.a) (.int .i64 u.b) (.int .i64 u.c) (.int .i64 u.d) (.int .i64 u.e)
  have x4 := run_index4 (.int .i64 u.a) (.int .i64 u.b) (.int .i64 u.c) (.int .i64 u.d) (.int .i64 u.e)
  obtain ⟨i0, hi, hz0, hz1, hz2⟩ := info_parts info_clause
  have Hi := hide hi
  have Hz0 := hide hz0
  have Hz1 := hide hz1
  have Hz2 := hide hz2
  clear hi hz0 hz1 hz2
  have HL := hide (show ofNode which i u n.cap = ofNode which i u n.cap from rfl)
  generalize hcl : ofNode which i u n.cap = cl at *
  have hlen : cl.length = 5 := by rw [← hcl]; rfl
  have Hlen := hide hlen
  have Hcl := hide hcl
  clear hcl hlen HL
  go_enter Tryz.func51, Tryz.ntmps51
  go_wp2_with fail
  refine (HN.out _).mono ?_
  rintro e w1 ⟨rfl, rfl⟩
  go_wp2_with fail
  go_loopg [6, 32] 5 (fun gg s6 s32 wr => ∃ kk : Nat, kk ≤ 5 ∧ 5 - kk ≤ gg ∧ s32 = .int .i64 kk ∧ Hid (∃ G : Grw w, wr = gr w G ∧ (gr w G).ownsRow (w.heap.size + 1) 47 4 s6 kk ((cl.take kk).flatMap Clause.enc) ∧ ∃ x y : Int, Blk (gr w G) w.heap.size 47 #[.int .i64 which, .int .i64 (i : Int), .int .i64 x, .int .i64 y]))
  case atStart => exact ⟨0, Nat.zero_le _, by omega, rfl, ⟨_, below_lt (Below.refl _ w) _⟩, rfl, World.ownsRow_nil _ _ _ _, 0, 0, Blk.new _ _ _⟩
  case round =>
    obtain ⟨kk, hkk, hg, rfl, ⟨G, rfl, HO, x, y, hB⟩⟩ := hrel
    have HO' := hide HO
    have HB := hide hB
    have iB := hB.ltb
    have y0 := hB.cell 0
    have y1 := hB.cell 1
    have y2 := hB.cell 2
    have y3 := hB.cell 3
    have z2 := hB.frozen 2
    have z3 := hB.frozen 3
    simp at y0 y1 y2 y3
    clear HO hB
    obtain rfl | rfl | rfl | rfl | rfl | rfl : kk = 0 ∨ kk = 1 ∨ kk = 2 ∨ kk = 3 ∨ kk = 4 ∨ kk = 5 := by omega
    · have hx : cl[0]? = some (⟨which, i, 0, capAmt u.a n.cap.a⟩ : Clause) := by rw [← Hcl.out]; rfl
      have Hm := hide (take_succ_map id hx)
      clear hx
      simp only [List.map_id, id] at Hm
      go_wp2_with fail
      go_region
      go_wp2_with (at_builtin; refine wpList_append_own _ rfl _ _ 48 rfl (w.heap.size + 1) 47 i0 _ 4 32 Tryz.underlying48 Hi.out Hz0.out Hz1.out Hz2.out rfl (by decide) _ _ _ rfl (own_drew (own_below (own_set (own_set HO'.out (by simp) _) (by simp) _) (b_alloc (Below.refl _ _) _))) _ 1 1 (Clause.enc ⟨which, i, 0, max 0 (wrap64 (u.a - n.cap.a))⟩) rfl rfl (cells_drew (cells_at _ (Clause.enc ⟨which, i, 0, max 0 (wrap64 (u.a - n.cap.a))⟩) _ _ (by simp))) (by simp [Value.oneCell']) (by simp only [maxLen]; omega) (by omega) (by have := size_gr G; simp; omega) ?_; intro v' w2 hown' hgrow _)
      go_roundg (5 - (0 + 1))
      case measure => omega
      case rel =>
        have hB := grown_below (b_drew (b_alloc (b_set (b_set (gr_below w G) (by simp) _) (by simp) _) _)) hgrow (fun k hk => Nat.le_of_succ_le (own_ge HO'.out k hk))
        have hBlk := ((((HB.out.set_ 2 (.int .i64 0)).set_ 3 (.int .i64 (max 0 (wrap64 (u.a - n.cap.a))))).alloc (.cells #[.int .i64 which, .int .i64 (i : Int), .int .i64 0, .int .i64 (max 0 (wrap64 (u.a - n.cap.a)))] 47)).drew).kept hgrow (fun k hk => by have := own_ge HO'.out k hk; omega)
        obtain ⟨G', rfl⟩ := to_gr hB
        exact ⟨0 + 1, by omega, by omega, by go_num, G', rfl, by rw [Hm.out, flat_snoc]; exact hown', _, _, hBlk⟩
    · have hx : cl[1]? = some (⟨which, i, 1, capAmt u.b n.cap.b⟩ : Clause) := by rw [← Hcl.out]; rfl
      have Hm := hide (take_succ_map id hx)
      clear hx
      simp only [List.map_id, id] at Hm
      go_wp2_with fail
      go_region
      go_wp2_with (at_builtin; refine wpList_append_own _ rfl _ _ 48 rfl (w.heap.size + 1) 47 i0 _ 4 32 Tryz.underlying48 Hi.out Hz0.out Hz1.out Hz2.out rfl (by decide) _ _ _ rfl (own_drew (own_below (own_set (own_set HO'.out (by simp) _) (by simp) _) (b_alloc (Below.refl _ _) _))) _ 1 1 (Clause.enc ⟨which, i, 1, max 0 (wrap64 (u.b - n.cap.b))⟩) rfl rfl (cells_drew (cells_at _ (Clause.enc ⟨which, i, 1, max 0 (wrap64 (u.b - n.cap.b))⟩) _ _ (by simp))) (by simp [Value.oneCell']) (by simp only [maxLen]; omega) (by omega) (by have := size_gr G; simp; omega) ?_; intro v' w2 hown' hgrow _)
      go_roundg (5 - (1 + 1))
      case measure => omega
      case rel =>
        have hB := grown_below (b_drew (b_alloc (b_set (b_set (gr_below w G) (by simp) _) (by simp) _) _)) hgrow (fun k hk => Nat.le_of_succ_le (own_ge HO'.out k hk))
        have hBlk := ((((HB.out.set_ 2 (.int .i64 1)).set_ 3 (.int .i64 (max 0 (wrap64 (u.b - n.cap.b))))).alloc (.cells #[.int .i64 which, .int .i64 (i : Int), .int .i64 1, .int .i64 (max 0 (wrap64 (u.b - n.cap.b)))] 47)).drew).kept hgrow (fun k hk => by have := own_ge HO'.out k hk; omega)
        obtain ⟨G', rfl⟩ := to_gr hB
        exact ⟨1 + 1, by omega, by omega, by go_num, G', rfl, by rw [Hm.out, flat_snoc]; exact hown', _, _, hBlk⟩
    · have hx : cl[2]? = some (⟨which, i, 2, capAmt u.c n.cap.c⟩ : Clause) := by rw [← Hcl.out]; rfl
      have Hm := hide (take_succ_map id hx)
      clear hx
      simp only [List.map_id, id] at Hm
      go_wp2_with fail
      go_region
      go_wp2_with (at_builtin; refine wpList_append_own _ rfl _ _ 48 rfl (w.heap.size + 1) 47 i0 _ 4 32 Tryz.underlying48 Hi.out Hz0.out Hz1.out Hz2.out rfl (by decide) _ _ _ rfl (own_drew (own_below (own_set (own_set HO'.out (by simp) _) (by simp) _) (b_alloc (Below.refl _ _) _))) _ 1 1 (Clause.enc ⟨which, i, 2, max 0 (wrap64 (u.c - n.cap.c))⟩) rfl rfl (cells_drew (cells_at _ (Clause.enc ⟨which, i, 2, max 0 (wrap64 (u.c - n.cap.c))⟩) _ _ (by simp))) (by simp [Value.oneCell']) (by simp only [maxLen]; omega) (by omega) (by have := size_gr G; simp; omega) ?_; intro v' w2 hown' hgrow _)
      go_roundg (5 - (2 + 1))
      case measure => omega
      case rel =>
        have hB := grown_below (b_drew (b_alloc (b_set (b_set (gr_below w G) (by simp) _) (by simp) _) _)) hgrow (fun k hk => Nat.le_of_succ_le (own_ge HO'.out k hk))
        have hBlk := ((((HB.out.set_ 2 (.int .i64 2)).set_ 3 (.int .i64 (max 0 (wrap64 (u.c - n.cap.c))))).alloc (.cells #[.int .i64 which, .int .i64 (i : Int), .int .i64 2, .int .i64 (max 0 (wrap64 (u.c - n.cap.c)))] 47)).drew).kept hgrow (fun k hk => by have := own_ge HO'.out k hk; omega)
        obtain ⟨G', rfl⟩ := to_gr hB
        exact ⟨2 + 1, by omega, by omega, by go_num, G', rfl, by rw [Hm.out, flat_snoc]; exact hown', _, _, hBlk⟩
    · have hx : cl[3]? = some (⟨which, i, 3, capAmt u.d n.cap.d⟩ : Clause) := by rw [← Hcl.out]; rfl
      have Hm := hide (take_succ_map id hx)
      clear hx
      simp only [List.map_id, id] at Hm
      go_wp2_with fail
      go_region
      go_wp2_with (at_builtin; refine wpList_append_own _ rfl _ _ 48 rfl (w.heap.size + 1) 47 i0 _ 4 32 Tryz.underlying48 Hi.out Hz0.out Hz1.out Hz2.out rfl (by decide) _ _ _ rfl (own_drew (own_below (own_set (own_set HO'.out (by simp) _) (by simp) _) (b_alloc (Below.refl _ _) _))) _ 1 1 (Clause.enc ⟨which, i, 3, max 0 (wrap64 (u.d - n.cap.d))⟩) rfl rfl (cells_drew (cells_at _ (Clause.enc ⟨which, i, 3, max 0 (wrap64 (u.d - n.cap.d))⟩) _ _ (by simp))) (by simp [Value.oneCell']) (by simp only [maxLen]; omega) (by omega) (by have := size_gr G; simp; omega) ?_; intro v' w2 hown' hgrow _)
      go_roundg (5 - (3 + 1))
      case measure => omega
      case rel =>
        have hB := grown_below (b_drew (b_alloc (b_set (b_set (gr_below w G) (by simp) _) (by simp) _) _)) hgrow (fun k hk => Nat.le_of_succ_le (own_ge HO'.out k hk))
        have hBlk := ((((HB.out.set_ 2 (.int .i64 3)).set_ 3 (.int .i64 (max 0 (wrap64 (u.d - n.cap.d))))).alloc (.cells #[.int .i64 which, .int .i64 (i : Int), .int .i64 3, .int .i64 (max 0 (wrap64 (u.d - n.cap.d)))] 47)).drew).kept hgrow (fun k hk => by have := own_ge HO'.out k hk; omega)
        obtain ⟨G', rfl⟩ := to_gr hB
        exact ⟨3 + 1, by omega, by omega, by go_num, G', rfl, by rw [Hm.out, flat_snoc]; exact hown', _, _, hBlk⟩
    · have hx : cl[4]? = some (⟨which, i, 4, capAmt u.e n.cap.e⟩ : Clause) := by rw [← Hcl.out]; rfl
      have Hm := hide (take_succ_map id hx)
      clear hx
      simp only [List.map_id, id] at Hm
      go_wp2_with fail
      go_region
      go_wp2_with (at_builtin; refine wpList_append_own _ rfl _ _ 48 rfl (w.heap.size + 1) 47 i0 _ 4 32 Tryz.underlying48 Hi.out Hz0.out Hz1.out Hz2.out rfl (by decide) _ _ _ rfl (own_drew (own_below (own_set (own_set HO'.out (by simp) _) (by simp) _) (b_alloc (Below.refl _ _) _))) _ 1 1 (Clause.enc ⟨which, i, 4, max 0 (wrap64 (u.e - n.cap.e))⟩) rfl rfl (cells_drew (cells_at _ (Clause.enc ⟨which, i, 4, max 0 (wrap64 (u.e - n.cap.e))⟩) _ _ (by simp))) (by simp [Value.oneCell']) (by simp only [maxLen]; omega) (by omega) (by have := size_gr G; simp; omega) ?_; intro v' w2 hown' hgrow _)
      go_roundg (5 - (4 + 1))
      case measure => omega
      case rel =>
        have hB := grown_below (b_drew (b_alloc (b_set (b_set (gr_below w G) (by simp) _) (by simp) _) _)) hgrow (fun k hk => Nat.le_of_succ_le (own_ge HO'.out k hk))
        have hBlk := ((((HB.out.set_ 2 (.int .i64 4)).set_ 3 (.int .i64 (max 0 (wrap64 (u.e - n.cap.e))))).alloc (.cells #[.int .i64 which, .int .i64 (i : Int), .int .i64 4, .int .i64 (max 0 (wrap64 (u.e - n.cap.e)))] 47)).drew).kept hgrow (fun k hk => by have := own_ge HO'.out k hk; omega)
        obtain ⟨G', rfl⟩ := to_gr hB
        exact ⟨4 + 1, by omega, by omega, by go_num, G', rfl, by rw [Hm.out, flat_snoc]; exact hown', _, _, hBlk⟩
    · go_wp2_with fail
      go_ret
      have h := HO'.out
      rw [List.take_of_length_le (by rw [Hlen.out]; omega)] at h
      exact gives_row (fun _ => rfl) (by rw [Hlen.out]; exact h) (by rw [Hlen.out]; omega) (gr_below w G)
end Go.Proofs.YtnjjdilmaepokaaGreat
namespace Go.Proofs.YtnjjdilmaepokaaGreat
open Go.RowKit Go.Maps
def podC (s : Snap) (p : List Int) (which i : Nat) (y : Pod) (n : Node) : Int × Bool :=
  if which = 2 then ((missN (fun t => holdsB [t] n.labels.l) y.wher.l : Int), true)
  else if which = 3 then ((missN (fun t => bearsB y.bears.l [t]) n.taints.l : Int), true)
  else if which = 4 then withC s p i y
  else if which = 5 then apartC s p i y
  else doubleC s p i y
def ofPod (s : Snap) (p : List Int) (which i : Nat) : List Clause :=
  if atOf p i < 0 then [] else match s.pods.l[i]?, s.nodes.l[(atOf p i).toNat]? with
  | some y, some n => if (podC s p which i y n).2 then [⟨which, i, 0, (podC s p which i y n).1⟩] else []
  | _, _ => []
def GivesSLM {α : Type} (mb : Nat) (J : World → Prop) (enc : α → List Value) (k : Nat) (xs : List α) (w : World) (e : Ending) (w' : World) : Prop := ∃ s : SL α, s.l = xs ∧ e = .returned s.val ∧ s.At enc k w' ∧ ∃ g : Gm w mb J, w' = gm w mb J g
section
variable {w : World} {mb : Nat} {J : World → Prop}
theorem GivesSLM.of_gives {α : Type} {enc : α → List Value} {k : Nat} {xs : List α} {e : Ending} {w' : World} (hS : Stays J) (h0 : ∃ es c, w.heap[mb]? = some (.map es c)) (hJ : J w) (h : GivesSL enc k xs w e w') : GivesSLM mb J enc k xs w e w' := by
  obtain ⟨s, h1, h2, h3, h4⟩ := h
  exact ⟨s, h1, h2, h3, gm_of_below hS h4 h0 hJ⟩
theorem Blk.gm {b : Nat} {t : TypeId} {cs : Array Value} (h : Blk w b t cs) (hne : b ≠ mb) (g : Gm w mb J) : Blk (gm w mb J g) b t cs := (g.block b h.lt hne).trans h
end
theorem gm_set {w : World} {s : Snap} {L : List ByteArray} {mb : Nat} (g : Gm w mb (Cache s L mb)) {p : Addr} (hp : w.heap.size ≤ p.block) {cs : Array Value} (hb : Blk (gm w mb (Cache s L mb) g) p.block 47 cs) (hm : mb < w.heap.size) (u : Value) :
    ∃ g' : Gm w mb (Cache s L mb), (gm w mb (Cache s L mb) g).setCell p u = gm w mb (Cache s L mb) g' := by
  have hH : ∀ b, b ≠ p.block → ((gm w mb (Cache s L mb) g).setCell p u).heap[b]? = (gm w mb (Cache s L mb) g).heap[b]? := fun b hb => Below.heap_setCell _ p u b hb
  have hs : ((gm w mb (Cache s L mb) g).setCell p u).heap.size = (gm w mb (Cache s L mb) g).heap.size := by simp [World.setCell]
  refine ⟨⟨(gm w mb (Cache s L mb) g).setCell p u, g.os, g.tape, g.output, by rw [hs]; exact g.size, fun b hb hne => (hH b (by omega)).trans (g.block b hb hne), g.m0, ?_, ?_⟩, rfl⟩
  · obtain ⟨es, c, h⟩ := g.m1
    exact ⟨es, c, (hH mb (by omega)).trans h⟩
  · refine Cache.kept g.j ⟨by rw [hs]; exact Nat.le_refl _, fun b cs' hb' => hH b (fun e => ?_)⟩ (hH mb (by omega))
    subst e
    have : (Obj.cells cs' 212 (0, 0)) = .cells cs 47 (0, 0) := by
      have h1 : (gm w mb (Cache s L mb) g).heap[p.block]? = some (.cells cs 47 (0, 0)) := hb
      exact Option.some.inj (hb'.symm.trans h1)
    injection this with _ h2
    exact absurd h2 (by decide)
theorem kind_at (k : Nat) (s : Snap) (p : SL Int) (us : SL Vec) (mb : Nat) (i a which : Nat) (hw : 2 ≤ which ∧ which ≤ 6) (y : Pod) (n : Node) (hi : p.l[i]? = some (a : Int)) (hy : s.pods.l[i]? = some y) (hn : s.nodes.l[a]? = some n) :
    ∃ f, (∀ z, kindsD.atKey (.int .i64 which) z = .held (kv f)) ∧ (∀ args w, (callFunc f args).run Tryz.prog w = .ok (.enter f args) w) ∧
      ∀ W, Looks W k s p us mb (topos s) → Calls Tryz.prog f #[.pointer (some ⟨k, 0, none⟩), .int .i64 (i : Int)] W (GivesM mb (Cache s (topos s) mb) (pairB (podC s p.l which i y n)) W) := by
  obtain rfl | rfl | rfl | rfl | rfl : which = 2 ∨ which = 3 ∨ which = 4 ∨ which = 5 ∨ which = 6 := by omega
  · exact ⟨112, fun z => kindsD_at 2 (by omega) z, (enters_of Tryz.func112 (by kernel_rfl) rfl), fun W h => (kinds1_ok k s p us mb i y a n W h.at_ hy hi hn).mono fun _ _ hg => GivesM.of_gives (Cache.stays _ _ _) h.c.map h.c hg⟩
  · exact ⟨116, fun z => kindsD_at 3 (by omega) z, (enters_of Tryz.func116 (by kernel_rfl) rfl), fun W h => (kinds2_ok k s p us mb i y a n W h.at_ hy hi hn).mono fun _ _ hg => GivesM.of_gives (Cache.stays _ _ _) h.c.map h.c hg⟩
  · exact ⟨120, fun z => kindsD_at 4 (by omega) z, (enters_of Tryz.func120 (by kernel_rfl) rfl), fun W h => kinds3_ok k s p us mb W h i _ hi (by omega) y hy⟩
  · exact ⟨122, fun z => kindsD_at 5 (by omega) z, (enters_of Tryz.func122 (by kernel_rfl) rfl), fun W h => kinds4_ok k s p us mb W h i _ hi (by omega) y hy⟩
  · exact ⟨123, fun z => kindsD_at 6 (by omega) z, (enters_of Tryz.func123 (by kernel_rfl) rfl), fun W h => kinds5_ok k s p us mb W h i _ hi y hy⟩
set_option maxRecDepth 100000 in
set_option maxHeartbeats 4000000 in
theorem ofPod_ok (k : Nat) (s : Snap) (p : SL Int) (us : SL Vec) (mb : Nat) (w : World) (hL : Looks w k s p us mb (topos s)) (i : Nat) (xi : Int) (hi : p.l[i]? = some xi) (which : Nat) (hw : 2 ≤ which ∧ which ≤ 6) :
    Calls Tryz.prog 51 #[.pointer (some ⟨k, 0, none⟩), .iface 107 (.int .i64 (i : Int)), .int .i64 (which : Int)] w (GivesSLM mb (Cache s (topos s) mb) Clause.enc 4 (ofPod s p.l which i) w) := by
  have HN := hide (fun W => podNumber_ok i W)
  have h := hL.at_
  have hm := hL.c.map
  have hmlt := map_lt hm
  have H0 := hide (fun W (hW : Below w.heap.size w W) => gm_of_below (Cache.stays s (topos s) mb) hW hm hL.c)
  have ik := h.lt
  have k3 := h.c3
  obtain ⟨b3, o3, ha3, hb3, hc3⟩ := h.p.cell i _ hi
  have i3 : LtB b3 w.heap.size := ⟨hb3⟩
  have f0 : w.cell? ⟨b3, o3 + i, none⟩ = some (.int .i64 xi) := by have h := hc3 0 _ rfl; simpa using h
  have hli := (List.getElem?_eq_some_iff.1 hi).1
  have q3 := h.p.big
  rw [ha3] at k3
  have hmo := method_pod i
  have t1 := ta_pod_node i
  have t2 := ta_pod_pod i
  have hat := at_of hi
  clear hc3 hb3 h ha3
  unfold ofPod
  rw [hat]
  by_cases h0 : xi < 0
  · rw [if_pos h0]
    have hd : decide (xi < 0) = true := decide_eq_true h0
    clear h0 hat hL hi
    go_enter Tryz.func51, Tryz.ntmps51
    go_wp2_with fail
    refine (HN.out _).mono ?_
    rintro e w1 ⟨rfl, rfl⟩
    go_wp2_with fail
    go_ret
    exact ⟨⟨none, 0, []⟩, rfl, rfl, SL.At.nil _ _ _, H0.out _ (by repeat' (first | exact Below.refl _ _ | assumption | refine b_gr ?_ _ | refine b_alloc ?_ _ | refine b_drew ?_))⟩
  · rw [if_neg h0]
    have hd : decide (xi < 0) = false := decide_eq_false h0
    obtain ⟨a, n, rfl, hn⟩ := node_at hL.z hi (by omega)
    obtain ⟨y, hy⟩ := pod_at hL.z hi
    rw [hy]
    simp only [Int.toNat_natCast, hn]
    obtain ⟨f, hf, eg, hc⟩ := kind_at k s p us mb i a which hw y n hi hy hn
    have HK := hide (fun W => kinds_ok W)
    have HF := hide (fun W (hW : Below w.heap.size w W) => hc W (hL.below hW))
    have HfD := hide hf
    clear hf hc hL hi hy hn h0 hat
    simp only [pairB] at HF
    have hww : (Lit.int .i64 (which : Int)).wf = true := by
      obtain rfl | rfl | rfl | rfl | rfl : which = 2 ∨ which = 3 ∨ which = 4 ∨ which = 5 ∨ which = 6 := by omega
      all_goals decide
    have Hww := hide hww
    clear hww
    generalize podC s p.l which i y n = pc at *
    obtain ⟨r, b⟩ := pc
    simp only at HF ⊢
    cases b
    · have hfl : ∀ (v : Value) (w : World), (Instr.field 143 (.agg #[v]) 0).run Tryz.prog w = .ok v w := fun _ _ => by kernel_rfl
      go_enter Tryz.func51, Tryz.ntmps51
      go_wp2_with fail
      refine (HN.out _).mono ?_
      rintro e w1 ⟨rfl, rfl⟩
      go_wp2_with fail
      refine (HK.out _).mono ?_
      rintro e W1 ⟨rfl, hO, hB⟩
      obtain ⟨v, ps, hrun, hR⟩ := hO.lookup (int_keyed Tryz.underlying3) Tryz.underlying144 (z := .agg #[.nilFunc]) (Tryz.zeroValue143 _) (zd := .held (.agg #[.nilFunc])) (zp := []) rfl (int_key which Hww.out)
      rw [HfD.out] at hR
      simp only [heldV, Option.some.injEq, Prod.mk.injEq, DataW.held.injEq] at hR
      obtain ⟨rfl, rfl⟩ := hR
      have hC := (Blk.new w 47 #[.int .i64 (which : Int), .int .i64 (i : Int), .int .i64 0, .int .i64 0]).below hB (by simp)
      have hBw : Below w.heap.size w W1 := b_then (by repeat' (first | exact Below.refl _ _ | assumption | refine b_gr ?_ _ | refine b_alloc ?_ _ | refine b_drew ?_)) hB
      have HC := hide hC
      have HBw := hide hBw
      unfold kv at hrun
      have hsz : ∀ o : Obj, (w.alloc o).heap.size = w.heap.size + 1 := fun o => by simp
      rw [hsz] at hrun
      clear hsz
      clear hO hB HfD hC hBw HK
      go_wp2_with fail
      refine (HF.out _ HBw.out).mono ?_
      rintro e w2 ⟨rfl, G, rfl⟩
      have hC2 := HC.out.gm (by omega) G
      have hex := gm_pre HBw.out hm G
      generalize gm W1 mb (Cache s (topos s) mb) G = W2 at hex hC2 ⊢
      obtain ⟨G', rfl⟩ := hex
      have iC := hC2.ltb
      have x0 := hC2.cell 0
      have x1 := hC2.cell 1
      have x2 := hC2.cell 2
      have x3 := hC2.cell 3
      have x4 := hC2.frozen 3
      simp at x0 x1 x2 x3
      clear hrun HF hd
      have HC2 := hide hC2
      clear hC2
      go_wp2_with fail
      go_ret
      exact ⟨⟨none, 0, []⟩, rfl, rfl, SL.At.nil _ _ _, G', rfl⟩
    · have hfl : ∀ (v : Value) (w : World), (Instr.field 143 (.agg #[v]) 0).run Tryz.prog w = .ok v w := fun _ _ => by kernel_rfl
      go_enter Tryz.func51, Tryz.ntmps51
      go_wp2_with fail
      refine (HN.out _).mono ?_
      rintro e w1 ⟨rfl, rfl⟩
      go_wp2_with fail
      refine (HK.out _).mono ?_
      rintro e W1 ⟨rfl, hO, hB⟩
      obtain ⟨v, ps, hrun, hR⟩ := hO.lookup (int_keyed Tryz.underlying3) Tryz.underlying144 (z := .agg #[.nilFunc]) (Tryz.zeroValue143 _) (zd := .held (.agg #[.nilFunc])) (zp := []) rfl (int_key which Hww.out)
      rw [HfD.out] at hR
      simp only [heldV, Option.some.injEq, Prod.mk.injEq, DataW.held.injEq] at hR
      obtain ⟨rfl, rfl⟩ := hR
      have hC := (Blk.new w 47 #[.int .i64 (which : Int), .int .i64 (i : Int), .int .i64 0, .int .i64 0]).below hB (by simp)
      have hBw : Below w.heap.size w W1 := b_then (by repeat' (first | exact Below.refl _ _ | assumption | refine b_gr ?_ _ | refine b_alloc ?_ _ | refine b_drew ?_)) hB
      have HC := hide hC
      have HBw := hide hBw
      unfold kv at hrun
      have hsz : ∀ o : Obj, (w.alloc o).heap.size = w.heap.size + 1 := fun o => by simp
      rw [hsz] at hrun
      clear hsz
      clear hO hB HfD hC hBw HK
      go_wp2_with fail
      refine (HF.out _ HBw.out).mono ?_
      rintro e w2 ⟨rfl, G, rfl⟩
      have hC2 := HC.out.gm (by omega) G
      have hex := gm_pre HBw.out hm G
      generalize gm W1 mb (Cache s (topos s) mb) G = W2 at hex hC2 ⊢
      obtain ⟨G', rfl⟩ := hex
      have iC := hC2.ltb
      have x0 := hC2.cell 0
      have x1 := hC2.cell 1
      have x2 := hC2.cell 2
      have x3 := hC2.cell 3
      have x4 := hC2.frozen 3
      simp at x0 x1 x2 x3
      clear hrun HF hd
      have HC2 := hide hC2
      clear hC2
      go_wp2_with fail
      go_ret
      have h1 := gm_set G' (p := ⟨w.heap.size, 3, none⟩) (Nat.le_refl _) HC2.out hmlt (.int .i64 r)
      obtain ⟨G2, h2⟩ := h1
      rw [h2]
      have hone := gives_one (Blk.at_ (gm w mb (Cache s (topos s) mb) G2) 47 (Clause.enc ⟨which, i, 0, r⟩).toArray (gm w mb (Cache s (topos s) mb) G').heap.size (by rw [← h2]; simp [World.setCell])) (Below.refl _ _)
      obtain ⟨sl, h3, h4, h5, _⟩ := hone
      exact ⟨sl, h3, h4, h5, gm_below (Cache.stays _ _ _) G2 (b_alloc (Below.refl _ _) _)⟩
end Go.Proofs.YtnjjdilmaepokaaGreat
namespace Go.Proofs.YtnjjdilmaepokaaGreat
open Go.RowKit Go.Maps
theorem flat_inv {α : Type} {enc : α → List Value} {k : Nat} (hk : ∀ x, (enc x).length = k) (h0 : 0 < k) {xs : List α} {j : Nat} {u : Value} (h : (xs.flatMap enc)[j]? = some u) : ∃ x, xs[j / k]? = some x ∧ (enc x)[j % k]? = some u := by
  have hj := (List.getElem?_eq_some_iff.1 h).1
  rw [flat_len hk] at hj
  have hi : j / k < xs.length := Nat.div_lt_of_lt_mul (by rw [Nat.mul_comm]; exact hj)
  have hx : xs[j / k]? = some xs[j / k] := List.getElem?_eq_getElem hi
  have hr : j % k < (enc xs[j / k]).length := by rw [hk]; exact Nat.mod_lt _ h0
  have hv : (enc xs[j / k])[j % k]? = some (enc xs[j / k])[j % k] := List.getElem?_eq_getElem hr
  have hf := flat_at hk xs (j / k) _ (j % k) _ hx hv
  rw [Nat.mul_comm, Nat.div_add_mod, h] at hf
  exact ⟨_, hx, by rw [hv, ← hf]⟩
section
variable {P : Program} {w : World} {ops : Array Oper} {rest : List Oper} {o : Oper} {a : Act} {Q : Exit → Act → World → Prop}
theorem append_none_run (base : Nat) (t ty e : TypeId) (i : TypeInfo) (size : Nat) (ht : P.underlying t = some (.slice e)) (hi : P.info? e = some i) (v : Value) (n : Nat) (xs : List Value) (hown : w.ownsRow base e size v n xs) (c : Nat) :
    (Builtin.append_ #[t, t] ty #[v, .slice none 0 c]).run P w = .ok v w := by
  rcases hown.2 with ⟨rfl, rfl⟩ | ⟨g, cap, cur, rfl, _, _, hnc, _⟩
  all_goals simp [Builtin.append_, run_underlying ht, sizeOf, typeInfo, hi, Builtin.lenOf, Builtin.firstCells]
  simp [hnc, storeCells]
theorem wpList_append_sl {α : Type} {enc : α → List Value} (hgd : o.guard = none) (s x : Operand) (t : TypeId) (ho : o.op = .call { callee := .builtin .append, args := #[s, x], argTypes := #[t, t] })
    (base : Nat) (e : TypeId) (i : TypeInfo) (z : Value) (size bytes : Nat) (ht : P.underlying t = some (.slice e)) (hi : P.info? e = some i) (hz : i.zero = some z) (hsize : i.size = size) (hby : i.bytes = bytes) (hzs : z.cells.size = size) (hsz : 0 < size)
    (v : Value) (n : Nat) (xs : List Value) (hs : a.eval s = v) (hown : w.ownsRow base e size v n xs) (sl : SL α) (hx : a.eval x = .slice sl.a sl.l.length sl.c) (hsl : sl.At enc size w) (hk : ∀ x, (enc x).length = size) (h1 : ∀ x, ∀ u ∈ enc x, u.oneCell' = true)
    (h63 : n + sl.l.length ≤ maxLen) (hbytes : (n + sl.l.length) * bytes ≤ 140737488355328) (hbase : base ≤ w.heap.size)
    (h : ∀ v' w', w'.ownsRow base e size v' (n + sl.l.length) (xs ++ sl.l.flatMap enc) → w.grownBy w' v.ownBlock → wpList P ops Q rest (a.put o.dst v') w') : wpList P ops Q (o :: rest) a w := by
  obtain ⟨A, c, l⟩ := sl
  simp only at *
  have hnone : l = [] ∨ ∃ b off, A = some ⟨b, off, none⟩ := by
    cases l with
    | nil => exact .inl rfl
    | cons y l =>
      obtain ⟨b, off, ha, _⟩ := hsl.cell 0 y rfl
      exact .inr ⟨b, off, ha⟩
  rcases A with _ | ad
  · obtain rfl : l = [] := by
      rcases hnone with h | ⟨_, _, h⟩
      · exact h
      · cases h
    refine wpList_plain hgd fun K hK => ?_
    have hrun := append_none_run (P := P) (w := w) base t o.type e i size ht hi v n xs hown c
    unfold Oper.wp
    simp [execOp, ho, resolve, invoke, builtin, hs, hx, hrun, Result.andThen]
    exact hK _ _ (h _ _ (by simpa using hown) (World.grownBy.refl w _))
  · refine wpList_append_own w hgd s x t ho base e i z size bytes ht hi hz hsize hby hzs hsz v n xs hs hown ad l.length c (l.flatMap enc) hx (flat_len hk l) (fun j u hj => ?_) (fun u hu => ?_) h63 hbytes hbase (fun v' w' h2 h3 _ => h v' w' h2 h3)
    · obtain ⟨y, hy, hu⟩ := flat_inv hk hsz hj
      obtain ⟨b, off, ha, hb, hc⟩ := hsl.cell _ y hy
      have := hc _ u hu
      injection ha with ha
      subst ha
      have e : (⟨b, off, none⟩ : Addr).add j = ⟨b, off + j / size * size + j % size, none⟩ := by
        have e2 : off + j / size * size + j % size = off + j := by rw [Nat.mul_comm, Nat.add_assoc, Nat.div_add_mod]
        rw [e2]
        unfold Addr.add
        split
        · rename_i h0; simp_all
        · rfl
      rw [e]
      exact this
    · obtain ⟨y, _, hu⟩ := List.mem_flatMap.1 hu
      exact h1 y u hu
end
end Go.Proofs.YtnjjdilmaepokaaGreat
namespace Go.Proofs.YtnjjdilmaepokaaGreat
open Go.RowKit Go.Maps
def flatTo (f : Nat → List Clause) (k : Nat) : List Clause := (List.range k).flatMap f
theorem flatTo_succ (f : Nat → List Clause) (k : Nat) : flatTo f (k + 1) = flatTo f k ++ f k := by simp [flatTo, List.range_succ]
theorem flatTo_len (f : Nat → List Clause) (m : Nat) (h : ∀ i, (f i).length ≤ m) : ∀ k, (flatTo f k).length ≤ m * k
  | 0 => by simp [flatTo]
  | k + 1 => by rw [flatTo_succ, List.length_append, Nat.mul_succ]; have := flatTo_len f m h k; have := h k; omega
def nodeCs (s : Snap) (us : List Vec) (i : Nat) : List Clause := match s.nodes.l[i]?, us[i]? with | some n, some u => ofNode 1 i u n.cap | _, _ => []
def ownerCs (s : Snap) (p : List Int) (which i : Nat) : List Clause := match s.owners.l[i]? with | some o => ofOwner s p which i o | none => []
def capsL (s : Snap) (us : List Vec) : List Clause := flatTo (nodeCs s us) s.nodes.l.length
def podsTo (s : Snap) (p : List Int) (wh : Nat) : List Clause := flatTo (fun j => flatTo (ofPod s p (j + 2)) p.length) (wh - 2)
def ownersTo (s : Snap) (p : List Int) (wh : Nat) : List Clause := flatTo (fun j => flatTo (ownerCs s p (j + 7)) s.owners.l.length) (wh - 7)
def allC (s : Snap) (p : List Int) (us : List Vec) : List Clause := capsL s us ++ podsTo s p 7 ++ ownersTo s p 9
theorem nodeCs_len (s : Snap) (us : List Vec) (i : Nat) : (nodeCs s us i).length ≤ 5 := by
  unfold nodeCs
  split <;> simp [ofNode]
theorem ofPod_len (s : Snap) (p : List Int) (wh i : Nat) : (ofPod s p wh i).length ≤ 1 := by
  unfold ofPod
  split
  · simp
  · split
    · split <;> simp
    · simp
theorem ownerCs_len (s : Snap) (p : List Int) (wh i : Nat) : (ownerCs s p wh i).length ≤ 1 := by
  unfold ownerCs ofOwner
  split
  · split
    · simp
    · split <;> simp
  · simp
theorem podsTo_succ (s : Snap) (p : List Int) {wh : Nat} (h : 2 ≤ wh) : podsTo s p (wh + 1) = podsTo s p wh ++ flatTo (ofPod s p wh) p.length := by
  unfold podsTo
  rw [show wh + 1 - 2 = (wh - 2) + 1 by omega, flatTo_succ]
  congr 2
  rw [show wh - 2 + 2 = wh by omega]
theorem ownersTo_succ (s : Snap) (p : List Int) {wh : Nat} (h : 7 ≤ wh) : ownersTo s p (wh + 1) = ownersTo s p wh ++ flatTo (ownerCs s p wh) s.owners.l.length := by
  unfold ownersTo
  rw [show wh + 1 - 7 = (wh - 7) + 1 by omega, flatTo_succ]
  congr 2
  rw [show wh - 7 + 7 = wh by omega]
/-- A row of the call's own, in a world that may have written the cache. -/
def RowM (s : Snap) (L : List ByteArray) (mb : Nat) (w wr : World) (v : Value) (xs : List Clause) : Prop :=
  ∃ G : Gm w mb (Cache s L mb), wr = gm w mb (Cache s L mb) G ∧ wr.ownsRow w.heap.size 47 4 v xs.length (xs.flatMap Clause.enc)
theorem RowM.call {s : Snap} {L : List ByteArray} {mb : Nat} {w wr W : World} {v : Value} {xs : List Clause} (h : RowM s L mb w wr v xs) (hm : mb < w.heap.size) (g : Gm wr mb (Cache s L mb)) (e : W = gm wr mb (Cache s L mb) g) : RowM s L mb w W v xs := by
  obtain ⟨G, rfl, hO⟩ := h
  obtain ⟨G2, h2⟩ := gm_gm G g
  refine ⟨G2, e.trans h2, ?_⟩
  rw [e]
  refine ⟨hO.1, ?_⟩
  rcases hO.2 with h0 | ⟨b, cap, cur, hv, hb, hh, r⟩
  · exact .inl h0
  · exact .inr ⟨b, cap, cur, hv, hb, (g.block b (Array.getElem?_eq_some_iff.1 hh).1 (by omega)).trans hh, r⟩
theorem RowM.append {s : Snap} {L : List ByteArray} {mb : Nat} {w wr W : World} {v v' : Value} {xs ys : List Clause} (h : RowM s L mb w wr v xs) (hm : mb < w.heap.size) (hg : wr.grownBy W v.ownBlock)
    (hO : W.ownsRow w.heap.size 47 4 v' (xs.length + ys.length) (xs.flatMap Clause.enc ++ ys.flatMap Clause.enc)) : RowM s L mb w W v' (xs ++ ys) := by
  obtain ⟨G, rfl, h0⟩ := h
  have hne : ∀ b, v.ownBlock = some b → w.heap.size ≤ b := own_ge h0
  have hK : Kept (gm w mb (Cache s L mb) G) W := ⟨hg.size, fun b cs hb => hg.block b (Array.getElem?_eq_some_iff.1 hb).1 (fun e => by
    rcases h0.2 with ⟨rfl, _⟩ | ⟨b', cap, cur, rfl, _, hh, _⟩
    · simp [Value.ownBlock] at e
    · simp only [Value.ownBlock, Option.some.injEq] at e
      subst e
      have h1 := Option.some.inj (hb.symm.trans hh)
      injection h1 with _ h2
      exact absurd h2 (by decide))⟩
  have hmb : W.heap[mb]? = (gm w mb (Cache s L mb) G).heap[mb]? := hg.block mb (Nat.lt_of_lt_of_le hm G.size) (fun e => by have := hne mb e.symm; omega)
  refine ⟨⟨W, hg.os.trans G.os, hg.tape.trans G.tape, hg.output.trans G.output, Nat.le_trans G.size hg.size, fun b hb hbm => (hg.block b (Nat.lt_of_lt_of_le hb G.size) (fun e => by have := hne b e.symm; omega)).trans (G.block b hb hbm), G.m0, ?_, Cache.kept G.j hK hmb⟩, rfl, ?_⟩
  · obtain ⟨es, c, hh⟩ := G.m1
    exact ⟨es, c, hmb.trans hh⟩
  · rw [List.length_append, List.flatMap_append]
    exact hO
theorem enc_one (x : Clause) : ∀ u ∈ Clause.enc x, u.oneCell' = true := by
  intro u hu
  simp [Clause.enc] at hu
  rcases hu with rfl | rfl | rfl | rfl <;> rfl
set_option maxRecDepth 100000 in
set_option maxHeartbeats 4000000 in
theorem all_ok (k : Nat) (s : Snap) (p : SL Int) (us : SL Vec) (mb : Nat) (w : World) (hL : Looks w k s p us mb (topos s)) (hul : us.l.length = s.nodes.l.length) :
    Calls Tryz.prog 36 #[.pointer (some ⟨k, 0, none⟩)] w (GivesSLM mb (Cache s (topos s) mb) Clause.enc 4 (allC s p.l us.l) w) := by
  have h := hL.at_
  have hz := place_facts hL.z
  have hfacts := snap_facts hz.1
  have hpl : p.l.length ≤ 24 := by rw [hz.2.1]; exact hfacts.2.1
  have hol := hfacts.2.2
  have hnl := hfacts.1
  have hm := map_lt hL.c.map
  have ik := h.lt
  have k0 := h.c0
  have k1 := h.c1
  have k2 := h.c2
  have k3 := h.c3
  have HN := hide (fun (G : Gm w mb (Cache s (topos s) mb)) (i : Nat) (n : Node) (u : Vec) (hn : s.nodes.l[i]? = some n) (hu : us.l[i]? = some u) =>
    (ofNode_ok k s p us mb _ (hL.gm G).at_ 1 i n hn u hu).mono fun _ _ hh => GivesSLM.of_gives (Cache.stays _ _ _) G.m1 G.j hh)
  have HP := hide (fun (G : Gm w mb (Cache s (topos s) mb)) (i : Nat) (x : Int) (hx : p.l[i]? = some x) (wh : Nat) hw => ofPod_ok k s p us mb _ (hL.gm G) i x hx wh hw)
  have HO := hide (fun (G : Gm w mb (Cache s (topos s) mb)) (i : Nat) (o : Owner) (ho : s.owners.l[i]? = some o) => (ofMin_ok k s p us mb _ (hL.gm G).at_ i o ho).mono fun _ _ hh => GivesSLM.of_gives (Cache.stays _ _ _) G.m1 G.j hh)
  have HS := hide (fun (G : Gm w mb (Cache s (topos s) mb)) (i : Nat) (o : Owner) (ho : s.owners.l[i]? = some o) (which : Int) hw => (ofSpread_ok k s p us mb _ (hL.gm G).at_ i o ho which hw).mono fun _ _ hh => GivesSLM.of_gives (Cache.stays _ _ _) G.m1 G.j hh)
  have H0 := hide (gm_self hL.c.map hL.c)
  obtain ⟨i0, hi, hz0, hz1, hz2⟩ := info_parts info_clause
  have Hi := hide hi
  have Hz0 := hide hz0
  have Hz1 := hide hz1
  have Hz2 := hide hz2
  have Hul := hide hul
  clear hi hz0 hz1 hz2 hL h hz hfacts hul
  have hA : (capsL s us.l).length ≤ 40 := Nat.le_trans (flatTo_len _ 5 (nodeCs_len s us.l) _) (by omega)
  have hB : ∀ wh, wh ≤ 7 → (podsTo s p.l wh).length ≤ 120 := fun wh hw => by
    have h1 := flatTo_len (fun j => flatTo (ofPod s p.l (j + 2)) p.l.length) 24 (fun j => by have := flatTo_len (ofPod s p.l (j + 2)) 1 (ofPod_len s p.l _) p.l.length; omega) (wh - 2)
    unfold podsTo
    omega
  have hC : ∀ wh, wh ≤ 9 → (ownersTo s p.l wh).length ≤ 16 := fun wh hw => by
    have h1 := flatTo_len (fun j => flatTo (ownerCs s p.l (j + 7)) s.owners.l.length) 8 (fun j => by have := flatTo_len (ownerCs s p.l (j + 7)) 1 (ownerCs_len s p.l _) s.owners.l.length; omega) (wh - 7)
    unfold ownersTo
    omega
  have HB := hide hB
  have HC := hide hC
  clear hB hC
  go_enter Tryz.func36, Tryz.ntmps36
  go_wp2_with fail
  go_loopg [2, 14] s.nodes.l.length (fun gg s2 s14 wr => ∃ kk : Nat, kk ≤ s.nodes.l.length ∧ s.nodes.l.length - kk ≤ gg ∧ s14 = .int .i64 kk ∧ Hid (RowM s (topos s) mb w wr s2 (flatTo (nodeCs s us.l) kk)))
  case atStart =>
    obtain ⟨G0, e0⟩ := H0.out
    exact ⟨0, Nat.zero_le _, by omega, rfl, G0, e0, World.ownsRow_nil _ _ _ _⟩
  case round =>
    obtain ⟨kk, hkk, hg, rfl, HR⟩ := hrel
    by_cases hlt : kk < s.nodes.l.length
    · obtain ⟨G, rfl, hown⟩ := HR.out
      have hn : s.nodes.l[kk]? = some s.nodes.l[kk] := List.getElem?_eq_getElem hlt
      have hu : us.l[kk]? = some (us.l[kk]'(by rw [Hul.out]; exact hlt)) := List.getElem?_eq_getElem _
      have hcs : nodeCs s us.l kk = ofNode 1 kk (us.l[kk]'(by rw [Hul.out]; exact hlt)) s.nodes.l[kk].cap := by
        unfold nodeCs
        rw [hn, hu]
      have HX := hide (HN.out G kk _ _ hn hu)
      rw [← hcs] at HX
      have hlen := nodeCs_len s us.l kk
      have hlen2 := flatTo_len _ 5 (nodeCs_len s us.l) kk
      have Hs := hide (flatTo_succ (nodeCs s us.l) kk)
      have HOwn := hide hown
      clear hn hu hcs hown
      generalize nodeCs s us.l kk = ys at *
      generalize flatTo (nodeCs s us.l) kk = xs at *
      go_wp2_with fail
      refine HX.out.mono ?_
      rintro e W ⟨sl, hsl, rfl, hat, g, hW⟩
      have hR2 := HR.out.call hm g hW
      subst hsl
      obtain ⟨G2, hW2, hown2⟩ := hR2
      have hsz : w.heap.size ≤ W.heap.size := by rw [hW2]; exact G2.size
      have HR2 : Hid (RowM s (topos s) mb w W _ xs) := ⟨G2, hW2, hown2⟩
      have HW2 := hide hW2
      have Hown2 := hide hown2
      clear hW hW2 hown2 HOwn HR HX
      simp only [SL.val]
      go_wp2_with (at_builtin; refine wpList_append_sl (enc := Clause.enc) rfl _ _ 48 rfl w.heap.size 47 i0 _ 4 32 Tryz.underlying48 Hi.out Hz0.out Hz1.out Hz2.out rfl (by decide) _ _ _ rfl Hown2.out sl rfl hat (fun _ => rfl) enc_one (by simp only [maxLen]; omega) (by omega) hsz ?_; intro v' w2 hown' hgrow)
      go_roundg (s.nodes.l.length - (kk + 1))
      case measure => omega
      case rel => exact ⟨kk + 1, by omega, by omega, by go_num, by rw [Hs.out]; exact HR2.out.append hm hgrow hown'⟩
    · obtain rfl : kk = s.nodes.l.length := by omega
      go_wp2_with fail
      go_loopg [2, 4] 5 (fun gg s2 s4 wr => ∃ wh : Nat, 2 ≤ wh ∧ wh ≤ 7 ∧ 7 - wh ≤ gg ∧ s4 = .int .i64 wh ∧ Hid (RowM s (topos s) mb w wr s2 (capsL s us.l ++ podsTo s p.l wh)))
      case atStart => exact ⟨2, by omega, by omega, by omega, rfl, by rw [show podsTo s p.l 2 = [] from rfl, List.append_nil]; exact HR.out⟩
      case round =>
        clear HR hkk hg hlt
        obtain ⟨wh, hwh, hwh7, hg, rfl, HRo⟩ := hrel
        obtain ⟨G, rfl, hown⟩ := HRo.out
        clear hown
        by_cases hw6 : wh ≤ 6
        · have hwb : decide ((wh : Int) ≤ 6) = true := decide_eq_true (by omega)
          go_wp2_with fail
          go_loopg [2, 33] p.l.length (fun gg s2 s33 wr => ∃ kk : Nat, kk ≤ p.l.length ∧ p.l.length - kk ≤ gg ∧ s33 = .int .i64 kk ∧ Hid (RowM s (topos s) mb w wr s2 (capsL s us.l ++ podsTo s p.l wh ++ flatTo (ofPod s p.l wh) kk)))
          case atStart => exact ⟨0, Nat.zero_le _, by omega, rfl, by rw [show flatTo (ofPod s p.l wh) 0 = [] from rfl, List.append_nil]; exact HRo.out⟩
          case round =>
            obtain ⟨kk, hkk, hg', rfl, HR⟩ := hrel
            by_cases hlt : kk < p.l.length
            · obtain ⟨G, rfl, hown⟩ := HR.out
              have hx : p.l[kk]? = some p.l[kk] := List.getElem?_eq_getElem hlt
              have HX := hide (HP.out G kk _ hx wh ⟨hwh, hw6⟩)
              have hlen := ofPod_len s p.l wh kk
              have hlen2 := flatTo_len _ 1 (ofPod_len s p.l wh) kk
              have hlen3 := HB.out wh (by omega)
              have hlen4 : (capsL s us.l ++ podsTo s p.l wh ++ flatTo (ofPod s p.l wh) kk).length ≤ 300 := by rw [List.length_append, List.length_append]; omega
              have Hs := hide (show capsL s us.l ++ podsTo s p.l wh ++ flatTo (ofPod s p.l wh) (kk + 1) = capsL s us.l ++ podsTo s p.l wh ++ flatTo (ofPod s p.l wh) kk ++ ofPod s p.l wh kk by simp only [flatTo_succ, List.append_assoc])
              clear hx hown hlen2 hlen3
              generalize ofPod s p.l wh kk = ys at *
              generalize capsL s us.l ++ podsTo s p.l wh ++ flatTo (ofPod s p.l wh) kk = xs at *
              go_wp2_with fail
              refine HX.out.mono ?_
              rintro e W ⟨sl, hsl, rfl, hat, g, hW⟩
              have hR2 := HR.out.call hm g hW
              subst hsl
              obtain ⟨G2, hW2, hown2⟩ := hR2
              have hsz : w.heap.size ≤ W.heap.size := by rw [hW2]; exact G2.size
              have HR2 : Hid (RowM s (topos s) mb w W _ xs) := ⟨G2, hW2, hown2⟩
              have HW2 := hide hW2
              have Hown2 := hide hown2
              clear hW hW2 hown2 HR HX
              simp only [SL.val]
              go_wp2_with (at_builtin; refine wpList_append_sl (enc := Clause.enc) rfl _ _ 48 rfl w.heap.size 47 i0 _ 4 32 Tryz.underlying48 Hi.out Hz0.out Hz1.out Hz2.out rfl (by decide) _ _ _ rfl Hown2.out sl rfl hat (fun _ => rfl) enc_one (by simp only [maxLen]; omega) (by omega) hsz ?_; intro v' w2 hown' hgrow)
              go_roundg (p.l.length - (kk + 1))
              case measure => omega
              case rel => exact ⟨kk + 1, by omega, by omega, by go_num, by rw [Hs.out]; exact HR2.out.append hm hgrow hown'⟩
            · obtain rfl : kk = p.l.length := by omega
              have Hs := hide (podsTo_succ s p.l hwh)
              have HR' := hide HR.out
              rw [List.append_assoc, ← Hs.out] at HR'
              clear HR hlt
              go_wp2_with fail
              go_roundg (7 - (wh + 1))
              case measure => omega
              case rel => exact ⟨wh + 1, by omega, by omega, by omega, by go_num, HR'⟩
        · obtain rfl : wh = 7 := by omega
          go_wp2_with fail
          go_loopg [2, 6] 2 (fun gg s2 s6 wr => ∃ wh : Nat, 7 ≤ wh ∧ wh ≤ 9 ∧ 9 - wh ≤ gg ∧ s6 = .int .i64 wh ∧ Hid (RowM s (topos s) mb w wr s2 (capsL s us.l ++ podsTo s p.l 7 ++ ownersTo s p.l wh)))
          case atStart => exact ⟨7, by omega, by omega, by omega, rfl, by rw [show ownersTo s p.l 7 = [] from rfl, List.append_nil]; exact HRo.out⟩
          case round =>
            clear HRo hg hwh hwh7 hw6
            obtain ⟨wh, hwh, hwh9, hg, rfl, HRo⟩ := hrel
            obtain ⟨G, rfl, hown⟩ := HRo.out
            clear hown
            by_cases hw8 : wh ≤ 8
            · have hwb : decide ((wh : Int) ≤ 8) = true := decide_eq_true (by omega)
              go_wp2_with fail
              go_loopg [2, 54] s.owners.l.length (fun gg s2 s54 wr => ∃ kk : Nat, kk ≤ s.owners.l.length ∧ s.owners.l.length - kk ≤ gg ∧ s54 = .int .i64 kk ∧ Hid (RowM s (topos s) mb w wr s2 (capsL s us.l ++ podsTo s p.l 7 ++ ownersTo s p.l wh ++ flatTo (ownerCs s p.l wh) kk)))
              case atStart => exact ⟨0, Nat.zero_le _, by omega, rfl, by rw [show flatTo (ownerCs s p.l wh) 0 = [] from rfl, List.append_nil]; exact HRo.out⟩
              case round =>
                obtain ⟨kk, hkk, hg', rfl, HR⟩ := hrel
                by_cases hlt : kk < s.owners.l.length
                · obtain ⟨G, rfl, hown⟩ := HR.out
                  have hx : s.owners.l[kk]? = some s.owners.l[kk] := List.getElem?_eq_getElem hlt
                  have hcs : Calls Tryz.prog 51 #[.pointer (some ⟨k, 0, none⟩), .iface 108 (.int .i64 (kk : Int)), .int .i64 (wh : Int)] (gm w mb (Cache s (topos s) mb) G) (GivesSLM mb (Cache s (topos s) mb) Clause.enc 4 (ownerCs s p.l wh kk) (gm w mb (Cache s (topos s) mb) G)) := by
                    unfold ownerCs ofOwner
                    rw [hx]
                    simp only
                    obtain rfl | rfl : wh = 7 ∨ wh = 8 := by omega
                    · rw [if_neg (by omega)]
                      exact HS.out G kk _ hx 7 (by omega)
                    · rw [if_pos (by omega)]
                      exact HO.out G kk _ hx
                  have HX := hide hcs
                  have hlen := ownerCs_len s p.l wh kk
                  have hlen2 := flatTo_len _ 1 (ownerCs_len s p.l wh) kk
                  have hlen3 := HB.out 7 (by omega)
                  have hlen5 := HC.out wh (by omega)
                  have hlen4 : (capsL s us.l ++ podsTo s p.l 7 ++ ownersTo s p.l wh ++ flatTo (ownerCs s p.l wh) kk).length ≤ 300 := by rw [List.length_append, List.length_append, List.length_append]; omega
                  have Hs := hide (show capsL s us.l ++ podsTo s p.l 7 ++ ownersTo s p.l wh ++ flatTo (ownerCs s p.l wh) (kk + 1) = capsL s us.l ++ podsTo s p.l 7 ++ ownersTo s p.l wh ++ flatTo (ownerCs s p.l wh) kk ++ ownerCs s p.l wh kk by simp only [flatTo_succ, List.append_assoc])
                  clear hx hown hlen2 hlen3 hlen5 hcs
                  generalize ownerCs s p.l wh kk = ys at *
                  generalize capsL s us.l ++ podsTo s p.l 7 ++ ownersTo s p.l wh ++ flatTo (ownerCs s p.l wh) kk = xs at *
                  go_wp2_with fail
                  refine HX.out.mono ?_
                  rintro e W ⟨sl, hsl, rfl, hat, g, hW⟩
                  have hR2 := HR.out.call hm g hW
                  subst hsl
                  obtain ⟨G2, hW2, hown2⟩ := hR2
                  have hsz : w.heap.size ≤ W.heap.size := by rw [hW2]; exact G2.size
                  have HR2 : Hid (RowM s (topos s) mb w W _ xs) := ⟨G2, hW2, hown2⟩
                  have HW2 := hide hW2
                  have Hown2 := hide hown2
                  clear hW hW2 hown2 HR HX
                  simp only [SL.val]
                  go_wp2_with (at_builtin; refine wpList_append_sl (enc := Clause.enc) rfl _ _ 48 rfl w.heap.size 47 i0 _ 4 32 Tryz.underlying48 Hi.out Hz0.out Hz1.out Hz2.out rfl (by decide) _ _ _ rfl Hown2.out sl rfl hat (fun _ => rfl) enc_one (by simp only [maxLen]; omega) (by omega) hsz ?_; intro v' w2 hown' hgrow)
                  go_roundg (s.owners.l.length - (kk + 1))
                  case measure => omega
                  case rel => exact ⟨kk + 1, by omega, by omega, by go_num, by rw [Hs.out]; exact HR2.out.append hm hgrow hown'⟩
                · obtain rfl : kk = s.owners.l.length := by omega
                  have Hs := hide (ownersTo_succ s p.l hwh)
                  have HR' := hide HR.out
                  rw [List.append_assoc, ← Hs.out] at HR'
                  clear HR hlt
                  go_wp2_with fail
                  go_roundg (9 - (wh + 1))
                  case measure => omega
                  case rel => exact ⟨wh + 1, by omega, by omega, by omega, by go_num, HR'⟩
            · obtain rfl : wh = 9 := by omega
              go_wp2_with fail
              go_ret
              obtain ⟨G2, hG2, hown⟩ := HRo.out
              obtain ⟨sl, h1, h2, h3⟩ := sl_of_row (enc := Clause.enc) (k := 4) (fun _ => rfl) hown (by rw [List.length_append, List.length_append]; have := HB.out 7 (by omega); have := HC.out 9 (by omega); omega)
              exact ⟨sl, h1, congrArg Ending.returned h2, h3, G2, hG2⟩
end Go.Proofs.YtnjjdilmaepokaaGreat
namespace Go.Proofs.YtnjjdilmaepokaaGreat
open Go.RowKit Go.Maps
theorem Cache.empty {s : Snap} {L : List ByteArray} {mb : Nat} {W : World} (h : W.heap[mb]? = some (.map #[] 0)) : Cache s L mb W :=
  ⟨0, .map [], ⟨#[], 0, h, ⟨by simp, MapKept.stamped_empty 0, by simp⟩, Nat.le_refl _, rfl⟩, isMap_empty, Nat.zero_le _, fun k hk => by simp [has] at hk⟩
def usedL (s : Snap) (p : List Int) : List Vec := (List.range s.nodes.l.length).map fun i : Nat => usedV s p (i : Int)
/-- What see hands back of a placement that may be. -/
def Seen (s : Snap) (p : SL Int) (w : World) (e : Ending) (w' : World) : Prop :=
  ∃ k mb, ∃ us : SL Vec, us.l = usedL s p.l ∧ e = .returned (.tuple #[.pointer (some ⟨k, 0, none⟩), .int .i64 0]) ∧ Looks w' k s p us mb (topos s) ∧ w.heap.size ≤ mb ∧ Below w.heap.size w w'
theorem used_snoc (s : Snap) (p : List Int) (k : Nat) : ((List.range (k + 1)).map fun i : Nat => usedV s p (i : Int)) = ((List.range k).map fun i : Nat => usedV s p (i : Int)) ++ [usedV s p (k : Int)] := by simp [List.range_succ]
theorem step_want {P : Program} {ops : Array Oper} {o : Oper} {a : Act} {w : World} {K : Act → World → Prop} {Q : Exit → Act → World → Prop} {E : Prop} (hg : o.guard = none) (h : Oper.wp P o a w K Q) :
    if Region.wanted o (yielded ops a.tmps) = true then Oper.wp P o a w K Q else E := by
  rw [if_pos (by simp [Region.wanted, hg])]
  exact h
set_option maxRecDepth 100000 in
set_option maxHeartbeats 4000000 in
theorem see_ok (s : Snap) (p : SL Int) (w : World) (hs : s.At w) (hp : Ints w p) (h0 : placeCheck s p.l = 0) : Calls Tryz.prog 35 #[s.val, p.val] w (Seen s p w) := by
  have HK := hide (fun W hW => placeCheck_ok s p W (hs.below hW) (hp.below hW))
  have hmm := @run_makeMap Tryz.prog
  · have HU := hide (fun (i : Nat) W hW => used_ok s p (i : Int) W (hs.below hW) (hp.below hW))
    have hsz := snap_facts (place_facts h0).1
    have hn8 := hsz.1
    rw [h0] at HK
    have Hz := hide h0
    have Hs := hide hs
    have Hp := hide hp
    clear h0 hs hp hsz
    obtain ⟨i0, hi, hz0, hz1, hz2⟩ := info_parts info_vec
    have Hi := hide hi
    have Hz0 := hide hz0
    have Hz1 := hide hz1
    have Hz2 := hide hz2
    clear hi hz0 hz1 hz2
    simp only [Snap.val, SL.val] at HK HU ⊢
    go_enter Tryz.func35, Tryz.ntmps35
    go_wp2_with fail
    refine (calls_gr (HK.out _ (by repeat' (first | exact Below.refl _ _ | assumption | refine b_gr ?_ _ | refine b_alloc ?_ _ | refine b_drew ?_)))).mono ?_
    rintro e w1 ⟨rfl, g, rfl⟩
    have hb := (Blk.new w 26 #[.slice s.nodes.a s.nodes.l.length s.nodes.c, .slice s.pods.a s.pods.l.length s.pods.c, .slice s.owners.a s.owners.l.length s.owners.c]).gr g
    have hB1 : Below w.heap.size w (gr (w.alloc (.cells #[.slice s.nodes.a s.nodes.l.length s.nodes.c, .slice s.pods.a s.pods.l.length s.pods.c, .slice s.owners.a s.owners.l.length s.owners.c] 26)) g) := (by repeat' (first | exact Below.refl _ _ | assumption | refine b_gr ?_ _ | refine b_alloc ?_ _ | refine b_drew ?_))
    generalize gr (w.alloc (.cells #[.slice s.nodes.a s.nodes.l.length s.nodes.c, .slice s.pods.a s.pods.l.length s.pods.c, .slice s.owners.a s.owners.l.length s.owners.c] 26)) g = W1 at hb hB1 ⊢
    have b0 := hb.cell 0
    have b1 := hb.cell 1
    have b2 := hb.cell 2
    have bl := hb.ltb
    simp at b0 b1 b2
    have HB := hide hb
    have HB1 := hide hB1
    clear hb hB1 HK g
    go_wp2_with fail
    have hB1 := HB1.out
    have hsz1 := hB1.size
    have HI : Hid (∃ u, Below w.heap.size w ((W1.alloc (.map #[] 0)).alloc (.cells #[.slice s.nodes.a s.nodes.l.length s.nodes.c, .slice s.pods.a s.pods.l.length s.pods.c, .slice s.owners.a s.owners.l.length s.owners.c, .slice p.a p.l.length p.c, .slice none 0 0, .map (some W1.heap.size)] 103)) ∧ W1.heap.size + 2 ≤ ((W1.alloc (.map #[] 0)).alloc (.cells #[.slice s.nodes.a s.nodes.l.length s.nodes.c, .slice s.pods.a s.pods.l.length s.pods.c, .slice s.owners.a s.owners.l.length s.owners.c, .slice p.a p.l.length p.c, .slice none 0 0, .map (some W1.heap.size)] 103)).heap.size ∧ Blk ((W1.alloc (.map #[] 0)).alloc (.cells #[.slice s.nodes.a s.nodes.l.length s.nodes.c, .slice s.pods.a s.pods.l.length s.pods.c, .slice s.owners.a s.owners.l.length s.owners.c, .slice p.a p.l.length p.c, .slice none 0 0, .map (some W1.heap.size)] 103)) w.heap.size 26 #[.slice s.nodes.a s.nodes.l.length s.nodes.c, .slice s.pods.a s.pods.l.length s.pods.c, .slice s.owners.a s.owners.l.length s.owners.c] ∧
        ((W1.alloc (.map #[] 0)).alloc (.cells #[.slice s.nodes.a s.nodes.l.length s.nodes.c, .slice s.pods.a s.pods.l.length s.pods.c, .slice s.owners.a s.owners.l.length s.owners.c, .slice p.a p.l.length p.c, .slice none 0 0, .map (some W1.heap.size)] 103)).heap[W1.heap.size]? = some (.map #[] 0) ∧ Blk ((W1.alloc (.map #[] 0)).alloc (.cells #[.slice s.nodes.a s.nodes.l.length s.nodes.c, .slice s.pods.a s.pods.l.length s.pods.c, .slice s.owners.a s.owners.l.length s.owners.c, .slice p.a p.l.length p.c, .slice none 0 0, .map (some W1.heap.size)] 103)) (W1.heap.size + 1) 103 #[.slice s.nodes.a s.nodes.l.length s.nodes.c, .slice s.pods.a s.pods.l.length s.pods.c, .slice s.owners.a s.owners.l.length s.owners.c, .slice p.a p.l.length p.c, u, .map (some W1.heap.size)] ∧
        ((W1.alloc (.map #[] 0)).alloc (.cells #[.slice s.nodes.a s.nodes.l.length s.nodes.c, .slice s.pods.a s.pods.l.length s.pods.c, .slice s.owners.a s.owners.l.length s.owners.c, .slice p.a p.l.length p.c, .slice none 0 0, .map (some W1.heap.size)] 103)).ownsRow (W1.heap.size + 2) 32 5 u 0 (((List.range 0).map fun i : Nat => usedV s p.l (i : Int)).flatMap Vec.enc)) :=
      ⟨.slice none 0 0, b_alloc (b_alloc hB1 _) _, by simp, (HB.out.alloc _).alloc _, (Below.heap_alloc _ _ _ (by simp)).trans (heap_alloc_new W1 _), Blk.at_ _ _ _ _ (by simp), World.ownsRow_nil _ _ _ _⟩
    clear HB hB1 HB1 b0 b1 b2 bl
    generalize hc : W1.heap.size = c at *
    have Hc := hide hc
    clear hc
    go_loopg [23] s.nodes.l.length (fun gg s23 wr => ∃ kk : Nat, kk ≤ s.nodes.l.length ∧ s.nodes.l.length - kk ≤ gg ∧ s23 = .int .i64 kk ∧ Hid (∃ u, Below w.heap.size w wr ∧ c + 2 ≤ wr.heap.size ∧ Blk wr w.heap.size 26 #[.slice s.nodes.a s.nodes.l.length s.nodes.c, .slice s.pods.a s.pods.l.length s.pods.c, .slice s.owners.a s.owners.l.length s.owners.c] ∧ wr.heap[c]? = some (.map #[] 0) ∧
      Blk wr (c + 1) 103 #[.slice s.nodes.a s.nodes.l.length s.nodes.c, .slice s.pods.a s.pods.l.length s.pods.c, .slice s.owners.a s.owners.l.length s.owners.c, .slice p.a p.l.length p.c, u, .map (some c)] ∧ wr.ownsRow (c + 2) 32 5 u kk (((List.range kk).map fun i : Nat => usedV s p.l (i : Int)).flatMap Vec.enc)))
    case atStart => exact ⟨0, Nat.zero_le _, by omega, rfl, HI.out⟩
    case round =>
      clear HI
      obtain ⟨kk, hkk, hg, rfl, ⟨u, hB, hcs, hb, hmap, hlook, hown⟩⟩ := hrel
      have b0 := hb.cell 0
      have b1 := hb.cell 1
      have b2 := hb.cell 2
      have l4 := hlook.cell 4
      have f4 := hlook.frozen 4
      have ib := hb.ltb
      have il := hlook.ltb
      simp at b0 b1 b2 l4
      by_cases hlt : kk < s.nodes.l.length
      · have HV := hide (fun W hW => HU.out kk W hW)
        have Hsn := hide (used_snoc s p.l kk)
        have hne : ∀ b, u.ownBlock = some b → c + 2 ≤ b := own_ge hown
        have Hne := hide hne
        have HBw := hide hB
        have Hb := hide hb
        have Hmap := hide hmap
        have Hlook := hide hlook
        have Hown := hide hown
        clear hne hB hb hmap hlook hown
        generalize usedV s p.l (kk : Int) = uv at *
        simp only [Vec.val] at HV
        go_wp2_with fail
        have hwc : w.heap.size < c + 2 := by omega
        go_region_law
          (first
            | (refine step_want rfl ?_; go_simp; go_at_call 50; refine (calls_gr (HV.out _ (by repeat' (first | exact Below.refl _ _ | assumption | refine b_gr ?_ _ | refine b_alloc ?_ _ | refine b_drew ?_)))).mono ?_; rintro e w1 ⟨rfl, g1, rfl⟩)
            | (refine step_append_lies _ (by rfl) _ _ _ (by rfl) (c + 2) 32 i0 _ 5 40 Tryz.underlying101 Hi.out Hz0.out Hz1.out Hz2.out rfl (by omega) u kk _ (by rfl) (own_below (own_gr (own_drew Hown.out) g1) (b_alloc (Below.refl _ _) _)) _ 1 1 (Vec.enc uv) (by rfl) (by rfl) (cells_new _ _ _) (by simp [Value.oneCell']) (by omega) (by simp only [maxLen]; omega) (by omega) (Nat.le_trans hcs (Nat.le_trans (show wr.heap.size ≤ (gr wr.drew g1).heap.size from size_gr g1) (by simp))) ((gr wr.drew g1).heap.size + 1) (by simp) ?_; intro gg cap w3 hown' hgrow hat hglt; have hk : ∀ b o, b < c + 2 → w3.cell? ⟨b, o, none⟩ = _ := fun b o hb => World.cell?_of_block (a := ⟨b, o, none⟩) (hgrow.block b (Nat.lt_of_lt_of_le hb (Nat.le_trans hcs (Nat.le_trans (show wr.heap.size ≤ (gr wr.drew g1).heap.size from size_gr g1) (by simp)))) (fun e => by have := Hne.out b e.symm; omega)); have hfz : w3.frozen? ⟨c + 1, 4, none⟩ = false := (World.frozen?_of_block (a := ⟨c + 1, 4, none⟩) (hgrow.block (c + 1) (Nat.lt_of_lt_of_le (Nat.lt_succ_self _) (Nat.le_trans hcs (Nat.le_trans (show wr.heap.size ≤ (gr wr.drew g1).heap.size from size_gr g1) (by simp)))) (fun e => by have := Hne.out _ e.symm; omega))).trans (((Hlook.out.drew.gr g1).alloc _).frozen 4)))
        all_goals
          go_wp2_with fail
          go_roundg (s.nodes.l.length - (kk + 1))
          case measure => omega
          case rel =>
            have hsz3 : wr.heap.size ≤ ((gr wr.drew g1).alloc (.cells #[.int .i64 uv.a, .int .i64 uv.b, .int .i64 uv.c, .int .i64 uv.d, .int .i64 uv.e] 32)).heap.size := Nat.le_trans (show wr.heap.size ≤ (gr wr.drew g1).heap.size from size_gr g1) (by simp)
            have hn : ∀ b, b < c + 2 → ∀ k, u.ownBlock = some k → b ≠ k := fun b hb k hk => by have := Hne.out k hk; omega
            have h1 : Below w.heap.size w w3 := grown_below (b_alloc (b_gr (b_drew HBw.out) g1) _) hgrow (fun k hk => by have := Hne.out k hk; omega)
            have h3 := ((((Hb.out.drew).gr g1).alloc (.cells #[.int .i64 uv.a, .int .i64 uv.b, .int .i64 uv.c, .int .i64 uv.d, .int .i64 uv.e] 32)).kept hgrow (hn _ hwc)).far (p := ⟨c + 1, 4, none⟩) (by simp only; omega) (.slice (some ⟨gg, 0, none⟩) (kk + 1) cap)
            have h5 := ((((Hlook.out.drew).gr g1).alloc (.cells #[.int .i64 uv.a, .int .i64 uv.b, .int .i64 uv.c, .int .i64 uv.d, .int .i64 uv.e] 32)).kept hgrow (hn _ (by omega))).set_ 4 (.slice (some ⟨gg, 0, none⟩) (kk + 1) cap)
            have hcl : c < wr.heap.size := by omega
            have h4 : (w3.setCell ⟨c + 1, 4, none⟩ (.slice (some ⟨gg, 0, none⟩) (kk + 1) cap)).heap[c]? = some (.map #[] 0) :=
              (Below.heap_setCell w3 ⟨c + 1, 4, none⟩ _ c (by simp)).trans ((hgrow.block c (Nat.lt_of_lt_of_le hcl hsz3) (fun e => hn c (by omega) c e.symm rfl)).trans
                ((Below.heap_alloc (gr wr.drew g1) _ c (Nat.lt_of_lt_of_le hcl (show wr.heap.size ≤ (gr wr.drew g1).heap.size from size_gr g1))).trans ((heap_gr g1 c hcl).trans Hmap.out)))
            exact ⟨kk + 1, by omega, by omega, by go_num, .slice (some ⟨gg, 0, none⟩) (kk + 1) cap, b_set h1 (by simp only; omega) _, by rw [show (w3.setCell ⟨c + 1, 4, none⟩ (.slice (some ⟨gg, 0, none⟩) (kk + 1) cap)).heap.size = w3.heap.size by simp [World.setCell]]; exact Nat.le_trans hcs (Nat.le_trans hsz3 hgrow.size), h3, h4, by simpa using h5, by rw [Hsn.out, flat_snoc]; exact own_set hown' (by simp) _⟩
      · obtain rfl : kk = s.nodes.l.length := by omega
        obtain ⟨us, h1, rfl, h3⟩ := sl_of_row (enc := Vec.enc) (k := 5) (xs := (List.range s.nodes.l.length).map fun i : Nat => usedV s p.l (i : Int)) (fun _ => rfl) (by rw [List.length_map, List.length_range]; exact hown) (by rw [List.length_map, List.length_range]; omega)
        have l0 := hlook.cell 0
        have l1 := hlook.cell 1
        have l2 := hlook.cell 2
        have l3 := hlook.cell 3
        have l5 := hlook.cell 5
        simp [SL.val] at l0 l1 l2 l3 l4 l5
        have HH := hide (show Seen s p w (.returned (.tuple #[.pointer (some ⟨c + 1, 0, none⟩), .int .i64 0])) wr from
          ⟨c + 1, c, us, h1, rfl, ⟨⟨il, l0, l1, l2, l3, l4, l5, Hs.out.below hB, Hp.out.below hB, h3⟩, Hz.out, topos_few (place_facts Hz.out).1, Cache.empty hmap⟩, hsz1, hB⟩)
        clear l0 l1 l2 l3 l4 l5 h1 h3 hown hlook hmap hb b0 b1 b2
        go_wp2_with fail
        go_ret2
        exact HH.out
set_option maxHeartbeats 400000 in
theorem see_bad (s : Snap) (p : SL Int) (w : World) (hs : s.At w) (hp : Ints w p) (h0 : ¬ placeCheck s p.l = 0) : Calls Tryz.prog 35 #[s.val, p.val] w (Gives (.tuple #[.pointer none, .int .i64 (placeCheck s p.l)]) w) := by
  have HK := hide (fun W hW => placeCheck_ok s p W (hs.below hW) (hp.below hW))
  · have hb : (placeCheck s p.l != 0) = true := by simpa using h0
    clear h0 hs hp
    generalize placeCheck s p.l = e0 at *
    simp only [Snap.val, SL.val] at *
    go_enter Tryz.func35, Tryz.ntmps35
    go_wp2_with fail
    refine (calls_gr (HK.out _ (by repeat' (first | exact Below.refl _ _ | assumption | refine b_gr ?_ _ | refine b_alloc ?_ _ | refine b_drew ?_)))).mono ?_
    rintro e w1 ⟨rfl, g, rfl⟩
    go_wp2_with fail
    go_ret2
    exact ⟨rfl, (by repeat' (first | exact Below.refl _ _ | assumption | refine b_gr ?_ _ | refine b_alloc ?_ _ | refine b_drew ?_))⟩
end Go.Proofs.YtnjjdilmaepokaaGreat
namespace Go.Proofs.YtnjjdilmaepokaaGreat
open Go.RowKit Go.Maps
def clauseAll (s : Snap) (p : List Int) : List Clause := if placeCheck s p = 0 then allC s p (usedL s p) else []
def GivesCs (xs : List Clause) (e0 : Int) (w : World) (e : Ending) (w' : World) : Prop := ∃ r : SL Clause, r.l = xs ∧ e = .returned (.tuple #[r.val, .int .i64 e0]) ∧ r.At Clause.enc 4 w' ∧ Below w.heap.size w w'
theorem allC_len {s : Snap} {p : List Int} (h : placeCheck s p = 0) (us : List Vec) : (allC s p us).length ≤ 300 := by
  have hz := place_facts h
  have hf := snap_facts hz.1
  have hp : p.length ≤ 24 := by rw [hz.2.1]; exact hf.2.1
  have h1 := flatTo_len _ 5 (nodeCs_len s us) s.nodes.l.length
  have h2 := flatTo_len (fun j => flatTo (ofPod s p (j + 2)) p.length) 24 (fun j => by have := flatTo_len (ofPod s p (j + 2)) 1 (ofPod_len s p _) p.length; omega) (7 - 2)
  have h3 := flatTo_len (fun j => flatTo (ownerCs s p (j + 7)) s.owners.l.length) 8 (fun j => by have := flatTo_len (ownerCs s p (j + 7)) 1 (ownerCs_len s p _) s.owners.l.length; omega) (9 - 7)
  unfold allC capsL podsTo ownersTo
  rw [List.length_append, List.length_append]
  omega
theorem clauseAll_len (s : Snap) (p : List Int) : (clauseAll s p).length ≤ 300 := by
  unfold clauseAll
  split
  · rename_i h; exact allC_len h _
  · simp
set_option maxHeartbeats 400000 in
theorem clauseAll_ok (s : Snap) (p : SL Int) (w : World) (hs : s.At w) (hp : Ints w p) : Calls Tryz.prog 11 #[s.val, p.val] w (GivesCs (clauseAll s p.l) (placeCheck s p.l) w) := by
  unfold clauseAll
  by_cases h0 : placeCheck s p.l = 0
  · rw [if_pos h0]
    have HS := hide (fun W hW => see_ok s p W (hs.below hW) (hp.below hW) h0)
    rw [h0]
    clear hs hp
    simp only [Snap.val, SL.val] at HS ⊢
    go_enter Tryz.func11, Tryz.ntmps11
    go_wp2_with fail
    refine (HS.out _ (by repeat' (first | exact Below.refl _ _ | assumption | refine b_gr ?_ _ | refine b_alloc ?_ _ | refine b_drew ?_))).mono ?_
    rintro e W ⟨k, mb, us, hus, rfl, hL, hmb, hB⟩
    have hB1 : Below w.heap.size w W := b_then (by repeat' (first | exact Below.refl _ _ | assumption | refine b_gr ?_ _ | refine b_alloc ?_ _ | refine b_drew ?_)) hB
    have hmb' : w.heap.size ≤ mb := by simp at hmb; omega
    have HA := hide (all_ok k s p us mb W hL (by rw [hus]; simp [usedL]))
    rw [hus] at HA
    clear hL hB hmb hus HS
    go_wp2_with fail
    refine HA.out.mono ?_
    rintro e W2 ⟨r, h1, rfl, h3, G, rfl⟩
    have H1 := hide h1
    clear h1
    simp only [SL.val]
    go_wp2_with fail
    go_ret2
    exact ⟨r, H1.out, rfl, h3, hB1.trans (below_gm hmb' hB1.size G)⟩
  · rw [if_neg h0]
    have HS := hide (fun W hW => see_bad s p W (hs.below hW) (hp.below hW) h0)
    have hb : (placeCheck s p.l != 0) = true := by simpa using h0
    clear hs hp h0
    generalize placeCheck s p.l = e0 at *
    simp only [Snap.val, SL.val] at HS ⊢
    go_enter Tryz.func11, Tryz.ntmps11
    go_wp2_with fail
    refine (calls_gr (HS.out _ (by repeat' (first | exact Below.refl _ _ | assumption | refine b_gr ?_ _ | refine b_alloc ?_ _ | refine b_drew ?_)))).mono ?_
    rintro e w1 ⟨rfl, g, rfl⟩
    go_wp2_with fail
    go_ret2
    exact ⟨⟨none, 0, []⟩, rfl, rfl, SL.At.nil _ _ _, (by repeat' (first | exact Below.refl _ _ | assumption | refine b_gr ?_ _ | refine b_alloc ?_ _ | refine b_drew ?_))⟩
def isC (k a b : Int) (c : Clause) : Bool := (c.kind == k) && (c.a == a) && (c.b == b)
def clauseOf (s : Snap) (p : List Int) (k a b : Int) : Int × Bool := match (clauseAll s p).find? (isC k a b) with | some c => (c.amt, true) | none => (0, false)
theorem of1_ok (c : Clause) (k a b : Int) (bk ba bb : Nat) (w : World) (ik : LtB bk w.heap.size) (ia : LtB ba w.heap.size) (ib : LtB bb w.heap.size) (hk : w.cell? ⟨bk, 0, none⟩ = some (.int .i64 k)) (ha : w.cell? ⟨ba, 0, none⟩ = some (.int .i64 a)) (hb : w.cell? ⟨bb, 0, none⟩ = some (.int .i64 b)) :
    Calls Tryz.prog 38 #[c.val, .pointer (some ⟨bk, 0, none⟩), .pointer (some ⟨ba, 0, none⟩), .pointer (some ⟨bb, 0, none⟩)] w (Gives (.bool (isC k a b c)) w) := by
  unfold isC
  simp only [Clause.val]
  cases h1 : (c.kind == k)
  · rw [show (false && c.a == a && c.b == b) = false by simp]
    go_enter Tryz.func38, Tryz.ntmps38
    go_wp2_with fail
    go_ret
    exact ⟨rfl, (by repeat' (first | exact Below.refl _ _ | assumption | refine b_gr ?_ _ | refine b_alloc ?_ _ | refine b_drew ?_))⟩
  · cases h2 : (c.a == a)
    · rw [show (true && false && c.b == b) = false by simp]
      go_enter Tryz.func38, Tryz.ntmps38
      go_wp2_with fail
      go_ret
      exact ⟨rfl, (by repeat' (first | exact Below.refl _ _ | assumption | refine b_gr ?_ _ | refine b_alloc ?_ _ | refine b_drew ?_))⟩
    · rw [show (true && true && c.b == b) = (c.b == b) by simp]
      generalize h3 : (c.b == b) = q
      go_enter Tryz.func38, Tryz.ntmps38
      go_wp2_with fail
      go_ret
      exact ⟨rfl, (by repeat' (first | exact Below.refl _ _ | assumption | refine b_gr ?_ _ | refine b_alloc ?_ _ | refine b_drew ?_))⟩
set_option maxHeartbeats 1000000 in
theorem clauseOf_ok (s : Snap) (p : SL Int) (k a b : Int) (w : World) (hs : s.At w) (hp : Ints w p) : Calls Tryz.prog 12 #[s.val, p.val, .int .i64 k, .int .i64 a, .int .i64 b] w (Gives (pairB (clauseOf s p.l k a b)) w) := by
  have HA := hide (fun W hW => clauseAll_ok s p W (hs.below hW) (hp.below hW))
  clear hs hp
  unfold clauseOf
  generalize clauseAll s p.l = l at *
  generalize placeCheck s p.l = e0 at *
  have HI := hide (fun (r : SL Clause) (hr : r.l = l) W (hat : r.At Clause.enc 4 W) (B1 B2 B3 : Nat) (b1 : Blk W B1 3 #[.int .i64 k]) (b2 : Blk W B2 3 #[.int .i64 a]) (b3 : Blk W B3 3 #[.int .i64 b]) =>
    hr ▸ IndexFunc_Clause r (isC k a b) 38 #[.pointer (some ⟨B1, 0, none⟩), .pointer (some ⟨B2, 0, none⟩), .pointer (some ⟨B3, 0, none⟩)] (enters_of Tryz.func38 (by kernel_rfl) rfl) W hat (fun G x _ => of1_ok x k a b B1 B2 B3 _ ((b1.gr G).ltb) ((b2.gr G).ltb) ((b3.gr G).ltb) ((b1.gr G).cell 0) ((b2.gr G).cell 0) ((b3.gr G).cell 0)))
  simp only [Snap.val, SL.val] at HA HI ⊢
  rcases idxOf_find (isC k a b) l with ⟨h1, h2⟩ | ⟨j, x, h1, h2, h3⟩
  · rw [h2]
    have hd : decide (idxOf (isC k a b) l < 0) = true := decide_eq_true h1
    have Hr := hide (idxOf_range (isC k a b) l)
    generalize idxOf (isC k a b) l = i0 at *
    clear h1 h2
    simp only [pairB]
    go_enter Tryz.func12, Tryz.ntmps12
    go_wp2_with fail
    refine (HA.out _ (by repeat' (first | exact Below.refl _ _ | assumption | refine b_gr ?_ _ | refine b_alloc ?_ _ | refine b_drew ?_))).mono ?_
    rintro e W ⟨r, hr, rfl, hat, hB⟩
    have c1 := (((Blk.at_ (w.alloc (.cells #[.slice s.nodes.a s.nodes.l.length s.nodes.c, .slice s.pods.a s.pods.l.length s.pods.c, .slice s.owners.a s.owners.l.length s.owners.c] 26)) 3 #[.int .i64 k] (w.heap.size + 1) (by simp)).alloc (.cells #[.int .i64 a] 3)).alloc (.cells #[.int .i64 b] 3)).below hB (by simp)
    have c2 := ((Blk.at_ ((w.alloc (.cells #[.slice s.nodes.a s.nodes.l.length s.nodes.c, .slice s.pods.a s.pods.l.length s.pods.c, .slice s.owners.a s.owners.l.length s.owners.c] 26)).alloc (.cells #[.int .i64 k] 3)) 3 #[.int .i64 a] (w.heap.size + 2) (by simp)).alloc (.cells #[.int .i64 b] 3)).below hB (by simp)
    have c3 := (Blk.at_ (((w.alloc (.cells #[.slice s.nodes.a s.nodes.l.length s.nodes.c, .slice s.pods.a s.pods.l.length s.pods.c, .slice s.owners.a s.owners.l.length s.owners.c] 26)).alloc (.cells #[.int .i64 k] 3)).alloc (.cells #[.int .i64 a] 3)) 3 #[.int .i64 b] (w.heap.size + 3) (by simp)).below hB (by simp)
    have hBw : Below w.heap.size w W := b_then (by repeat' (first | exact Below.refl _ _ | assumption | refine b_gr ?_ _ | refine b_alloc ?_ _ | refine b_drew ?_)) hB
    have HX := hide (HI.out r hr W hat (w.heap.size + 1) (w.heap.size + 2) (w.heap.size + 3) c1 c2 c3)
    simp only [SL.val]
    clear HI HA hr hat hB c1 c2 c3
    go_wp2_with fail
    refine (calls_gr HX.out).mono ?_
    rintro e w2 ⟨rfl, g, rfl⟩
    go_wp2_with fail
    go_ret2
    exact ⟨rfl, b_gr hBw g⟩
  · rw [h3]
    rw [h1] at HI
    have hd : decide ((j : Int) < 0) = false := decide_eq_false (by omega)
    have Hj := hide h2
    clear h1 h2 h3
    simp only [pairB]
    go_enter Tryz.func12, Tryz.ntmps12
    go_wp2_with fail
    refine (HA.out _ (by repeat' (first | exact Below.refl _ _ | assumption | refine b_gr ?_ _ | refine b_alloc ?_ _ | refine b_drew ?_))).mono ?_
    rintro e W ⟨r, hr, rfl, hat, hB⟩
    have c1 := (((Blk.at_ (w.alloc (.cells #[.slice s.nodes.a s.nodes.l.length s.nodes.c, .slice s.pods.a s.pods.l.length s.pods.c, .slice s.owners.a s.owners.l.length s.owners.c] 26)) 3 #[.int .i64 k] (w.heap.size + 1) (by simp)).alloc (.cells #[.int .i64 a] 3)).alloc (.cells #[.int .i64 b] 3)).below hB (by simp)
    have c2 := ((Blk.at_ ((w.alloc (.cells #[.slice s.nodes.a s.nodes.l.length s.nodes.c, .slice s.pods.a s.pods.l.length s.pods.c, .slice s.owners.a s.owners.l.length s.owners.c] 26)).alloc (.cells #[.int .i64 k] 3)) 3 #[.int .i64 a] (w.heap.size + 2) (by simp)).alloc (.cells #[.int .i64 b] 3)).below hB (by simp)
    have c3 := (Blk.at_ (((w.alloc (.cells #[.slice s.nodes.a s.nodes.l.length s.nodes.c, .slice s.pods.a s.pods.l.length s.pods.c, .slice s.owners.a s.owners.l.length s.owners.c] 26)).alloc (.cells #[.int .i64 k] 3)).alloc (.cells #[.int .i64 a] 3)) 3 #[.int .i64 b] (w.heap.size + 3) (by simp)).below hB (by simp)
    have hBw : Below w.heap.size w W := b_then (by repeat' (first | exact Below.refl _ _ | assumption | refine b_gr ?_ _ | refine b_alloc ?_ _ | refine b_drew ?_)) hB
    have HX := hide (HI.out r hr W hat (w.heap.size + 1) (w.heap.size + 2) (w.heap.size + 3) c1 c2 c3)
    have hj := Hj.out
    rw [← hr] at hj
    obtain ⟨B, off, ha, hlt, hc⟩ := hat.cell j x hj
    have iB : LtB B W.heap.size := ⟨hlt⟩
    have y3 := hc 3 _ rfl
    have hjl := (List.getElem?_eq_some_iff.1 hj).1
    have hbig := hat.big
    simp only [SL.val]
    rw [ha] at HX
    rw [ha]
    clear HI HA hr hat hB c1 c2 c3 hlt hc hj Hj
    go_wp2_with fail
    refine (calls_gr HX.out).mono ?_
    rintro e w2 ⟨rfl, g, rfl⟩
    go_wp2_with fail
    go_ret2
    exact ⟨rfl, b_gr hBw g⟩
end Go.Proofs.YtnjjdilmaepokaaGreat
namespace Go.Proofs.YtnjjdilmaepokaaGreat
open Go.RowKit Go.Maps
theorem filter_succ {α : Type} (q : α → Bool) {l : List α} {k : Nat} {x : α} (h : l[k]? = some x) : (l.take (k + 1)).filter q = (l.take k).filter q ++ (if q x then [x] else []) := by
  rw [List.take_add_one, h, List.filter_append]
  cases hq : q x <;> simp [hq]
theorem filter_len {α : Type} (q : α → Bool) (l : List α) (k : Nat) : ((l.take k).filter q).length ≤ k := Nat.le_trans (List.length_filter_le _ _) (by rw [List.length_take]; omega)
set_option maxRecDepth 100000 in
set_option maxHeartbeats 1000000 in
theorem but_ok (s : Snap) (p : SL Int) (q : Clause → Bool) (g : Nat) (lb : Array Value) (eg : ∀ args w, (callFunc g args).run Tryz.prog w = .ok (.enter g args) w) (w : World) (hs : s.At w) (hp : Ints w p)
    (hq : ∀ x W, Below w.heap.size w W → Calls Tryz.prog g (#[x.val] ++ lb) W (Gives (.bool (q x)) W)) :
    Calls Tryz.prog 40 #[s.val, p.val, .func (.func g) #[] lb] w (GivesSL Clause.enc 4 ((clauseAll s p.l).filter q) w) := by
  have HA := hide (fun W hW => clauseAll_ok s p W (hs.below hW) (hp.below hW))
  have hlen := clauseAll_len s p.l
  have HQ := hide hq
  clear hs hp hq
  generalize clauseAll s p.l = l at *
  generalize placeCheck s p.l = e0 at *
  simp only [Snap.val, SL.val, Clause.val] at HA HQ ⊢
  obtain ⟨i0, hi, hz0, hz1, hz2⟩ := info_parts info_clause
  have Hi := hide hi
  have Hz0 := hide hz0
  have Hz1 := hide hz1
  have Hz2 := hide hz2
  clear hi hz0 hz1 hz2
  go_enter Tryz.func40, Tryz.ntmps40
  go_wp2_with fail
  refine (HA.out _ (by repeat' (first | exact Below.refl _ _ | assumption | refine b_gr ?_ _ | refine b_alloc ?_ _ | refine b_drew ?_))).mono ?_
  rintro e W ⟨r, hr, rfl, hat, hB⟩
  have hBw : Below w.heap.size w W := b_then (by repeat' (first | exact Below.refl _ _ | assumption | refine b_gr ?_ _ | refine b_alloc ?_ _ | refine b_drew ?_)) hB
  obtain ⟨ra, rc, rl⟩ := r
  simp only at hr
  subst hr
  have Hc := hide hat.cell
  clear hat hB HA
  have HBw := hide hBw
  clear hBw
  simp only [SL.val]
  go_wp2_with fail
  go_loopg [6, 19] rl.length (fun gg s6 s19 wr => ∃ kk : Nat, kk ≤ rl.length ∧ rl.length - kk ≤ gg ∧ s19 = .int .i64 kk ∧ Hid (∃ G : Grw W, wr = gr W G ∧ (gr W G).ownsRow W.heap.size 47 4 s6 ((rl.take kk).filter q).length (((rl.take kk).filter q).flatMap Clause.enc)))
  case atStart => exact ⟨0, Nat.zero_le _, by omega, rfl, ⟨W, Below.refl _ _⟩, rfl, World.ownsRow_nil _ _ _ _⟩
  case round =>
    obtain ⟨kk, hkk, hg, rfl, ⟨G, rfl, HO⟩⟩ := hrel
    have HO' := hide HO
    clear HO
    by_cases hlt : kk < rl.length
    · have hx : rl[kk]? = some rl[kk] := List.getElem?_eq_getElem hlt
      obtain ⟨b, off, rfl, hb, hcell⟩ := Hc.out kk rl[kk] hx
      have ib : LtB b W.heap.size := ⟨hb⟩
      have Hf := hide (filter_succ q hx)
      have hfl := filter_len q rl kk
      generalize rl[kk] = x at hx hcell Hf
      have HQx := hide (fun W' hW => HQ.out x W' hW)
      have c0 : W.cell? ⟨b, off + kk * 4, none⟩ = some _ := hcell 0 _ rfl
      have c1 := hcell 1 _ rfl
      have c2 := hcell 2 _ rfl
      have c3 := hcell 3 _ rfl
      clear hcell hx hb
      have hB2 : Below w.heap.size w (gr W G) := b_gr HBw.out G
      cases hqx : q x
      · rw [hqx] at HQx Hf
        have Hf' := hide (show (rl.take (kk + 1)).filter q = (rl.take kk).filter q by rw [Hf.out]; simp)
        clear hqx Hf
        go_wp2_with fail
        refine (calls_gr (HQx.out _ (by repeat' (first | exact Below.refl _ _ | assumption | refine b_gr ?_ _ | refine b_alloc ?_ _ | refine b_drew ?_)))).mono ?_
        rintro e w2 ⟨rfl, g2, rfl⟩
        go_wp2_with fail
        go_roundg (rl.length - (kk + 1))
        case measure => omega
        case rel =>
          obtain ⟨G', hG'⟩ := to_gr (show Below W.heap.size W (gr ((gr W G).alloc (.cells #[.int .i64 x.kind, .int .i64 x.a, .int .i64 x.b, .int .i64 x.amt] 47)) g2) from b_gr (b_alloc (gr_below W G) _) g2)
          exact ⟨kk + 1, by omega, by omega, by go_num, G', hG', by rw [Hf'.out, ← hG']; exact own_gr (own_below HO'.out (b_alloc (Below.refl _ _) _)) g2⟩
      · rw [hqx] at HQx Hf
        have Hf' := hide (show (rl.take (kk + 1)).filter q = (rl.take kk).filter q ++ [x] by rw [Hf.out]; simp)
        clear hqx Hf
        generalize (rl.take kk).filter q = ys at *
        go_wp2_with fail
        refine (calls_gr (HQx.out _ (by repeat' (first | exact Below.refl _ _ | assumption | refine b_gr ?_ _ | refine b_alloc ?_ _ | refine b_drew ?_)))).mono ?_
        rintro e w2 ⟨rfl, g2, rfl⟩
        go_wp2_with (at_builtin; refine wpList_append_own _ rfl _ _ 48 rfl W.heap.size 47 i0 _ 4 32 Tryz.underlying48 Hi.out Hz0.out Hz1.out Hz2.out rfl (by decide) _ _ _ rfl (own_below (own_gr (own_below HO'.out (b_alloc (Below.refl _ _) _)) g2) (b_alloc (Below.refl _ _) _)) _ 1 1 (Clause.enc x) rfl rfl (cells_new _ _ _) (by simp [Value.oneCell']) (by simp only [maxLen]; omega) (by omega) (b_alloc (b_gr (b_alloc (gr_below W G) _) _) _).size ?_; intro v' w3 hown' hgrow _)
        go_roundg (rl.length - (kk + 1))
        case measure => omega
        case rel =>
          have hB := grown_below (b_alloc (b_gr (b_alloc (gr_below W G) _) _) _) hgrow (own_ge HO'.out)
          obtain ⟨G', rfl⟩ := to_gr hB
          exact ⟨kk + 1, by omega, by omega, by go_num, G', rfl, by rw [Hf'.out, flat_snoc, List.length_append]; exact hown'⟩
    · obtain rfl : kk = rl.length := by omega
      have h := HO'.out
      rw [List.take_length] at h
      have hfl := List.length_filter_le q rl
      go_wp2_with fail
      go_ret
      exact gives_row (fun _ => rfl) h (by omega) (b_gr HBw.out G)
def brokenL (s : Snap) (p : List Int) : List Clause := (clauseAll s p).filter fun c => decide (c.amt > 0)
theorem broken1_ok (c : Clause) (w : World) : Calls Tryz.prog 52 #[c.val] w (Gives (.bool (decide (c.amt > 0))) w) := by
  simp only [Clause.val]
  generalize hd : decide (c.amt > 0) = b
  go_enter Tryz.func52, Tryz.ntmps52
  go_wp2_with fail
  go_ret
  exact ⟨by rw [← hd]; rfl, (by repeat' (first | exact Below.refl _ _ | assumption | refine b_gr ?_ _ | refine b_alloc ?_ _ | refine b_drew ?_))⟩
theorem broken_ok (s : Snap) (p : SL Int) (w : World) (hs : s.At w) (hp : Ints w p) : Calls Tryz.prog 39 #[s.val, p.val] w (GivesSL Clause.enc 4 (brokenL s p.l) w) := by
  have HA := hide (fun W hW => but_ok s p (fun c => decide (c.amt > 0)) 52 #[] (enters_of Tryz.func52 (by kernel_rfl) rfl) W (hs.below hW) (hp.below hW) (fun x W' _ => broken1_ok x W'))
  clear hs hp
  unfold brokenL
  simp only [Snap.val, SL.val] at HA ⊢
  generalize List.filter (fun c : Clause => decide (c.amt > 0)) (clauseAll s p.l) = l at *
  go_enter Tryz.func39, Tryz.ntmps39
  go_wp2_with fail
  refine (HA.out _ (by repeat' (first | exact Below.refl _ _ | assumption | refine b_gr ?_ _ | refine b_alloc ?_ _ | refine b_drew ?_))).mono ?_
  rintro e W ⟨r, hr, rfl, hat, hB⟩
  have Hr := hide hr
  have HB := hide hB
  clear hr hB
  simp only [SL.val]
  go_wp2_with fail
  go_ret
  exact ⟨r, Hr.out, rfl, hat, b_then (by repeat' (first | exact Below.refl _ _ | assumption | refine b_gr ?_ _ | refine b_alloc ?_ _ | refine b_drew ?_)) HB.out⟩
def ofPodB (pod : Int) (c : Clause) : Bool := (c.a == pod) && decide (2 ≤ c.kind) && decide (c.kind ≤ 6)
def podL (s : Snap) (p : List Int) (pod : Int) : List Clause := (clauseAll s p).filter (ofPodB pod)
theorem clausePod1_ok (c : Clause) (pod : Int) (bp : Nat) (w : World) (ip : LtB bp w.heap.size) (hk : w.cell? ⟨bp, 0, none⟩ = some (.int .i64 pod)) : Calls Tryz.prog 41 #[c.val, .pointer (some ⟨bp, 0, none⟩)] w (Gives (.bool (ofPodB pod c)) w) := by
  unfold ofPodB
  simp only [Clause.val]
  cases h1 : (c.a == pod)
  · rw [show (false && decide (2 ≤ c.kind) && decide (c.kind ≤ 6)) = false by simp]
    go_enter Tryz.func41, Tryz.ntmps41
    go_wp2_with fail
    go_ret
    exact ⟨rfl, (by repeat' (first | exact Below.refl _ _ | assumption | refine b_gr ?_ _ | refine b_alloc ?_ _ | refine b_drew ?_))⟩
  · cases h2 : decide (2 ≤ c.kind)
    · rw [show (true && false && decide (c.kind ≤ 6)) = false by simp]
      have h3 : ¬ 2 ≤ c.kind := of_decide_eq_false h2
      go_enter Tryz.func41, Tryz.ntmps41
      go_wp2_with fail
      go_ret
      exact ⟨rfl, (by repeat' (first | exact Below.refl _ _ | assumption | refine b_gr ?_ _ | refine b_alloc ?_ _ | refine b_drew ?_))⟩
    · rw [show (true && true && decide (c.kind ≤ 6)) = decide (c.kind ≤ 6) by simp]
      have h3 : 2 ≤ c.kind := of_decide_eq_true h2
      generalize hd : decide (c.kind ≤ 6) = q
      go_enter Tryz.func41, Tryz.ntmps41
      go_wp2_with fail
      go_ret
      exact ⟨by rw [← hd]; rfl, (by repeat' (first | exact Below.refl _ _ | assumption | refine b_gr ?_ _ | refine b_alloc ?_ _ | refine b_drew ?_))⟩
theorem clausePod_ok (s : Snap) (p : SL Int) (pod : Int) (w : World) (hs : s.At w) (hp : Ints w p) : Calls Tryz.prog 14 #[s.val, p.val, .int .i64 pod] w (GivesSL Clause.enc 4 (podL s p.l pod) w) := by
  have HA := hide (fun W hW B (hB : Blk W B 3 #[.int .i64 pod]) => but_ok s p (ofPodB pod) 41 #[.pointer (some ⟨B, 0, none⟩)] (enters_of Tryz.func41 (by kernel_rfl) rfl) W (hs.below hW) (hp.below hW) (fun x W' hW' =>
    clausePod1_ok x pod B W' (hB.below hW' hB.lt).ltb ((hB.below hW' hB.lt).cell 0)))
  clear hs hp
  unfold podL
  simp only [Snap.val, SL.val] at HA ⊢
  generalize List.filter (ofPodB pod) (clauseAll s p.l) = l at *
  go_enter Tryz.func14, Tryz.ntmps14
  go_wp2_with fail
  refine (HA.out _ (by repeat' (first | exact Below.refl _ _ | assumption | refine b_gr ?_ _ | refine b_alloc ?_ _ | refine b_drew ?_)) _ (Blk.at_ _ _ _ _ (by simp))).mono ?_
  rintro e W ⟨r, hr, rfl, hat, hB⟩
  have Hr := hide hr
  have HB := hide hB
  clear hr hB
  simp only [SL.val]
  go_wp2_with fail
  go_ret
  exact ⟨r, Hr.out, rfl, hat, b_then (by repeat' (first | exact Below.refl _ _ | assumption | refine b_gr ?_ _ | refine b_alloc ?_ _ | refine b_drew ?_)) HB.out⟩
end Go.Proofs.YtnjjdilmaepokaaGreat
