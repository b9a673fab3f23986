/- Package place: what a step makes. Conditions: the cluster and the placement lie in memory.
   Package place: domains. Conditions: the cluster lies in memory.
   Regions that draw their order, inside a fence that lets all through (in a round of a range over a function too); the two iterators of package place.
   Package place: the two iterators. Conditions: the cluster and the placement lie in memory; the placement is as long as the pods.
   Package place: the iterator over the nodes of an owner's pods. Conditions: as for the other; each place is a node or none.
   Package place: Placed. Conditions: the cluster and the placement lie in memory.
   The library: slices.Sorted(maps.Keys(m)) at map[string]int. (After the text that the kit's lay-iter prints.)
   Package place: Domains. Conditions: the cluster lies in memory.
   Package place: Used. Conditions: the cluster and the placement lie in memory.
   Package place: Spread. Conditions: the cluster and the placement lie in memory. -/
import Derived.Test.YtnjjdilmaepokaaGreatMB
import Derived.RangeFuncNested
import Derived.RangeFuncBound
import Derived.RangeFuncCalls
import Derived.RangeFuncLeaves
import Derived.RangeFuncFrom
import Derived.RangeFuncBox
import Derived.Shelf.RegionOpen
import Derived.OwnWalkIn
import Derived.TacticsInMore
import Derived.LoopNIn
import Derived.LoopIn
import Derived.Maps.OwnIn
import Derived.Test.YtnjjdilmaepokaaGreatShelfB
import Derived.Maps.OwnSet
import Derived.StringKeys
set_option linter.unusedVariables false
set_option linter.unusedSimpArgs false
namespace Go.Proofs.YtnjjdilmaepokaaGreat
open Go.RowKit
theorem cloneInts_ok (s : SL Int) (w : World) (hs : Ints w s) (hn : s.l.length ≤ 65536) : Calls Tryz.prog 47 #[s.val] w fun e w' => ∃ v', e = .returned v' ∧ w'.ownsRow w.heap.size 3 1 v' s.l.length (s.l.map (Value.int .i64)) ∧ Below w.heap.size w w' := by
  obtain ⟨a, c, l⟩ := s
  by_cases h0 : l = []
  · subst h0
    cases a with
    | none => exact (Tryz.slices_Clone_int_nil 0 c w).mono fun e w' ⟨he, hw⟩ => ⟨_, he, hw ▸ ⟨by simp, .inl ⟨rfl, rfl⟩⟩, hw ▸ Below.refl _ _⟩
    | some a => exact (Tryz.slices_Clone_int_zero a c w).mono fun e w' ⟨v', he, ho, _, hb⟩ => ⟨v', he, ho, hb⟩
  · obtain ⟨b, off, rfl, hb, _⟩ := hs.cell 0 _ (List.getElem?_eq_getElem (List.length_pos_iff.2 h0))
    have hcell : ∀ j, j < l.length → w.cell? ⟨b, off + j, none⟩ = some (.int .i64 (l.getD j 0)) := fun j hj => by
      obtain ⟨b', off', he, _, hc⟩ := hs.cell j _ (List.getElem?_eq_getElem hj)
      injection he with he
      injection he with he1 he2
      subst he1 he2
      have := hc 0 _ rfl
      rw [List.getD_eq_getElem?_getD, List.getElem?_eq_getElem hj]
      simpa using this
    simp only at hn
    exact (Tryz.slices_Clone_int b off l.length c l w (Nat.le_refl _) (by omega) hcell).mono fun e w' ⟨v', he, ho, _, hb'⟩ => ⟨v', he, by rw [List.take_length] at ho; exact ho, hb'⟩
theorem int_flat (l : List Int) : l.map (Value.int .i64) = l.flatMap (fun x => [.int .i64 x]) := by
  induction l with
  | nil => rfl
  | cons x l ih => simp [ih]
/-- A row of ints of the call's own: it is a block, and reads so. -/
theorem row_blk {w : World} {base : Nat} {v : Value} {l : List Int} (h : w.ownsRow base 3 1 v l.length (l.map (Value.int .i64))) (h0 : 0 < l.length) :
    ∃ g cap cur, v = .slice (some ⟨g, 0, none⟩) l.length cap ∧ base ≤ g ∧ Blk w g 3 cur ∧ l.length ≤ cap ∧ cap ≤ 9223372036854775807 ∧ cur.toList.take l.length = l.map (Value.int .i64) := by
  rcases h.2 with ⟨_, h1⟩ | ⟨g, cap, cur, rfl, hb, hh, hnc, hcap, hsz, ht⟩
  · omega
  · exact ⟨g, cap, cur, rfl, hb, hh, hnc, hcap, by rw [Nat.mul_one] at ht; exact ht⟩
theorem ints_of_blk {w : World} {g cap : Nat} {cur : Array Value} {l : List Int} (h : Blk w g 3 cur) (hc : l.length ≤ cap) (hcap : cap ≤ 9223372036854775807) (hl : l.length ≤ 140737488351232) (ht : cur.toList.take l.length = l.map (Value.int .i64)) : Ints w ⟨some ⟨g, 0, none⟩, cap, l⟩ :=
  ⟨hc, hl, hcap, fun i x hx => ⟨g, 0, rfl, h.lt, fun j v hv => by
    have hj : j = 0 := by
      rcases Nat.eq_zero_or_pos j with h' | h'
      · exact h'
      · rw [List.getElem?_eq_none (by simp; omega)] at hv; cases hv
    subst hj
    simp only [List.getElem?_cons_zero, Option.some.injEq] at hv
    subst hv
    rw [h.cell, ← Array.getElem?_toList]
    have hi : i < l.length := (List.getElem?_eq_some_iff.1 hx).1
    have : (cur.toList.take l.length)[i]? = some (.int .i64 x) := by rw [ht, List.getElem?_map, hx]; rfl
    rw [List.getElem?_take, if_pos hi] at this
    simpa using this⟩⟩
theorem blk_cell {w : World} {g : Nat} {cur : Array Value} {l : List Int} (h : Blk w g 3 cur) (ht : cur.toList.take l.length = l.map (Value.int .i64)) {i : Nat} {x : Int} (hx : l[i]? = some x) : w.cell? ⟨g, i, none⟩ = some (.int .i64 x) := by
  rw [h.cell, ← Array.getElem?_toList]
  have hi : i < l.length := (List.getElem?_eq_some_iff.1 hx).1
  have : (cur.toList.take l.length)[i]? = some (.int .i64 x) := by rw [ht, List.getElem?_map, hx]; rfl
  rw [List.getElem?_take, if_pos hi] at this
  exact this
theorem take_set {cur : Array Value} {l : List Int} (ht : cur.toList.take l.length = l.map (Value.int .i64)) (i : Nat) (y : Int) : (cur.setIfInBounds i (.int .i64 y)).toList.take (l.set i y).length = (l.set i y).map (Value.int .i64) := by
  rw [Array.toList_setIfInBounds, List.length_set, List.take_set, ht, List.map_set]

def GivesTwo (xs : List Int) (e0 : Int) (w : World) (e : Ending) (w' : World) : Prop := ∃ r : SL Int, r.l = xs ∧ e = .returned (.tuple #[r.val, .int .i64 e0]) ∧ Ints w' r ∧ Below w.heap.size w w'
theorem gives_nil {e0 : Int} {w w' : World} (h : Below w.heap.size w w') : GivesTwo [] e0 w (.returned (.tuple #[.slice none 0 0, .int .i64 e0])) w' := ⟨⟨none, 0, []⟩, rfl, rfl, SL.At.nil _ _ _, h⟩
def inR (i : Int) (n : Nat) : Bool := decide (0 ≤ i) && decide (i < n)
def applyE (s : Snap) (p : List Int) (x : Step) : Int :=
  if placeCheck s p ≠ 0 then placeCheck s p
  else if x.kind = 1 then (if (inR x.pod p.length && inR x.node 1) = true then (if p.getD x.pod.toNat 0 = -1 then 110 else 0) else 9)
  else if x.kind = 2 then (if (inR x.pod p.length && inR x.node s.nodes.l.length) = true then (if p.getD x.pod.toNat 0 ≠ -1 ∨ lostAt s x.node = true then 110 else 0) else 9)
  else 2
def applyL (s : Snap) (p : List Int) (x : Step) : List Int := if applyE s p x = 0 then p.set x.pod.toNat (if x.kind = 1 then -1 else x.node) else []
set_option maxRecDepth 100000 in
set_option maxHeartbeats 4000000 in
theorem apply_ok (s : Snap) (p : SL Int) (x : Step) (w : World) (hs : s.At w) (hp : Ints w p) (hn : p.l.length ≤ 65536) : Calls Tryz.prog 18 #[s.val, p.val, x.val] w (GivesTwo (applyL s p.l x) (applyE s p.l x) w) := by
  have HK := hide (fun W hW => placeCheck_ok s p W (hs.below hW) (hp.below hW))
  have HT := hide there_ok
  have HC := hide (fun W hW => cloneInts_ok p W (hp.below hW) hn)
  have hnode := hide hs.nodes.cell
  have hcell := hide hp.cell
  have hnl := hs.nodes.big
  have hpl := hp.big
  clear hs hp
  by_cases h0 : placeCheck s p.l = 0
  · have ep : (¬ placeCheck s p.l ≠ 0) := fun h => h h0
    rw [h0] at HK
    have HT1 := hide (fun W => there_ok x.pod p.l.length W)
    change Hid (∀ W, Calls _ _ _ W fun e w' => e = .returned (.bool (inR x.pod p.l.length)) ∧ W = w') at HT1
    by_cases hk1 : x.kind = 1
    · have k1 : (x.kind == 1) = true := beq_iff_eq.2 hk1
      have HT2 := hide (fun W => there_ok x.node 1 W)
      change Hid (∀ W, Calls _ _ _ W fun e w' => e = .returned (.bool (inR x.node 1)) ∧ W = w') at HT2
      cases t1 : inR x.pod p.l.length with
      | false =>
        have he : applyE s p.l x = 9 := by unfold applyE; rw [if_neg ep, if_pos hk1, if_neg (by rw [t1]; simp)]
        have hl : applyL s p.l x = [] := if_neg (by rw [he]; decide)
        rw [he, hl]
        rw [t1] at HT1
        clear he hl t1 hk1 h0 ep hnode hcell HC
        simp only [Snap.val, Step.val, SL.val] at *
        go_enter Tryz.func18, Tryz.ntmps18
        go_wp2_with fail
        refine (calls_gr (HK.out _ (by repeat' (first | exact Below.refl _ _ | assumption | refine b_gr ?_ _ | refine b_alloc ?_ _ | refine b_drew ?_)))).mono ?_
        rintro e w1 ⟨rfl, g, rfl⟩
        clear HK
        go_wp2_with fail
        go_wp2_with (go_at_call 46; refine (HT1.out _).mono ?_; rintro e w2 ⟨rfl, rfl⟩)
        go_ret2
        exact gives_nil (by repeat' (first | exact Below.refl _ _ | assumption | refine b_gr ?_ _ | refine b_alloc ?_ _ | refine b_drew ?_))
      | true =>
        rw [t1] at HT1
        cases t2 : inR x.node 1 with
        | false =>
          have he : applyE s p.l x = 9 := by unfold applyE; rw [if_neg ep, if_pos hk1, if_neg (by rw [t1, t2]; simp)]
          have hl : applyL s p.l x = [] := if_neg (by rw [he]; decide)
          rw [he, hl]
          rw [t2] at HT2
          clear he hl t1 t2 hk1 h0 ep hnode hcell HC
          simp only [Snap.val, Step.val, SL.val] at *
          go_enter Tryz.func18, Tryz.ntmps18
          go_wp2_with fail
          refine (calls_gr (HK.out _ (by repeat' (first | exact Below.refl _ _ | assumption | refine b_gr ?_ _ | refine b_alloc ?_ _ | refine b_drew ?_)))).mono ?_
          rintro e w1 ⟨rfl, g, rfl⟩
          clear HK
          go_wp2_with fail
          refine (HT1.out _).mono ?_
          rintro e w2 ⟨rfl, rfl⟩
          go_wp2_with fail
          refine (HT2.out _).mono ?_
          rintro e w3 ⟨rfl, rfl⟩
          go_wp2_with fail
          go_ret2
          exact gives_nil (by repeat' (first | exact Below.refl _ _ | assumption | refine b_gr ?_ _ | refine b_alloc ?_ _ | refine b_drew ?_))
        | true =>
          rw [t2] at HT2
          obtain ⟨i, hpod, hi⟩ : ∃ i : Nat, x.pod = i ∧ i < p.l.length := by
            unfold inR at t1
            simp only [Bool.and_eq_true, decide_eq_true_eq] at t1
            exact ⟨x.pod.toNat, by omega, by omega⟩
          obtain ⟨y, hx⟩ : ∃ y, p.l[i]? = some y := ⟨_, List.getElem?_eq_getElem hi⟩
          have hgd : p.l.getD x.pod.toNat 0 = y := by rw [hpod, Int.toNat_natCast, List.getD_eq_getElem?_getD, hx]; rfl
          obtain ⟨b', off', hpa, hb', hcl⟩ := hcell.out i y hx
          have ib' : LtB b' w.heap.size := ⟨hb'⟩
          have c0 : w.cell? ⟨b', off' + i, none⟩ = some (.int .i64 y) := by have h := hcl 0 _ rfl; simpa using h
          clear hb' hcell
          by_cases hy : y = -1
          · have he : applyE s p.l x = 110 := by unfold applyE; rw [if_neg ep, if_pos hk1, if_pos (by rw [t1, t2]; rfl), if_pos (by rw [hgd]; exact hy)]
            have hl : applyL s p.l x = [] := if_neg (by rw [he]; decide)
            rw [he, hl]
            have y1 : (y == -1) = true := beq_iff_eq.2 hy
            clear he hl t1 t2 hk1 h0 ep hnode HC hgd hy hx hcl
            obtain ⟨xk, xp, xn⟩ := x
            obtain ⟨pa, pc, pl⟩ := p
            simp only at hpod hpa k1 hi
            subst hpod hpa
            simp only [Snap.val, Step.val, SL.val] at *
            go_enter Tryz.func18, Tryz.ntmps18
            go_wp2_with fail
            refine (calls_gr (HK.out _ (by repeat' (first | exact Below.refl _ _ | assumption | refine b_gr ?_ _ | refine b_alloc ?_ _ | refine b_drew ?_)))).mono ?_
            rintro e w1 ⟨rfl, g, rfl⟩
            clear HK
            go_wp2_with fail
            refine (HT1.out _).mono ?_
            rintro e w2 ⟨rfl, rfl⟩
            go_wp2_with fail
            refine (HT2.out _).mono ?_
            rintro e w3 ⟨rfl, rfl⟩
            go_wp2_with fail
            go_ret2
            exact gives_nil (by repeat' (first | exact Below.refl _ _ | assumption | refine b_gr ?_ _ | refine b_alloc ?_ _ | refine b_drew ?_))
          · have he : applyE s p.l x = 0 := by unfold applyE; rw [if_neg ep, if_pos hk1, if_pos (by rw [t1, t2]; rfl), if_neg (by rw [hgd]; exact hy)]
            have hl : applyL s p.l x = p.l.set i (-1) := by unfold applyL; rw [if_pos he, if_pos hk1, hpod, Int.toNat_natCast]
            rw [he, hl]
            have y1 : (y == -1) = false := beq_eq_false_iff_ne.2 hy
            clear he hl t1 t2 hk1 h0 ep hnode hgd hy hx
            clear hcl
            obtain ⟨xk, xp, xn⟩ := x
            obtain ⟨pa, pc, pl⟩ := p
            simp only at hpod hpa k1 hi
            subst hpod hpa
            simp only [Snap.val, Step.val, SL.val] at *
            go_enter Tryz.func18, Tryz.ntmps18
            go_wp2_with fail
            refine (calls_gr (HK.out _ (by repeat' (first | exact Below.refl _ _ | assumption | refine b_gr ?_ _ | refine b_alloc ?_ _ | refine b_drew ?_)))).mono ?_
            rintro e w1 ⟨rfl, g, rfl⟩
            clear HK
            go_wp2_with fail
            refine (HT1.out _).mono ?_
            rintro e w2 ⟨rfl, rfl⟩
            go_wp2_with fail
            refine (HT2.out _).mono ?_
            rintro e w3 ⟨rfl, rfl⟩
            go_wp2_with fail
            refine (HC.out _ (by repeat' (first | exact Below.refl _ _ | assumption | refine b_gr ?_ _ | refine b_alloc ?_ _ | refine b_drew ?_))).mono ?_
            rintro e w4 ⟨v', rfl, ho, hb4⟩
            have hbs := hb4.size
            obtain ⟨g4, rfl⟩ := to_gr ((gr_below _ _).trans (hb4.mono (size_gr _)))
            obtain ⟨gg, cap, cur, rfl, hbase, hblk, hcp, hcap, htk⟩ := row_blk ho (by omega)
            obtain ⟨y', hy'⟩ : ∃ y', pl[i]? = some y' := ⟨_, List.getElem?_eq_getElem hi⟩
            have d0 := blk_cell hblk htk hy'
            have z0 := hblk.frozen i
            have HBK := hide hblk
            have HTK := hide htk
            have HB := hide hb4
            clear htk hy' HC
            go_wp2_with fail
            go_ret2
            exact ⟨⟨some ⟨gg, 0, none⟩, cap, pl.set i (-1)⟩, rfl, (by show Ending.returned (.tuple #[.slice (some ⟨gg, 0, none⟩) pl.length cap, .int .i64 0]) = _; simp [SL.val]), ints_of_blk (hblk.set_ i _) (by rw [List.length_set]; exact hcp) hcap (by rw [List.length_set]; exact hpl) (take_set HTK.out i _), b_set (by repeat' (first | exact Below.refl _ _ | assumption | refine b_gr ?_ _ | refine b_alloc ?_ _ | refine b_drew ?_)) (Nat.le_trans (show w.heap.size ≤ _ from Below.size (B := w.heap.size) (by repeat' (first | exact Below.refl _ _ | assumption | refine b_gr ?_ _ | refine b_alloc ?_ _ | refine b_drew ?_))) hbase) _⟩
    · have k1 : (x.kind == 1) = false := beq_eq_false_iff_ne.2 hk1
      by_cases hk2 : x.kind = 2
      · have k2 : (x.kind == 2) = true := beq_iff_eq.2 hk2
        have HT2 := hide (fun W => there_ok x.node s.nodes.l.length W)
        change Hid (∀ W, Calls _ _ _ W fun e w' => e = .returned (.bool (inR x.node s.nodes.l.length)) ∧ W = w') at HT2
        cases t1 : inR x.pod p.l.length with
        | false =>
          have he : applyE s p.l x = 9 := by unfold applyE; rw [if_neg ep, if_neg hk1, if_pos hk2, if_neg (by rw [t1]; simp)]
          have hl : applyL s p.l x = [] := if_neg (by rw [he]; decide)
          rw [he, hl]
          rw [t1] at HT1
          clear he hl t1 hk1 hk2 h0 ep hnode hcell HC
          simp only [Snap.val, Step.val, SL.val] at *
          go_enter Tryz.func18, Tryz.ntmps18
          go_wp2_with fail
          refine (calls_gr (HK.out _ (by repeat' (first | exact Below.refl _ _ | assumption | refine b_gr ?_ _ | refine b_alloc ?_ _ | refine b_drew ?_)))).mono ?_
          rintro e w1 ⟨rfl, g, rfl⟩
          clear HK
          go_wp2_with fail
          refine wp_region_gr (by kernel_rfl) (by kernel_rfl) ?_
          repeat (go_big_quiet_step ((first | fail)))
          refine wpQuiet_nil ?_
          intro g2
          go_wp2_with fail
          go_wp2_with (go_at_call 46; refine (HT1.out _).mono ?_; rintro e w2 ⟨rfl, rfl⟩)
          go_ret2
          exact gives_nil (by repeat' (first | exact Below.refl _ _ | assumption | refine b_gr ?_ _ | refine b_alloc ?_ _ | refine b_drew ?_))
        | true =>
          rw [t1] at HT1
          cases t2 : inR x.node s.nodes.l.length with
          | false =>
            have he : applyE s p.l x = 9 := by unfold applyE; rw [if_neg ep, if_neg hk1, if_pos hk2, if_neg (by rw [t1, t2]; simp)]
            have hl : applyL s p.l x = [] := if_neg (by rw [he]; decide)
            rw [he, hl]
            rw [t2] at HT2
            clear he hl t1 t2 hk1 hk2 h0 ep hnode hcell HC
            simp only [Snap.val, Step.val, SL.val] at *
            go_enter Tryz.func18, Tryz.ntmps18
            go_wp2_with fail
            refine (calls_gr (HK.out _ (by repeat' (first | exact Below.refl _ _ | assumption | refine b_gr ?_ _ | refine b_alloc ?_ _ | refine b_drew ?_)))).mono ?_
            rintro e w1 ⟨rfl, g, rfl⟩
            clear HK
            go_wp2_with fail
            refine wp_region_gr (by kernel_rfl) (by kernel_rfl) ?_
            repeat (go_big_quiet_step ((first | fail)))
            refine wpQuiet_nil ?_
            intro g2
            go_wp2_with fail
            refine (HT1.out _).mono ?_
            rintro e w2 ⟨rfl, rfl⟩
            go_wp2_with fail
            refine (HT2.out _).mono ?_
            rintro e w3 ⟨rfl, rfl⟩
            go_wp2_with fail
            go_ret2
            exact gives_nil (by repeat' (first | exact Below.refl _ _ | assumption | refine b_gr ?_ _ | refine b_alloc ?_ _ | refine b_drew ?_))
          | true =>
            rw [t2] at HT2
            obtain ⟨i, hpod, hi⟩ : ∃ i : Nat, x.pod = i ∧ i < p.l.length := by
              unfold inR at t1
              simp only [Bool.and_eq_true, decide_eq_true_eq] at t1
              exact ⟨x.pod.toNat, by omega, by omega⟩
            obtain ⟨y, hx⟩ : ∃ y, p.l[i]? = some y := ⟨_, List.getElem?_eq_getElem hi⟩
            have hgd : p.l.getD x.pod.toNat 0 = y := by rw [hpod, Int.toNat_natCast, List.getD_eq_getElem?_getD, hx]; rfl
            obtain ⟨b', off', hpa, hb', hcl⟩ := hcell.out i y hx
            have ib' : LtB b' w.heap.size := ⟨hb'⟩
            have c0 : w.cell? ⟨b', off' + i, none⟩ = some (.int .i64 y) := by have h := hcl 0 _ rfl; simpa using h
            clear hb' hcell
            obtain ⟨j, hjn, hj⟩ : ∃ j : Nat, x.node = j ∧ j < s.nodes.l.length := by
              unfold inR at t2
              simp only [Bool.and_eq_true, decide_eq_true_eq] at t2
              exact ⟨x.node.toNat, by omega, by omega⟩
            have hlo : lostAt s x.node = (s.nodes.l[j]).lost := by unfold lostAt; rw [hjn, Int.toNat_natCast, List.getElem?_eq_getElem hj]
            obtain ⟨b, off, hna, hb0, hnc⟩ := hnode.out j _ (List.getElem?_eq_getElem hj)
            have ib : LtB b w.heap.size := ⟨hb0⟩
            have c9 := hnc 9 _ rfl
            generalize hlv : (s.nodes.l[j]).lost = lo at *
            by_cases hy : y = -1
            · have y1 : (y == -1) = true := beq_iff_eq.2 hy
              cases lo with
              | true =>
                have he : applyE s p.l x = 110 := by unfold applyE; rw [if_neg ep, if_neg hk1, if_pos hk2, if_pos (by rw [t1, t2]; rfl), if_pos (.inr hlo)]
                have hl : applyL s p.l x = [] := if_neg (by rw [he]; decide)
                rw [he, hl]
                clear he hl t1 t2 hk1 hk2 h0 ep HC hgd hy hx hcl hlo hlv hb0 hnc
                obtain ⟨xk, xp, xn⟩ := x
                obtain ⟨pa, pc, pl⟩ := p
                obtain ⟨⟨na, nc, nl⟩, ps, os⟩ := s
                simp only at hpod hpa hjn hna k1 k2 hi hj
                subst hpod hpa hjn hna
                simp only [Snap.val, Step.val, SL.val] at *
                go_enter Tryz.func18, Tryz.ntmps18
                go_wp2_with fail
                refine (calls_gr (HK.out _ (by repeat' (first | exact Below.refl _ _ | assumption | refine b_gr ?_ _ | refine b_alloc ?_ _ | refine b_drew ?_)))).mono ?_
                rintro e w1 ⟨rfl, g, rfl⟩
                clear HK
                go_wp2_with fail
                refine wp_region_gr (by kernel_rfl) (by kernel_rfl) ?_
                repeat (go_big_quiet_step ((first | fail)))
                refine wpQuiet_nil ?_
                intro g2
                go_wp2_with fail
                refine (HT1.out _).mono ?_
                rintro e w2 ⟨rfl, rfl⟩
                go_wp2_with fail
                refine (HT2.out _).mono ?_
                rintro e w3 ⟨rfl, rfl⟩
                go_wp2_with fail
                go_ret2
                exact gives_nil (by repeat' (first | exact Below.refl _ _ | assumption | refine b_gr ?_ _ | refine b_alloc ?_ _ | refine b_drew ?_))
              | false =>
                have he : applyE s p.l x = 0 := by unfold applyE; rw [if_neg ep, if_neg hk1, if_pos hk2, if_pos (by rw [t1, t2]; rfl), if_neg (by rw [hgd, hlo]; simp [hy])]
                have hl : applyL s p.l x = p.l.set i x.node := by unfold applyL; rw [if_pos he, if_neg hk1, hpod, Int.toNat_natCast]
                rw [he, hl]
                clear he hl t1 t2 hk1 hk2 h0 ep hgd hy hx hlo hlv hb0 hnc
                clear hcl
                obtain ⟨xk, xp, xn⟩ := x
                obtain ⟨pa, pc, pl⟩ := p
                obtain ⟨⟨na, nc, nl⟩, ps, os⟩ := s
                simp only at hpod hpa hjn hna k1 k2 hi hj
                subst hpod hpa hjn hna
                simp only [Snap.val, Step.val, SL.val] at *
                go_enter Tryz.func18, Tryz.ntmps18
                go_wp2_with fail
                refine (calls_gr (HK.out _ (by repeat' (first | exact Below.refl _ _ | assumption | refine b_gr ?_ _ | refine b_alloc ?_ _ | refine b_drew ?_)))).mono ?_
                rintro e w1 ⟨rfl, g, rfl⟩
                clear HK
                go_wp2_with fail
                refine wp_region_gr (by kernel_rfl) (by kernel_rfl) ?_
                repeat (go_big_quiet_step ((first | fail)))
                refine wpQuiet_nil ?_
                intro g2
                go_wp2_with fail
                refine (HT1.out _).mono ?_
                rintro e w2 ⟨rfl, rfl⟩
                go_wp2_with fail
                refine (HT2.out _).mono ?_
                rintro e w3 ⟨rfl, rfl⟩
                go_wp2_with fail
                refine (HC.out _ (by repeat' (first | exact Below.refl _ _ | assumption | refine b_gr ?_ _ | refine b_alloc ?_ _ | refine b_drew ?_))).mono ?_
                rintro e w4 ⟨v', rfl, ho, hb4⟩
                have hbs := hb4.size
                obtain ⟨g4, rfl⟩ := to_gr ((gr_below _ _).trans (hb4.mono (size_gr _)))
                obtain ⟨gg, cap, cur, rfl, hbase, hblk, hcp, hcap, htk⟩ := row_blk ho (by omega)
                obtain ⟨y', hy'⟩ : ∃ y', pl[i]? = some y' := ⟨_, List.getElem?_eq_getElem hi⟩
                have d0 := blk_cell hblk htk hy'
                have z0 := hblk.frozen i
                have HBK := hide hblk
                have HTK := hide htk
                have HB := hide hb4
                clear htk hy' HC
                go_wp2_with fail
                go_ret2
                exact ⟨⟨some ⟨gg, 0, none⟩, cap, pl.set i (j : Int)⟩, rfl, (by show Ending.returned (.tuple #[.slice (some ⟨gg, 0, none⟩) pl.length cap, .int .i64 0]) = _; simp [SL.val]), ints_of_blk (hblk.set_ i _) (by rw [List.length_set]; exact hcp) hcap (by rw [List.length_set]; exact hpl) (take_set HTK.out i _), b_set (by repeat' (first | exact Below.refl _ _ | assumption | refine b_gr ?_ _ | refine b_alloc ?_ _ | refine b_drew ?_)) (Nat.le_trans (show w.heap.size ≤ _ from Below.size (B := w.heap.size) (by repeat' (first | exact Below.refl _ _ | assumption | refine b_gr ?_ _ | refine b_alloc ?_ _ | refine b_drew ?_))) hbase) _⟩
            · have y1 : (y == -1) = false := beq_eq_false_iff_ne.2 hy
              have he : applyE s p.l x = 110 := by unfold applyE; rw [if_neg ep, if_neg hk1, if_pos hk2, if_pos (by rw [t1, t2]; rfl), if_pos (.inl (by rw [hgd]; exact hy))]
              have hl : applyL s p.l x = [] := if_neg (by rw [he]; decide)
              rw [he, hl]
              clear he hl t1 t2 hk1 hk2 h0 ep HC hgd hy hx hcl hlo hlv hb0 hnc c9
              obtain ⟨xk, xp, xn⟩ := x
              obtain ⟨pa, pc, pl⟩ := p
              obtain ⟨⟨na, nc, nl⟩, ps, os⟩ := s
              simp only at hpod hpa hjn hna k1 k2 hi hj
              subst hpod hpa hjn hna
              simp only [Snap.val, Step.val, SL.val] at *
              go_enter Tryz.func18, Tryz.ntmps18
              go_wp2_with fail
              refine (calls_gr (HK.out _ (by repeat' (first | exact Below.refl _ _ | assumption | refine b_gr ?_ _ | refine b_alloc ?_ _ | refine b_drew ?_)))).mono ?_
              rintro e w1 ⟨rfl, g, rfl⟩
              clear HK
              go_wp2_with fail
              refine wp_region_gr (by kernel_rfl) (by kernel_rfl) ?_
              repeat (go_big_quiet_step ((first | fail)))
              refine wpQuiet_nil ?_
              intro g2
              go_wp2_with fail
              refine (HT1.out _).mono ?_
              rintro e w2 ⟨rfl, rfl⟩
              go_wp2_with fail
              refine (HT2.out _).mono ?_
              rintro e w3 ⟨rfl, rfl⟩
              go_wp2_with fail
              go_ret2
              exact gives_nil (by repeat' (first | exact Below.refl _ _ | assumption | refine b_gr ?_ _ | refine b_alloc ?_ _ | refine b_drew ?_))
      · have he : applyE s p.l x = 2 := by unfold applyE; rw [if_neg ep, if_neg hk1, if_neg hk2]
        have hl : applyL s p.l x = [] := if_neg (by rw [he]; decide)
        rw [he, hl]
        have k2 : (x.kind == 2) = false := beq_eq_false_iff_ne.2 hk2
        clear he hl hk1 hk2 h0 ep hnode hcell HC
        simp only [Snap.val, Step.val, SL.val] at *
        go_enter Tryz.func18, Tryz.ntmps18
        go_wp2_with fail
        refine (calls_gr (HK.out _ (by repeat' (first | exact Below.refl _ _ | assumption | refine b_gr ?_ _ | refine b_alloc ?_ _ | refine b_drew ?_)))).mono ?_
        rintro e w1 ⟨rfl, g, rfl⟩
        clear HK
        go_wp2_with fail
        go_ret2
        exact gives_nil (by repeat' (first | exact Below.refl _ _ | assumption | refine b_gr ?_ _ | refine b_alloc ?_ _ | refine b_drew ?_))
  · have he : applyE s p.l x = placeCheck s p.l := if_pos h0
    have hl : applyL s p.l x = [] := if_neg (by rw [he]; exact h0)
    rw [he, hl]
    have hb : (placeCheck s p.l != 0) = true := by simpa using h0
    clear he hl h0
    generalize placeCheck s p.l = e0 at *
    simp only [Snap.val, Step.val, SL.val] at *
    go_enter Tryz.func18, Tryz.ntmps18
    go_wp2_with (go_at_call 17; refine (calls_gr (HK.out _ (by repeat' (first | exact Below.refl _ _ | assumption | refine b_gr ?_ _ | refine b_alloc ?_ _ | refine b_drew ?_)))).mono ?_; rintro e w1 ⟨rfl, g, rfl⟩)
    go_ret2
    exact gives_nil (by repeat' (first | exact Below.refl _ _ | assumption | refine b_gr ?_ _ | refine b_alloc ?_ _ | refine b_drew ?_))
end Go.Proofs.YtnjjdilmaepokaaGreat
namespace Go.Proofs.YtnjjdilmaepokaaGreat
open Go.RowKit
def domV (n : Node) (key : ByteArray) : Option ByteArray := if n.lost then none else getL n.labels.l key
theorem val1_ok (x : Label) (key : ByteArray) (k : Nat) (w : World) (ik : LtB k w.heap.size) (hk : w.cell? ⟨k, 0, none⟩ = some (.string key)) : Calls Tryz.prog 155 #[x.val, .pointer (some ⟨k, 0, none⟩)] w (Gives (.bool (seq x.key key)) w) := by
  simp only [Label.val]
  go_enter Tryz.func155, Tryz.ntmps155
  go_wp2
  go_ret
  exact ⟨by rw [← seq_w]; rfl, b_alloc (Below.refl _ _) _⟩
set_option maxHeartbeats 1000000 in
theorem value'_ok (n : Node) (key : ByteArray) (w : World) (hs : Labels w n.labels) : Calls Tryz.prog 130 #[n.val, .string key] w (Gives (getVal (domV n key)) w) := by
  have HI := hide (fun W (hW : Below w.heap.size w W) (hb : Blk W (w.heap.size + 1) 9 #[.string key]) => IndexFunc_Label n.labels (fun x => seq x.key key) 155 #[.pointer (some ⟨w.heap.size + 1, 0, none⟩)] (enters_of Tryz.func155 (by kernel_rfl) rfl) W (hs.below hW) (fun G x _ => val1_ok x key (w.heap.size + 1) _ ((hb.gr G).ltb) ((hb.gr G).cell 0)))
  change Hid (∀ W (hW : Below w.heap.size w W) (hb : Blk W (w.heap.size + 1) 9 #[.string key]), Calls _ _ _ W (Gives (.int .i64 (getIdx n.labels.l key)) W)) at HI
  have hr := idxOf_range (fun x => seq x.key key) n.labels.l
  change -1 ≤ getIdx n.labels.l key ∧ getIdx n.labels.l key < n.labels.l.length at hr
  have hl : n.labels.l.length ≤ 140737488351232 := hs.big
  have hc := hide hs.cell
  clear hs
  by_cases h : getIdx n.labels.l key < 0
  · have hn : domV n key = none := by unfold domV; rw [getIdx_none h]; exact ite_self _
    rw [hn]
    have e1 := decide_eq_true h
    generalize getIdx n.labels.l key = i0 at *
    obtain ⟨name, cap, ⟨a, c, l⟩, taints, cordon, lost⟩ := n
    simp only [Node.val, SL.val] at *
    clear hn
    cases lost
    all_goals
      go_enter Tryz.func130, Tryz.ntmps130
      go_wp2_with fail
      refine (calls_gr (HI.out _ (by repeat' (first | exact Below.refl _ _ | assumption | refine b_gr ?_ _ | refine b_alloc ?_ _ | refine b_drew ?_)) (Blk.at_ _ _ _ _ (by simp)))).mono ?_
      rintro e w1 ⟨rfl, g, rfl⟩
      clear HI
      go_wp2_with fail
      go_ret2
      exact ⟨rfl, (by repeat' (first | exact Below.refl _ _ | assumption | refine b_gr ?_ _ | refine b_alloc ?_ _ | refine b_drew ?_))⟩
  · obtain ⟨k, x, hk, hx, hg⟩ := getIdx_some h
    rw [hk] at HI
    obtain ⟨name, cap, ⟨a, c, l⟩, taints, cordon, lost⟩ := n
    simp only at hk hx hg hl hr
    have hkl : k < l.length := (List.getElem?_eq_some_iff.1 hx).1
    obtain ⟨b, off, ha, hb0, hcell⟩ := hc.out k x hx
    simp only at ha
    subst ha
    have ib : LtB b w.heap.size := ⟨hb0⟩
    have c1 := hcell 1 _ rfl
    simp only [Node.val, SL.val] at *
    cases lost
    · have hn : domV ⟨name, cap, ⟨some ⟨b, off, none⟩, c, l⟩, taints, cordon, false⟩ key = some x.value := by unfold domV; rw [if_neg (by simp)]; exact hg
      rw [hn]
      clear hn hb0 hcell hk hg hx h hr hc
      go_enter Tryz.func130, Tryz.ntmps130
      go_wp2_with fail
      refine (calls_gr (HI.out _ (by repeat' (first | exact Below.refl _ _ | assumption | refine b_gr ?_ _ | refine b_alloc ?_ _ | refine b_drew ?_)) (Blk.at_ _ _ _ _ (by simp)))).mono ?_
      rintro e w1 ⟨rfl, g, rfl⟩
      clear HI
      go_wp2_with fail
      go_ret2
      exact ⟨rfl, (by repeat' (first | exact Below.refl _ _ | assumption | refine b_gr ?_ _ | refine b_alloc ?_ _ | refine b_drew ?_))⟩
    · have hn : domV ⟨name, cap, ⟨some ⟨b, off, none⟩, c, l⟩, taints, cordon, true⟩ key = none := by unfold domV; rw [if_pos rfl]
      rw [hn]
      clear hn hb0 hcell hk hg hx h hr hc
      go_enter Tryz.func130, Tryz.ntmps130
      go_wp2_with fail
      refine (calls_gr (HI.out _ (by repeat' (first | exact Below.refl _ _ | assumption | refine b_gr ?_ _ | refine b_alloc ?_ _ | refine b_drew ?_)) (Blk.at_ _ _ _ _ (by simp)))).mono ?_
      rintro e w1 ⟨rfl, g, rfl⟩
      clear HI
      go_wp2_with fail
      go_ret2
      exact ⟨rfl, (by repeat' (first | exact Below.refl _ _ | assumption | refine b_gr ?_ _ | refine b_alloc ?_ _ | refine b_drew ?_))⟩
theorem snapZero_of {s : Snap} {p : List Int} (h : placeCheck s p = 0) : snapCheck s = 0 := by
  unfold placeCheck at h
  split at h
  · assumption
  · rename_i h'; exact absurd h h'
/-- A cluster that may be: Domain at one of its nodes. -/
theorem domain_ok (s : Snap) (i : Nat) (key : ByteArray) (n : Node) (w : World) (hs : s.At w) (h0 : snapCheck s = 0) (hi : s.nodes.l[i]? = some n) : Calls Tryz.prog 163 #[s.val, .int .i64 (i : Int), .string key] w (Gives (getVal (domV n key)) w) := by
  have HS := hide (fun W hW => snapCheck_ok s W (hs.below hW))
  have HV := hide (fun W hW => value'_ok n key W ((hs.node n (List.mem_of_getElem? hi)).below hW).labels)
  rw [h0] at HS
  have hil : i < s.nodes.l.length := (List.getElem?_eq_some_iff.1 hi).1
  have HT := hide (fun W => there_ok (i : Int) s.nodes.l.length W)
  rw [show (decide (0 ≤ (i : Int)) && decide ((i : Int) < s.nodes.l.length)) = true by simp; exact hil] at HT
  obtain ⟨b, off, ha, hb0, hcell⟩ := hs.nodes.cell i n hi
  have ib : LtB b w.heap.size := ⟨hb0⟩
  have hnl := hs.nodes.big
  have c0 : w.cell? ⟨b, off + i * 10, none⟩ = some _ := hcell 0 _ rfl
  have c1 := hcell 1 _ rfl
  have c2 := hcell 2 _ rfl
  have c3 := hcell 3 _ rfl
  have c4 := hcell 4 _ rfl
  have c5 := hcell 5 _ rfl
  have c6 := hcell 6 _ rfl
  have c7 := hcell 7 _ rfl
  have c8 := hcell 8 _ rfl
  have c9 := hcell 9 _ rfl
  generalize domV n key = dv at *
  unfold getVal at *
  generalize dv.getD ⟨#[]⟩ = d1 at *
  generalize dv.isSome = d2 at *
  clear hs hi hcell hb0 h0
  obtain ⟨⟨na, nc, nl⟩, ps, os⟩ := s
  simp only at ha hil hnl
  subst ha
  simp only [Snap.val, Node.val] at *
  go_enter Tryz.func163, Tryz.ntmps163
  go_wp2_with fail
  refine (calls_gr (HS.out _ (by repeat' (first | exact Below.refl _ _ | assumption | refine b_gr ?_ _ | refine b_alloc ?_ _ | refine b_drew ?_)))).mono ?_
  rintro e w1 ⟨rfl, g, rfl⟩
  clear HS
  go_wp2_with fail
  refine (HT.out _).mono ?_
  rintro e w2 ⟨rfl, rfl⟩
  clear HT
  go_wp2_with fail
  refine (calls_gr (HV.out _ (by repeat' (first | exact Below.refl _ _ | assumption | refine b_gr ?_ _ | refine b_alloc ?_ _ | refine b_drew ?_)))).mono ?_
  rintro e w1 ⟨rfl, g2, rfl⟩
  clear HV
  go_wp2_with fail
  go_ret2
  exact ⟨rfl, (by repeat' (first | exact Below.refl _ _ | assumption | refine b_gr ?_ _ | refine b_alloc ?_ _ | refine b_drew ?_))⟩
def askedB (s : Snap) (p : List Int) (o : Int) : Bool := placeCheck s p == 0 && (decide (0 ≤ o) && decide (o < s.owners.l.length))
theorem asked_ok (s : Snap) (p : SL Int) (o : Int) (w : World) (hs : s.At w) (hp : Ints w p) : Calls Tryz.prog 127 #[s.val, p.val, .int .i64 o] w (Gives (.bool (askedB s p.l o)) w) := by
  have HS := hide (fun W hW => placeCheck_ok s p W (hs.below hW) (hp.below hW))
  have HT := hide (fun W => there_ok o s.owners.l.length W)
  unfold askedB
  clear hs hp
  generalize (decide (0 ≤ o) && decide (o < s.owners.l.length)) = t0 at *
  by_cases h0 : placeCheck s p.l = 0
  · rw [h0] at HS ⊢
    clear h0
    simp only [Snap.val, SL.val] at *
    go_enter Tryz.func127, Tryz.ntmps127
    go_wp2_with fail
    refine (calls_gr (HS.out _ (by repeat' (first | exact Below.refl _ _ | assumption | refine b_gr ?_ _ | refine b_alloc ?_ _ | refine b_drew ?_)))).mono ?_
    rintro e w1 ⟨rfl, g, rfl⟩
    clear HS
    go_wp2_with fail
    refine (HT.out _).mono ?_
    rintro e w2 ⟨rfl, rfl⟩
    clear HT
    go_wp2_with fail
    go_ret
    exact ⟨rfl, (by repeat' (first | exact Below.refl _ _ | assumption | refine b_gr ?_ _ | refine b_alloc ?_ _ | refine b_drew ?_))⟩
  · have e0 := beq_eq_false_iff_ne.2 h0
    rw [e0]
    clear h0
    generalize placeCheck s p.l = e at *
    simp only [Snap.val, SL.val] at *
    go_enter Tryz.func127, Tryz.ntmps127
    go_wp2_with fail
    refine (calls_gr (HS.out _ (by repeat' (first | exact Below.refl _ _ | assumption | refine b_gr ?_ _ | refine b_alloc ?_ _ | refine b_drew ?_)))).mono ?_
    rintro e w1 ⟨rfl, g, rfl⟩
    clear HS
    go_wp2_with fail
    go_ret
    exact ⟨rfl, (by repeat' (first | exact Below.refl _ _ | assumption | refine b_gr ?_ _ | refine b_alloc ?_ _ | refine b_drew ?_))⟩
end Go.Proofs.YtnjjdilmaepokaaGreat
namespace Go.Proofs.YtnjjdilmaepokaaGreat
open Go.RowKit Go.Shelf

section
variable {F : Fence} {n : Nat} {P : Program} {ops : Array Oper} {md : Region.Mode} {C : World → Prop}
/-- A fence that lets all through. -/
structure Open' (F : Fence) : Prop where
  fn : ∀ f, F.fn f
  depth : F.depth = none
  calls : ∀ {n : Nat} {P : Program} {f : FuncId} {args : Array Value} {w : World} {R : Ending → World → Prop}, Calls P f args w R → CallsIn F n P f args w R
theorem openWide : Open' Fence.wide := ⟨fun _ => trivial, rfl, fun h => callsIn_wide.2 h⟩
theorem openRound (l : Nat) : Open' (Fence.wide.inRound l) := ⟨fun _ => trivial, rfl, fun h => CallsIn.inRound l (callsIn_wide.2 h)⟩
def noDefer (ops : Array Oper) : Bool := ops.toList.all fun o => match o.op with | .defer _ => false | _ => true
theorem noDefer_at {i : Nat} {o : Oper} (h : noDefer ops = true) (hi : ops[i]? = some o) : ∀ c, o.op ≠ .defer c := by
  intro c hc
  unfold noDefer at h
  rw [List.all_eq_true] at h
  have := h o (by rw [← Array.getElem?_toList] at hi; exact List.mem_of_getElem? hi)
  rw [hc] at this
  cases this
theorem wpInOp_of_quiet (hF : Open' F) {o : Oper} {a : Act} {K : Act → Prop} {K' : Act → World → Prop} {Q' : Exit → Act → World → Prop} {w : World} (hnd : ∀ c, o.op ≠ .defer c) (hw : C w) (h : ∀ a w', C w' → K a → K' a w')
    (hh : o.quiet P a C K) : o.wpIn F n P a w K' Q' := by
  obtain ⟨v, h1, h2⟩ := hh
  have h3 := h1 w hw
  unfold Oper.quietAt at h3
  unfold Oper.wpIn
  refine ⟨fun f _ => hF.fn f, ?_⟩
  rw [Oper.semAt_eq _ _ _ hnd]
  generalize (execOp a.eval o).run P w = r at *
  cases r with
  | ok x w' =>
    cases x <;> simp only [Oper.quietUpon] at h3 <;> simp only [Oper.uponIn]
    case value u =>
      obtain ⟨e1, e2⟩ := h3
      rw [e1, e2]
      exact h _ _ hw h2
    case skip =>
      obtain ⟨e1, e2⟩ := h3
      rw [e1, ← e2]
      exact h _ _ hw h2
    case enter f args =>
      obtain ⟨e1, hc⟩ := h3
      rw [e1]
      exact ⟨fun hd => (by rw [hF.depth] at hd; cases hd), hF.calls (hc.mono fun e w'' ⟨he, hw''⟩ => by subst he; exact h _ _ hw'' h2)⟩
  | halt x w' => simp only [Oper.quietUpon] at h3
theorem wpInOp_of_qOp (hF : Open' F) (hnd : noDefer ops = true) {i : Nat} {a : Act} {K : Act → Prop} {K' : Act → World → Prop} {Q' : Exit → Act → World → Prop} {w : World} (hC : C w) (h : ∀ a w', C w' → K a → K' a w')
    (hh : qOp P ops C i K a) : wpOpIn F n P ops Q' i K' a w := by
  unfold qOp at hh
  unfold wpOpIn
  split
  · rename_i ho; simp only [ho] at hh; exact h _ _ hC hh
  · rename_i o ho
    simp only [ho] at hh
    split
    · rename_i hw; simp only [hw, if_true] at hh; exact wpInOp_of_quiet hF (noDefer_at hnd ho) hC h hh
    · rename_i hw; simp only [hw] at hh; exact ⟨fun f _ => hF.fn f, h _ _ hC hh⟩
theorem wpAnyIn_of_q (hF : Open' F) (hnd : noDefer ops = true) {Q : Act → Prop} {Q' : Exit → Act → World → Prop} (hQ : ∀ a w, C w → Q a → Q' .normal a w) : ∀ (fuel : Nat) (listed : Array Bool) (a : Act) (w : World), C w →
    wpAnyQ P md ops C Q fuel listed a → wpAnyIn F n P md ops Q' fuel listed a w
  | 0, _, _, _, hw, h => ⟨h.1, hQ _ _ hw h.2⟩
  | fuel + 1, _, _, _, hw, h => ⟨fun h0 => hQ _ _ hw (h.1 h0), fun i hi => wpInOp_of_qOp hF hnd hw (fun a' w' hw' => wpAnyIn_of_q hF hnd hQ fuel _ a' w' hw') (h.2 i hi)⟩
theorem wpAnyIn_of_headC (hF : Open' F) (hnd : noDefer ops = true) {m g : Nat} {L : Array Bool → Act → Prop} {Q' : Exit → Act → World → Prop} (hL : ∀ listed a w, C w → L listed a → wpAnyIn F n P md ops Q' g listed a w) :
    ∀ (f : Nat) (listed : Array Bool) (a : Act) (w : World), C w → wpAnyLC P md ops C m L f listed a → wpAnyIn F n P md ops Q' (f + g) listed a w
  | 0, listed, a, w, hw, h => by rw [Nat.zero_add]; exact hL _ _ _ hw h
  | f + 1, listed, a, w, hw, h => by
    rw [show f + 1 + g = (f + g) + 1 by omega]
    exact ⟨fun h0 => absurd h0 h.1, fun i hi => wpInOp_of_qOp hF hnd hw (fun a' w' hw' h' => wpAnyIn_of_headC hF hnd hL f _ a' w' hw' h') (h.2 i hi).2⟩
theorem wpAnyIn_of_seq {Q' : Exit → Act → World → Prop} : ∀ (l : List Oper) (k : Nat) (listed : Array Bool) (a : Act) (w : World), (∀ j, l[j]? = ops[k + j]?) →
    Region.seqB md ops l.length k listed = true → wpListIn F n P ops Q' l a w → wpAnyIn F n P md ops Q' l.length listed a w
  | [], _, _, _, _, _, hB, h => ⟨by simpa [Region.seqB] using hB, h⟩
  | o :: l, k, listed, a, w, hl, hB, h => by
    have h0 : ops[k]? = some o := by simpa using (hl 0).symm
    simp only [List.length_cons, Region.seqB, Bool.and_eq_true, decide_eq_true_eq] at hB
    refine ⟨fun h1 => (by rw [hB.1] at h1; cases h1), fun i hi => ?_⟩
    rw [hB.1] at hi
    have hik : i = k := by simpa using hi
    subst hik
    have hw : wpOpIn F n P ops Q' i (wpListIn F n P ops Q' l) a w := by unfold wpOpIn; simp only [h0]; exact h
    exact wpOpIn_mono (fun a' w' h' => wpAnyIn_of_seq l (i + 1) _ a' w' (fun j => by have := hl (j + 1); simpa [Nat.add_assoc, Nat.add_comm 1 j] using this) hB.2 h') hw
/-- All quiet, inside the fence. -/
theorem wpIn_region_gr (hF : Open' F) {id : Nat} {Q : Exit → Act → World → Prop} {a : Act} {w : World} {l : List Oper} (hm : P.follows .mixedOrders = true) (hB : (Region.lexB .any l.toArray && noDefer l.toArray) = true)
    (h : wpQuiet P l.toArray (fun w' => ∃ g : Grw w, w' = gr w g) (fun a' => ∀ g : Grw w, Q .normal a' (gr w g)) l a) : (Code.region id l.toArray true).wpIn F n P Q a w := by
  simp only [Bool.and_eq_true, Region.lexB] at hB
  refine wpIn_region_any hm (wpAnyIn_of_q (C := fun w' => ∃ g : Grw w, w' = gr w g) (Q := fun a' => ∀ g : Grw w, Q .normal a' (gr w g)) hF hB.2 (fun a' w' ⟨g, hg⟩ h => hg ▸ h g) _ _ _ _ (to_gr ⟨rfl, rfl, rfl, Nat.le_refl _, fun _ _ => rfl⟩) ?_)
  have := wpAnyQ_lex (P := P) (C := fun w' => ∃ g : Grw w, w' = gr w g) (md := .any) hB.1.1 l 0 (Array.replicate l.toArray.size false) a (by simp) (by simpa using hB.1.2) h
  simpa using this
/-- The head quiet, the tail in order, inside the fence. -/
theorem wpIn_region_gr_tail (hF : Open' F) {id : Nat} {Q : Exit → Act → World → Prop} {a : Act} {w : World} {l : List Oper} (m : Nat) (hm : P.follows .mixedOrders = true) (hB : (Region.lexTailB .any l.toArray m && noDefer l.toArray) = true)
    (h : wpQuiet P l.toArray (fun w' => ∃ g : Grw w, w' = gr w g) (fun a' => ∀ g : Grw w, wpListIn F n P l.toArray Q (l.drop m) a' (gr w g)) (l.take m) a) : (Code.region id l.toArray true).wpIn F n P Q a w := by
  simp only [Bool.and_eq_true, Region.lexTailB, decide_eq_true_eq] at hB
  obtain ⟨⟨⟨⟨⟨hsel, hn⟩, hs⟩, hc⟩, hlex⟩, hnd⟩ := hB
  have hn' : m < l.length := by simpa using hn
  have htl : (l.take m).length = m := by simp; omega
  have hdl : (l.drop m).length = l.toArray.size - m := by simp
  have inv0 : HeadInv .any l.toArray m (Array.replicate l.toArray.size false) :=
    ⟨by simp, fun j oj _ hl => (by rw [getD_replicate_false] at hl; cases hl), fun t _ ht => getD_in (by simpa using ht) (getD_replicate_false _ _)⟩
  have H := wpAnyLC_lex (md := .any) (C := fun w' => ∃ g : Grw w, w' = gr w g) (g := l.toArray.size - m) hsel hs hc hn (l.take m) 0 _ a (fun j hj => by
    have hj' : j < m := by rw [htl] at hj; exact hj
    simp [hj']) (by simpa using htl) inv0 (by rw [htl]; exact hlex) h
  refine wpIn_region_any hm ?_
  have := wpAnyIn_of_headC (F := F) (n := n) (Q' := Q) (C := fun w' => ∃ g : Grw w, w' = gr w g) (g := l.toArray.size - m) hF hnd (fun listed a' w' hw' hL => by
    obtain ⟨g, rfl⟩ := hw'
    have := wpAnyIn_of_seq (F := F) (n := n) (md := .any) (Q' := Q) (l.drop m) m listed a' (gr w g) (fun j => by simp [List.getElem?_drop]) (by rw [hdl]; exact hL.1) (hL.2 g)
    rwa [hdl] at this) _ _ _ { w with drawn := w.drawn + 1 } (to_gr ⟨rfl, rfl, rfl, Nat.le_refl _, fun _ _ => rfl⟩) H
  rw [htl, show m + (l.toArray.size - m) = l.toArray.size by omega] at this
  exact this
end
end Go.Proofs.YtnjjdilmaepokaaGreat
namespace Go.Proofs.YtnjjdilmaepokaaGreat
open Go.RowKit Go.Shelf
attribute [local go_sem] Oper.semAt_some
/-- What a round must keep: all that lay ahead of the call, and the three boxes. -/
def KpI (B c : Nat) (W W' : World) : Prop := Below B W W' ∧ ∀ b, c ≤ b → b < c + 3 → W'.heap[b]? = W.heap[b]?
theorem KpI.trans {B c : Nat} {X Y Z : World} (h : KpI B c X Y) (k : KpI B c Y Z) : KpI B c X Z := ⟨h.1.trans k.1, fun b h1 h2 => (k.2 b h1 h2).trans (h.2 b h1 h2)⟩
theorem KpI.book {B c : Nat} {w : World} (hB : B ≤ w.heap.size) (hc : c + 3 ≤ w.heap.size) (W : World) (l : Nat) (o o' : Obj) (hl : w.heap.size ≤ l) (h : W.heap[l]? = some o) (h1 : o.isCells = false) (h2 : o.isWalk = false) : KpI B c W (W.putObj l o') :=
  ⟨belowK_b hB W l o o' hl h h1 h2, fun b _ hb => World.putObj_heap_other (by omega)⟩
structure Box3 (W : World) (c : Nat) (s : Snap) (p : SL Int) (o : Int) : Prop where
  s : Blk W c 26 #[.slice s.nodes.a s.nodes.l.length s.nodes.c, .slice s.pods.a s.pods.l.length s.pods.c, .slice s.owners.a s.owners.l.length s.owners.c]
  p : Blk W (c + 1) 44 #[p.val]
  o : Blk W (c + 2) 3 #[.int .i64 o]
theorem Box3.kp {B c : Nat} {W W' : World} {s : Snap} {p : SL Int} {o : Int} (h : Box3 W c s p o) (k : KpI B c W W') : Box3 W' c s p o :=
  ⟨(k.2 _ (by omega) (by omega)).trans h.s, (k.2 _ (by omega) (by omega)).trans h.p, (k.2 _ (by omega) (by omega)).trans h.o⟩
theorem Box3.gr {c : Nat} {W : World} {s : Snap} {p : SL Int} {o : Int} (h : Box3 W c s p o) (g : Grw W) : Box3 (gr W g) c s p o := ⟨h.s.gr g, h.p.gr g, h.o.gr g⟩
theorem Box3.below {B c : Nat} {W W' : World} {s : Snap} {p : SL Int} {o : Int} (h : Box3 W c s p o) (hb : Below B W W') (hB : W.heap.size ≤ B) : Box3 W' c s p o :=
  ⟨h.s.below hb (Nat.lt_of_lt_of_le h.s.lt hB), h.p.below hb (Nat.lt_of_lt_of_le h.p.lt hB), h.o.below hb (Nat.lt_of_lt_of_le h.o.lt hB)⟩
def onTo (ps : List Pod) (p : List Int) (node : Int) (k : Nat) : List Pod := (((p.zip ps).take k).filter fun x => x.1 == node).map fun x => x.2
def onAll (ps : List Pod) (p : List Int) (node : Int) : List Pod := ((p.zip ps).filter fun x => x.1 == node).map fun x => x.2
theorem zip_at {p : List Int} {ps : List Pod} {k : Nat} {x : Int} {y : Pod} (hx : p[k]? = some x) (hy : ps[k]? = some y) : (p.zip ps)[k]? = some (x, y) := by
  rw [List.getElem?_zip_eq_some]; exact ⟨hx, hy⟩
theorem onTo_yes {p : List Int} {ps : List Pod} {node : Int} {k : Nat} {x : Int} {y : Pod} (hx : p[k]? = some x) (hy : ps[k]? = some y) (h : (x == node) = true) : onTo ps p node (k + 1) = onTo ps p node k ++ [y] := by
  unfold onTo
  rw [List.take_add_one, zip_at hx hy]
  simp only [Option.toList_some, List.filter_append, List.map_append, List.filter_cons, h, if_true, List.filter_nil, List.map_cons, List.map_nil]
theorem onTo_no {p : List Int} {ps : List Pod} {node : Int} {k : Nat} {x : Int} {y : Pod} (hx : p[k]? = some x) (hy : ps[k]? = some y) (h : (x == node) = false) : onTo ps p node (k + 1) = onTo ps p node k := by
  unfold onTo
  rw [List.take_add_one, zip_at hx hy]
  simp only [Option.toList_some, List.filter_append, List.map_append, List.filter_cons, h, Bool.false_eq_true, if_false, List.filter_nil, List.map_nil, List.append_nil]
theorem onTo_len {p : List Int} {ps : List Pod} {node : Int} {k : Nat} : (onTo ps p node k).length ≤ k := by
  unfold onTo
  rw [List.length_map]
  exact Nat.le_trans (List.length_filter_le _ _) (by rw [List.length_take]; omega)
theorem onTo_all {p : List Int} {ps : List Pod} {node : Int} (h : p.length = ps.length) : onTo ps p node p.length = onAll ps p node := by
  unfold onTo onAll
  rw [List.take_of_length_le (by rw [List.length_zip]; omega)]
set_option maxRecDepth 100000 in
set_option maxHeartbeats 2000000 in
theorem on1_in (m : Nat) (hm : 1 ≤ m) (s : Snap) (p : SL Int) (node : Int) (w : World) (hs : s.At w) (hp : Ints w p) (hlen : p.l.length = s.pods.l.length) (l c : Nat) (J Jx : List Pod → World → Prop)
    (hY : ∀ pre (x : Pod) W, J pre W → pre.length < p.l.length → YieldAt Fence.wide (m - 1) Tryz.prog l #[x.val] W fun e W' =>
      (e = .returned (.bool true) ∧ J (pre ++ [x]) W' ∧ KpI w.heap.size c W W') ∨ (e = .returned (.bool false) ∧ Jx (pre ++ [x]) W'))
    (W : World) (hW : Below w.heap.size w W) (hb : Box3 W c s p node) (h0 : J [] W) :
    CallsIn Fence.wide m Tryz.prog 111 #[.func (.yield l) #[] #[], .pointer (some ⟨c + 1, 0, none⟩), .pointer (some ⟨c + 2, 0, none⟩), .pointer (some ⟨c, 0, none⟩)] W fun e W' => (∃ v, e = .returned v) ∧
      ((∃ ys, ys = onAll s.pods.l p.l node ∧ J ys W') ∨ (∃ pre, True ∧ Jx pre W')) := by
  have hcell := hide hp.cell
  have hpod := hide hs.pods.cell
  have hpl := hp.big
  clear hs hp
  obtain ⟨G0, rfl⟩ := to_gr hW
  clear hW
  obtain ⟨pa, pc, pl⟩ := p
  obtain ⟨ns, ⟨qa, qc, ql⟩, os⟩ := s
  have b1 := hb.p.cell 0
  simp only [SL.val] at *
  refine callsIn_of_wp Tryz.func111 rfl trivial ?_ rfl
  simp only [Tryz.ntmps111, List.size_toArray, List.length_cons, List.length_nil, Nat.reduceAdd, Nat.reduceSub, Array.replicate_succ, Array.replicate_zero, List.push_toArray, List.append_toArray, List.nil_append, List.cons_append]
  gi_wp2
  gi_loopw [9] (fun i wr => ∃ k : Nat, k ≤ pl.length ∧ i = .int .i64 k ∧ (∃ G : Grw w, wr = gr w G) ∧ Hid (J (onTo ql pl node k) wr) ∧ Box3 wr c ⟨ns, ⟨qa, qc, ql⟩, os⟩ ⟨pa, pc, pl⟩ node) (fun i _ => pl.length - (intOf i).toNat)
  case atStart => exact ⟨0, Nat.zero_le _, rfl, ⟨G0, rfl⟩, h0, hb⟩
  case round =>
    obtain ⟨k, hk, rfl, ⟨G, rfl⟩, hJs, hB⟩ := hrel
    clear h0 hb b1
    by_cases hlt : k < pl.length
    · have hx : pl[k]? = some pl[k] := List.getElem?_eq_getElem hlt
      obtain ⟨b, off, rfl, hb0, hcl⟩ := hcell.out k _ hx
      have ib : LtB b w.heap.size := ⟨hb0⟩
      generalize pl[k] = x at *
      have c0 : w.cell? ⟨b, off + k, none⟩ = some (.int .i64 x) := by have h := hcl 0 _ rfl; simpa using h
      have hql : k < ql.length := by omega
      have hy' : ql[k]? = some ql[k] := List.getElem?_eq_getElem hql
      obtain ⟨b2, off2, hqa, hb2, hcl2⟩ := hpod.out k _ hy'
      try simp only at hqa
      subst hqa
      have ib2 : LtB b2 w.heap.size := ⟨hb2⟩
      generalize ql[k] = y at *
      have n1 := hB.o.cell 0
      have n2 := hB.s.cell 1
      have d0 : w.cell? ⟨b2, off2 + k * 15, none⟩ = some _ := hcl2 0 _ rfl
      have d1 := hcl2 1 _ rfl
      have d2 := hcl2 2 _ rfl
      have d3 := hcl2 3 _ rfl
      have d4 := hcl2 4 _ rfl
      have d5 := hcl2 5 _ rfl
      have d6 := hcl2 6 _ rfl
      have d7 := hcl2 7 _ rfl
      have d8 := hcl2 8 _ rfl
      have d9 := hcl2 9 _ rfl
      have d10 := hcl2 10 _ rfl
      have d11 := hcl2 11 _ rfl
      have d12 := hcl2 12 _ rfl
      have d13 := hcl2 13 _ rfl
      have d14 := hcl2 14 _ rfl
      clear hcl hcl2 hb0 hb2
      cases hx1 : (x == node) with
      | true =>
        have hT := hide (onTo_yes hx hy' hx1)
        obtain ⟨fn, tmps, assign, body, hy, hR⟩ := hY _ y _ hJs.out (Nat.lt_of_le_of_lt onTo_len hlt)
        dsimp only [Pod.val] at hy
        have Hx := hide hx
        clear hx hy'
        gi_wp2
        refine hR.mono ?_
        rintro e W3 (⟨rfl, hJ3, hk3⟩ | ⟨rfl, hJx3⟩)
        · have hB3 := hB.kp hk3
          obtain ⟨G3, rfl⟩ := to_gr ((gr_below w G).trans hk3.1)
          gi_wp2
          go_roundw
          case rel => exact ⟨k + 1, by omega, by simp, ⟨G3, rfl⟩, (show J _ _ by rw [hT.out]; exact hJ3), hB3⟩
          case measure => simp [intOf]; omega
        · gi_wp2
          refine bodyPost_ret (results_none rfl _ _ _) rfl ?_
          exact ⟨⟨_, rfl⟩, .inr ⟨_, trivial, hJx3⟩⟩
      | false =>
        have hT := hide (onTo_no hx hy' hx1)
        have Hx := hide hx
        clear hx hy' d0 d1 d2 d3 d4 d5 d6 d7 d8 d9 d10 d11 d12 d13 d14
        gi_wp2
        refine ⟨fun _ h => (by cases h), ?_⟩
        gi_wp2
        go_roundw
        case rel => exact ⟨k + 1, by omega, by simp, ⟨G, rfl⟩, (show J _ _ by rw [hT.out]; exact hJs), hB⟩
        case measure => simp [intOf]; omega
    · obtain rfl : k = pl.length := by omega
      have hA := hide (onTo_all (node := node) hlen)
      gi_wp2
      go_end0
      exact ⟨⟨_, rfl⟩, .inl ⟨_, rfl, (show J _ _ by rw [← hA.out]; exact hJs)⟩⟩
end Go.Proofs.YtnjjdilmaepokaaGreat
namespace Go.Proofs.YtnjjdilmaepokaaGreat
open Go.RowKit Go.Shelf
attribute [local go_sem] Oper.semAt_some
def pickF (nm : ByteArray) (m : Nat) (x : Int × Pod) : Option (Fin m) := if h : 0 ≤ x.1 ∧ seq x.2.owner nm = true ∧ x.1.toNat < m then some ⟨x.1.toNat, h.2.2⟩ else none
def ownTo (nm : ByteArray) (m : Nat) (ps : List Pod) (p : List Int) (k : Nat) : List (Fin m) := ((p.zip ps).take k).filterMap (pickF nm m)
def ownAll (nm : ByteArray) (m : Nat) (ps : List Pod) (p : List Int) : List (Fin m) := (p.zip ps).filterMap (pickF nm m)
theorem ownTo_yes {nm : ByteArray} {m : Nat} {p : List Int} {ps : List Pod} {k : Nat} {y : Pod} {i : Fin m} (hx : p[k]? = some (i : Int)) (hy : ps[k]? = some y) (h : seq y.owner nm = true) : ownTo nm m ps p (k + 1) = ownTo nm m ps p k ++ [i] := by
  unfold ownTo
  rw [List.take_add_one, zip_at hx hy]
  have : pickF nm m ((i : Int), y) = some i := by
    unfold pickF
    rw [dif_pos ⟨by simp, h, by simp⟩]
    simp
  simp [List.filterMap_append, this]
theorem ownTo_no {nm : ByteArray} {m : Nat} {p : List Int} {ps : List Pod} {k : Nat} {x : Int} {y : Pod} (hx : p[k]? = some x) (hy : ps[k]? = some y) (h : x < 0 ∨ seq y.owner nm = false) : ownTo nm m ps p (k + 1) = ownTo nm m ps p k := by
  unfold ownTo
  rw [List.take_add_one, zip_at hx hy]
  have : pickF nm m (x, y) = none := by
    unfold pickF
    rw [dif_neg]
    rintro ⟨h1, h2, _⟩
    rcases h with h | h
    · simp only at h1; omega
    · simp only at h2; rw [h] at h2; cases h2
  simp [List.filterMap_append, this]
theorem ownTo_len {nm : ByteArray} {m : Nat} {p : List Int} {ps : List Pod} {k : Nat} : (ownTo nm m ps p k).length ≤ k := by
  unfold ownTo
  exact Nat.le_trans (List.length_filterMap_le _ _) (by rw [List.length_take]; omega)
theorem ownTo_all {nm : ByteArray} {m : Nat} {p : List Int} {ps : List Pod} (h : p.length = ps.length) : ownTo nm m ps p p.length = ownAll nm m ps p := by
  unfold ownTo ownAll
  rw [List.take_of_length_le (by rw [List.length_zip]; omega)]
set_option maxRecDepth 100000 in
set_option maxHeartbeats 2000000 in
theorem owned1_in (m : Nat) (hm : 1 ≤ m) (s : Snap) (p : SL Int) (o : Nat) (ow : Owner) (ho : s.owners.l[o]? = some ow) (w : World) (hs : s.At w) (hp : Ints w p) (hlen : p.l.length = s.pods.l.length) (hr : ∀ x ∈ p.l, x < (s.nodes.l.length : Int)) (l c : Nat) (J Jx : List (Fin s.nodes.l.length) → World → Prop)
    (hJa : ∀ pre X Y, J pre X → X.grownBy Y none → J pre Y)
    (hY : ∀ pre (x : Fin s.nodes.l.length) W, J pre W → pre.length < p.l.length → YieldAt Fence.wide (m - 1) Tryz.prog l #[.int .i64 (x : Int)] W fun e W' =>
      (e = .returned (.bool true) ∧ J (pre ++ [x]) W' ∧ KpI w.heap.size c W W') ∨ (e = .returned (.bool false) ∧ Jx (pre ++ [x]) W'))
    (W : World) (hW : Below w.heap.size w W) (hb : Box3 W c s p o) (h0 : J [] W) :
    CallsIn Fence.wide m Tryz.prog 151 #[.func (.yield l) #[] #[], .pointer (some ⟨c + 1, 0, none⟩), .pointer (some ⟨c, 0, none⟩), .pointer (some ⟨c + 2, 0, none⟩)] W fun e W' => (∃ v, e = .returned v) ∧
      ((∃ ys, ys = ownAll ow.name s.nodes.l.length s.pods.l p.l ∧ J ys W') ∨ (∃ pre, True ∧ Jx pre W')) := by
  have hcell := hide hp.cell
  have hpod := hide hs.pods.cell
  have hpl := hp.big
  have hol : o < s.owners.l.length := (List.getElem?_eq_some_iff.1 ho).1
  have hob := hs.owners.big
  obtain ⟨b3, off3, hoa, hb3, hcl3⟩ := hs.owners.cell o ow ho
  have ib3 : LtB b3 w.heap.size := ⟨hb3⟩
  have o0 : w.cell? ⟨b3, off3 + o * 5, none⟩ = some _ := hcl3 0 _ rfl
  clear hs hp ho hcl3 hb3
  have Hr := hide hr
  clear hr
  obtain ⟨G0, rfl⟩ := to_gr hW
  clear hW
  obtain ⟨pa, pc, pl⟩ := p
  obtain ⟨⟨na, nc, nl⟩, ⟨qa, qc, ql⟩, ⟨oa, oc, ol⟩⟩ := s
  simp only at hoa
  subst hoa
  have b1 := hb.p.cell 0
  simp only [SL.val] at *
  generalize hnl : nl.length = mm at *
  refine callsIn_of_wp Tryz.func151 rfl trivial ?_ rfl
  simp only [Tryz.ntmps151, List.size_toArray, List.length_cons, List.length_nil, Nat.reduceAdd, Nat.reduceSub, Array.replicate_succ, Array.replicate_zero, List.push_toArray, List.append_toArray, List.nil_append, List.cons_append]
  gi_wp2
  gi_loopw [9] (fun i wr => ∃ k : Nat, k ≤ pl.length ∧ i = .int .i64 k ∧ (∃ G : Grw w, wr = gr w G) ∧ Hid (J (ownTo ow.name mm ql pl k) wr) ∧ Box3 wr c ⟨⟨na, nc, nl⟩, ⟨qa, qc, ql⟩, ⟨some ⟨b3, off3, none⟩, oc, ol⟩⟩ ⟨pa, pc, pl⟩ o) (fun i _ => pl.length - (intOf i).toNat)
  case atStart => exact ⟨0, Nat.zero_le _, rfl, ⟨G0, rfl⟩, h0, hb⟩
  case round =>
    obtain ⟨k, hk, rfl, ⟨G, rfl⟩, hJs, hB⟩ := hrel
    clear h0 hb b1
    by_cases hlt : k < pl.length
    · have hx : pl[k]? = some pl[k] := List.getElem?_eq_getElem hlt
      obtain ⟨b, off, rfl, hb0, hcl⟩ := hcell.out k _ hx
      have ib : LtB b w.heap.size := ⟨hb0⟩
      have hxm := Hr.out _ (List.getElem_mem hlt)
      generalize pl[k] = x at *
      have c0 : w.cell? ⟨b, off + k, none⟩ = some (.int .i64 x) := by have h := hcl 0 _ rfl; simpa using h
      have hql : k < ql.length := by omega
      have hy' : ql[k]? = some ql[k] := List.getElem?_eq_getElem hql
      obtain ⟨b2, off2, hqa, hb2, hcl2⟩ := hpod.out k _ hy'
      try simp only at hqa
      subst hqa
      have ib2 : LtB b2 w.heap.size := ⟨hb2⟩
      generalize ql[k] = y at *
      have n1 := hB.o.cell 0
      have n2 := hB.s.cell 1
      have n3 := hB.s.cell 2
      have i1 := hB.o.ltb
      have i2 := hB.s.ltb
      have i3 := hB.p.ltb
      have d1 := hcl2 1 _ rfl
      clear hcl hcl2 hb0 hb2
      by_cases hx0 : x ≥ 0
      · have e1 := decide_eq_true hx0
        obtain ⟨xi, rfl⟩ : ∃ xi : Fin mm, x = (xi : Int) := ⟨⟨x.toNat, by omega⟩, by simp; omega⟩
        cases hq : seq y.owner ow.name with
        | true =>
          have hT := hide (ownTo_yes hx hy' hq)
          have Hx := hide hx
          have Hq := hide hq
          have hqq : (y.owner.toList == ow.name.toList) = true := (seq_w _ _).trans hq
          clear hx hy' hq
          gi_wp2
          refine wpIn_region_gr_tail (openWide) 20 (by kernel_rfl) (by kernel_rfl) ?_
          simp only [List.take_succ_cons, List.take_zero, List.drop_succ_cons, List.drop_zero]
          repeat (go_big_quiet_step ((first | fail)))
          refine wpQuiet_nil ?_
          intro g
          have hB3' := hB.gr g
          have hb1 := (gr_below w G).trans ((gr_below (gr w G) g).mono (size_gr G))
          obtain ⟨fn, tmps, assign, body, hy, hR⟩ := hY _ xi (gr (gr w G) g) (hJa _ _ _ hJs.out ⟨g.h.os, g.h.tape, g.h.output, g.h.size, fun i hi _ => g.h.block i hi⟩) (Nat.lt_of_le_of_lt ownTo_len hlt)
          gi_wp2
          refine hR.mono ?_
          rintro e W3 (⟨rfl, hJ3, hk3⟩ | ⟨rfl, hJx3⟩)
          · have hB3 := hB3'.kp hk3
            obtain ⟨G3, rfl⟩ := to_gr (hb1.trans hk3.1)
            gi_wp2
            go_roundw
            case rel => exact ⟨k + 1, by omega, by simp, ⟨G3, rfl⟩, (show J _ _ by rw [hT.out]; exact hJ3), hB3⟩
            case measure => simp [intOf]; omega
          · gi_wp2
            refine bodyPost_ret (results_none rfl _ _ _) rfl ?_
            exact ⟨⟨_, rfl⟩, .inr ⟨_, trivial, hJx3⟩⟩
        | false =>
          have hT := hide (ownTo_no (nm := ow.name) (m := mm) hx hy' (.inr hq))
          have Hx := hide hx
          have Hq := hide hq
          have hqq : (y.owner.toList == ow.name.toList) = false := (seq_w _ _).trans hq
          clear hx hy' hq
          gi_wp2
          refine wpIn_region_gr_tail (openWide) 20 (by kernel_rfl) (by kernel_rfl) ?_
          simp only [List.take_succ_cons, List.take_zero, List.drop_succ_cons, List.drop_zero]
          repeat (go_big_quiet_step ((first | fail)))
          refine wpQuiet_nil ?_
          intro g
          have hB3' := hB.gr g
          have hJ3 := hide (hJa _ _ (gr (gr w G) g) hJs.out ⟨g.h.os, g.h.tape, g.h.output, g.h.size, fun i hi _ => g.h.block i hi⟩)
          obtain ⟨G3, hG3⟩ := to_gr ((gr_below w G).trans ((gr_below (gr w G) g).mono (size_gr G)))
          rw [hG3] at hB3' hJ3 ⊢
          gi_wp2
          refine ⟨fun _ h => (by cases h), ?_⟩
          gi_wp2
          go_roundw
          case rel => exact ⟨k + 1, by omega, by simp, ⟨G3, rfl⟩, (show J _ _ by rw [hT.out]; exact hJ3), hB3'⟩
          case measure => simp [intOf]; omega
      · have e1 := decide_eq_false hx0
        have hT := hide (ownTo_no (nm := ow.name) (m := mm) hx hy' (.inl (by omega)))
        have Hx := hide hx
        clear hx hy' hxm
        gi_wp2
        refine wpIn_region_gr_tail (openWide) 20 (by kernel_rfl) (by kernel_rfl) ?_
        simp only [List.take_succ_cons, List.take_zero, List.drop_succ_cons, List.drop_zero]
        repeat (go_big_quiet_step ((first | fail)))
        refine wpQuiet_nil ?_
        intro g
        have hB3' := hB.gr g
        have hJ3 := hide (hJa _ _ (gr (gr w G) g) hJs.out ⟨g.h.os, g.h.tape, g.h.output, g.h.size, fun i hi _ => g.h.block i hi⟩)
        obtain ⟨G3, hG3⟩ := to_gr ((gr_below w G).trans ((gr_below (gr w G) g).mono (size_gr G)))
        rw [hG3] at hB3' hJ3 ⊢
        gi_wp2
        refine ⟨fun _ h => (by cases h), ?_⟩
        gi_wp2
        go_roundw
        case rel => exact ⟨k + 1, by omega, by simp, ⟨G3, rfl⟩, (show J _ _ by rw [hT.out]; exact hJ3), hB3'⟩
        case measure => simp [intOf]; omega
    · obtain rfl : k = pl.length := by omega
      have hA := hide (ownTo_all (nm := ow.name) (m := mm) hlen)
      gi_wp2
      go_end0
      exact ⟨⟨_, rfl⟩, .inl ⟨_, rfl, (show J _ _ by rw [← hA.out]; exact hJs)⟩⟩
end Go.Proofs.YtnjjdilmaepokaaGreat
namespace Go.Proofs.YtnjjdilmaepokaaGreat
open Go.RowKit Go.Shelf
attribute [local go_sem] Oper.semAt_some
theorem place_facts {s : Snap} {p : List Int} (h : placeCheck s p = 0) : snapCheck s = 0 ∧ p.length = s.pods.l.length ∧ ∀ x ∈ p, -1 ≤ x ∧ x < (s.nodes.l.length : Int) ∧ (0 ≤ x → lostAt s x = false) := by
  have h0 := snapZero_of h
  unfold placeCheck at h
  rw [if_pos h0] at h
  split at h
  · cases h
  · rename_i h1
    simp only [Bool.or_eq_true, not_or, Bool.not_eq_true, Bool.not_eq_false'] at h1
    obtain ⟨h1, h2⟩ := h1
    refine ⟨h0, of_decide_eq_true (by simpa using h1), fun x hx => ?_⟩
    have h3 := List.any_eq_false.1 h2 x hx
    rw [Bool.not_eq_true] at h3
    unfold oddAt at h3
    rw [Bool.or_eq_false_iff, Bool.or_eq_false_iff, decide_eq_false_iff_not, decide_eq_false_iff_not] at h3
    refine ⟨by omega, by omega, fun hx0 => ?_⟩
    have h4 := h3.2
    rw [decide_eq_true (show x ≥ 0 from hx0), Bool.true_and] at h4
    exact h4
theorem snap_facts {s : Snap} (h : snapCheck s = 0) : s.nodes.l.length ≤ 8 ∧ s.pods.l.length ≤ 24 ∧ s.owners.l.length ≤ 8 := by
  refine many_false ?_
  unfold snapCheck at h
  cases hm : manyB s with
  | false => rfl
  | true => rw [hm] at h; simp at h
theorem owned_ok (s : Snap) (p : SL Int) (o : Int) (w : World) : Calls Tryz.prog 128 #[s.val, p.val, .int .i64 o] w fun e W => e = .returned (.func (.func 151) #[] #[.pointer (some ⟨w.heap.size + 1, 0, none⟩), .pointer (some ⟨w.heap.size, 0, none⟩), .pointer (some ⟨w.heap.size + 2, 0, none⟩)]) ∧
    Box3 W w.heap.size s p o ∧ W.heap.size = w.heap.size + 3 ∧ Below w.heap.size w W := by
  simp only [Snap.val, SL.val]
  go_enter Tryz.func128, Tryz.ntmps128
  go_wp2
  go_ret
  exact ⟨rfl, ⟨by repeat' (first | exact Blk.new _ _ _ | apply Blk.alloc), by repeat' (first | exact Blk.at_ _ _ _ _ (by simp) | apply Blk.alloc), by repeat' (first | exact Blk.at_ _ _ _ _ (by simp) | apply Blk.alloc)⟩, by simp, (by repeat' (first | exact Below.refl _ _ | assumption | refine b_gr ?_ _ | refine b_alloc ?_ _ | refine b_drew ?_))⟩
theorem owned_stops (n : Nat) (hn : 1 ≤ n) (s : Snap) (p : SL Int) (o : Nat) (ow : Owner) (ho : s.owners.l[o]? = some ow) (w : World) (hs : s.At w) (hp : Ints w p) (hlen : p.l.length = s.pods.l.length) (hr : ∀ x ∈ p.l, x < (s.nodes.l.length : Int)) (c : Nat)
    (W0 : World) (hW : Below w.heap.size w W0) (hb : Box3 W0 c s p o) :
    SeqStopsK Fence.wide n Tryz.prog 151 #[.pointer (some ⟨c + 1, 0, none⟩), .pointer (some ⟨c, 0, none⟩), .pointer (some ⟨c + 2, 0, none⟩)] (fun x : Fin s.nodes.l.length => #[.int .i64 (x : Int)]) (KpI w.heap.size c)
      (fun ys => ys = ownAll ow.name s.nodes.l.length s.pods.l p.l) (fun _ => True) p.l.length W0 := fun l J Jx W hWb hJ _ hY h0 =>
  owned1_in n hn s p o ow ho w hs hp hlen hr l c J Jx (fun pre X Y hX hg => hJ pre X Y none hX hg (fun r e => by cases e)) hY W (hW.trans (hWb.mono hW.size)) (hb.below hWb (Nat.le_refl _)) h0
theorem blk_own {β : Type} (B : Nat) (t : TypeId) (f : β → Array Value) : Own (fun s W => Blk W B t (f s)) := fun s A A' row hs hg hr =>
  (hg.block B (Blk.lt hs) (fun e => by obtain ⟨o, ho, hc⟩ := hr _ e.symm; rw [show A.heap[B]? = _ from hs] at ho; cases ho; cases hc)).trans hs
/-- How many of an owner's pods do not wait. -/
def placedN (s : Snap) (p : List Int) (o : Int) : Nat := if askedB s p o then (match s.owners.l[o.toNat]? with | some ow => (ownAll ow.name s.nodes.l.length s.pods.l p).length | none => 0) else 0
theorem asked_facts {s : Snap} {p : List Int} {o : Int} (h : askedB s p o = true) : placeCheck s p = 0 ∧ ∃ (i : Nat) (ow : Owner), o = i ∧ s.owners.l[i]? = some ow := by
  unfold askedB at h
  simp only [Bool.and_eq_true, beq_iff_eq, decide_eq_true_eq] at h
  refine ⟨h.1, o.toNat, s.owners.l[o.toNat]'(by omega), by omega, List.getElem?_eq_getElem _⟩
set_option maxRecDepth 100000 in
set_option maxHeartbeats 2000000 in
theorem placed_ok (s : Snap) (p : SL Int) (o : Int) (w : World) (hs : s.At w) (hp : Ints w p) : Calls Tryz.prog 78 #[s.val, p.val, .int .i64 o] w (Gives (.int .i64 (placedN s p.l o)) w) := by
  have HA := hide (fun W hW => asked_ok s p o W (hs.below hW) (hp.below hW))
  cases hq : askedB s p.l o with
  | false =>
    have hv : placedN s p.l o = 0 := by unfold placedN; rw [if_neg (by rw [hq]; simp)]
    rw [hv]
    rw [hq] at HA
    clear hv hq hs hp
    simp only [Snap.val, SL.val] at *
    refine (callsIn_wide (n := 6)).1 ?_
    refine callsIn_of_wp_marks Tryz.func78 rfl trivial ?_ rfl
    simp only [Tryz.ntmps78, List.size_toArray, List.length_cons, List.length_nil, Nat.reduceAdd, Nat.reduceSub, Array.replicate_succ, Array.replicate_zero, List.push_toArray, List.append_toArray, List.nil_append, List.cons_append]
    gi_wp2_with fail
    refine ⟨trivial, (callsIn_wide.2 (calls_gr (HA.out _ (by repeat' (first | exact Below.refl _ _ | assumption | refine b_gr ?_ _ | refine b_alloc ?_ _ | refine b_drew ?_))))).mono ?_⟩
    rintro e w1 ⟨rfl, g, rfl⟩
    gi_wp2_with fail
    have hc := (((Blk.at_ (w.alloc (.cells #[.slice s.nodes.a s.nodes.l.length s.nodes.c, .slice s.pods.a s.pods.l.length s.pods.c, .slice s.owners.a s.owners.l.length s.owners.c] 26)) 3 #[.int .i64 0] (w.heap.size + 1) (by simp)).gr g).set_ 0 (.int .i64 0)).cell 0
    exact ⟨.int .i64 0, by simp [results, Tryz.f78, go_sem, hc], rfl, b_set (by repeat' (first | exact Below.refl _ _ | assumption | refine b_gr ?_ _ | refine b_alloc ?_ _ | refine b_drew ?_)) (by simp) _⟩
  | true =>
    obtain ⟨hpc, i, ow, rfl, ho⟩ := asked_facts hq
    obtain ⟨hsc, hlen, hrg⟩ := place_facts hpc
    have hsz := (snap_facts hsc).2.1
    have hv : placedN s p.l (i : Int) = (ownAll ow.name s.nodes.l.length s.pods.l p.l).length := by unfold placedN; rw [if_pos hq, Int.toNat_natCast, ho]
    rw [hv]
    rw [hq] at HA
    have HO := hide (fun W => owned_ok s p i W)
    have HS := hide (fun n hn c W0 hW hb => owned_stops n hn s p i ow ho w hs hp hlen (fun x hx => (hrg x hx).2.1) c W0 hW hb)
    have hpz : p.l.length ≤ 24 := by rw [hlen]; exact hsz
    clear hv hq hs hp ho hpc hrg hsc hlen
    simp only [Snap.val, SL.val] at *
    refine (callsIn_wide (n := 6)).1 ?_
    refine callsIn_of_wp_marks Tryz.func78 rfl trivial ?_ rfl
    simp only [Tryz.ntmps78, List.size_toArray, List.length_cons, List.length_nil, Nat.reduceAdd, Nat.reduceSub, Array.replicate_succ, Array.replicate_zero, List.push_toArray, List.append_toArray, List.nil_append, List.cons_append]
    gi_wp2_with fail
    refine ⟨trivial, (callsIn_wide.2 (calls_gr (HA.out _ (by repeat' (first | exact Below.refl _ _ | assumption | refine b_gr ?_ _ | refine b_alloc ?_ _ | refine b_drew ?_))))).mono ?_⟩
    rintro e w1 ⟨rfl, g, rfl⟩
    have hc := ((Blk.at_ (w.alloc (.cells #[.slice s.nodes.a s.nodes.l.length s.nodes.c, .slice s.pods.a s.pods.l.length s.pods.c, .slice s.owners.a s.owners.l.length s.owners.c] 26)) 3 #[.int .i64 0] (w.heap.size + 1) (by simp)).gr g)
    have hB1 : Below w.heap.size w (gr ((w.alloc (.cells #[.slice s.nodes.a s.nodes.l.length s.nodes.c, .slice s.pods.a s.pods.l.length s.pods.c, .slice s.owners.a s.owners.l.length s.owners.c] 26)).alloc (.cells #[.int .i64 0] 3)) g) := (by repeat' (first | exact Below.refl _ _ | assumption | refine b_gr ?_ _ | refine b_alloc ?_ _ | refine b_drew ?_))
    gi_wp2_with fail
    refine ⟨trivial, (callsIn_wide.2 (HO.out _)).mono ?_⟩
    rintro e W ⟨rfl, hb3, hWs, hWb⟩
    have hcW : Blk W (w.heap.size + 1) 3 #[.int .i64 0] := hc.below hWb hc.lt
    have hBW := b_then hB1 hWb
    have hcl := hc.lt
    clear hc hWb hB1 HA HO
    generalize (gr ((w.alloc (.cells #[.slice s.nodes.a s.nodes.l.length s.nodes.c, .slice s.pods.a s.pods.l.length s.pods.c, .slice s.owners.a s.owners.l.length s.owners.c] 26)).alloc (.cells #[.int .i64 0] 3)) g).heap.size = c at *
    gi_wp2_with fail
    refine wpIn_rangeFunc_ownF rfl (by omega) (gf := 151) (lb := #[.pointer (some ⟨c + 1, 0, none⟩), .pointer (some ⟨c, 0, none⟩), .pointer (some ⟨c + 2, 0, none⟩)]) rfl trivial (enters_of Tryz.func151 (by kernel_rfl) rfl)
      (HS.out _ (by omega) c W hBW hb3) (fun h k => KpI.trans h k) (KpI.book hBW.size (by omega)) (Below.refl _ _) (fun _ => rfl)
      (fun pre V => Blk V (w.heap.size + 1) 3 #[.int .i64 pre.length] ∧ Below w.heap.size w V) (fun _ _ _ => False)
      (OwnFrom.and (Own.from (blk_own (w.heap.size + 1) 3 (fun pre : List (Fin s.nodes.l.length) => #[.int .i64 (pre.length : Int)])) _) (ownFrom_below (Nat.le_refl _) hBW.size))
      (fun _ _ _ _ _ hs _ _ => hs) ⟨hcW, hBW⟩
      (fun x => { tmps := #[Value.agg #[.slice s.nodes.a s.nodes.l.length s.nodes.c, .slice s.pods.a s.pods.l.length s.pods.c, .slice s.owners.a s.owners.l.length s.owners.c],
          .slice p.a p.l.length p.c, .int .i64 (i : Int), .pointer (some ⟨w.heap.size, 0, none⟩), undef, undef, .pointer (some ⟨w.heap.size + 1, 0, none⟩),
          .agg #[.slice s.nodes.a s.nodes.l.length s.nodes.c, .slice s.pods.a s.pods.l.length s.pods.c, .slice s.owners.a s.owners.l.length s.owners.c],
          .slice p.a p.l.length p.c, .int .i64 (i : Int), .bool true, .bool false,
          .agg #[.slice s.nodes.a s.nodes.l.length s.nodes.c, .slice s.pods.a s.pods.l.length s.pods.c, .slice s.owners.a s.owners.l.length s.owners.c],
          .slice p.a p.l.length p.c, .int .i64 (i : Int),
          .func (.func 151) #[] #[.pointer (some ⟨c + 1, 0, none⟩), .pointer (some ⟨c, 0, none⟩), .pointer (some ⟨c + 2, 0, none⟩)],
          .int .i64 (x : Int), undef, undef, undef], defers := [] }) ?assign ?body ?done ?stop
    case assign =>
      intro l x W K hK
      gi_wp2
      simpa using hK
    case body =>
      rintro l pre x V ⟨hV, hBV⟩ hpre
      have c0 := hV.cell 0
      have z0 := hV.frozen 0
      gi_wp2
      refine ⟨KeepsOthers.setCell _ _ _, ⟨(Below.refl _ V).setCell (p := ⟨w.heap.size + 1, 0, none⟩) (by simp) _, fun b h1 h2 => Below.heap_setCell V ⟨w.heap.size + 1, 0, none⟩ _ b (by simp only; omega)⟩, ?_, hBV.setCell (p := ⟨w.heap.size + 1, 0, none⟩) (by simp) _⟩
      have h := hV.set_ 0 (.int .i64 ((pre ++ [x]).length : Int))
      rw [show (pre.length : Int) + 1 = ((pre ++ [x]).length : Int) by simp]
      exact h
    case done =>
      rintro D ys V hD rfl ⟨hV, hBV⟩ hK
      have c0 := hV.cell 0
      have z0 := hV.frozen 0
      gi_wp2
      have hK' := (KeepsOthers.setCell V ⟨w.heap.size + 1, 0, none⟩ (.int .i64 ((ownAll ow.name s.nodes.l.length s.pods.l p.l).length : Int))).same D _ hK rfl
      refine ⟨by simp, .inl ⟨_, _, rfl, run_takeDeferred hK', ?_⟩⟩
      have hc5 := cell_kept ((hV.set_ 0 (.int .i64 ((ownAll ow.name s.nodes.l.length s.pods.l p.l).length : Int))).cell 0) (grownBy_putObj' _ D (.deferred none)) (fun r e => by cases e; exact ⟨_, hK', rfl⟩)
      refine ⟨.int .i64 ((ownAll ow.name s.nodes.l.length s.pods.l p.l).length : Int), ?_, rfl, (hBV.setCell (p := ⟨w.heap.size + 1, 0, none⟩) (by simp) _).trans (belowK_b (w := W) hBW.size _ D _ _ hD hK' rfl rfl)⟩
      simp at hc5
      simp [results, Tryz.f78, go_sem, hc5]
    case stop =>
      rintro D c pre W _ _ h _
      exact h.elim
end Go.Proofs.YtnjjdilmaepokaaGreat
namespace Go.Proofs.YtnjjdilmaepokaaGreat
open Go.RowKit Go.Maps Go.Sort Go.Shelf
theorem sorts_ok (m : Nat) : AnyZ.SortsIn Tryz.prog Tryz.sorted152_ren Fence.wide m :=
  ⟨fun blk off cap ss W hH hblk hsz => callsIn_wide.2 (AnyM.slices_Sort_string Tryz.sort165 blk off cap ss W hH hblk hsz),
   fun p cap W => callsIn_wide.2 (AnyM.slices_Sort_string_none Tryz.sort165 p cap W)⟩

theorem mapsKeys_ok (mb : Option Nat) (W : World) : CallsIn Fence.wide 5 Tryz.prog 153 #[.map mb] W fun e w' => e = .returned (.func (.func 166) #[] #[.pointer (some ⟨W.heap.size, 0, none⟩)]) ∧ w' = W.alloc (.cells #[.map mb] 200) :=
  AnyZ.keys_in Tryz.keys153 Fence.wide 5 trivial rfl mb W

set_option maxHeartbeats 1000000 in
theorem sortedKeys_ok {H : Type} (b nn : Nat) (D0 : DataW H) (R : Value → Option (DataW H × List MemPlace)) (w : World) (hown : w.ownsMap Tryz.prog 9 R b nn D0) (hmax : Maps.size D0 ≤ maxLen) (hbytes : Maps.size D0 * 16 ≤ 140737488355328) :
    CallsIn Fence.wide 5 Tryz.prog 152 #[.func (.func 166) #[] #[.pointer (some ⟨w.heap.size, 0, none⟩)]] (w.alloc (.cells #[.map (some b)] 200)) fun e w' => ∃ (v : Value) (ss : List (List UInt8)), e = .returned v ∧ ss.Perm (strKeys D0) ∧
      w'.ownsRow (w.alloc (.cells #[.map (some b)] 200)).heap.size 9 1 v ss.length ((ss.mergeSort (fun x y => decide (x ≤ y))).map encStr) ∧ (v = .slice none 0 0 ↔ ss = []) ∧ Below (w.alloc (.cells #[.map (some b)] 200)).heap.size (w.alloc (.cells #[.map (some b)] 200)) w' := by
  have hbl := hown.lt
  have hseq : SeqGives Fence.wide 2 Tryz.prog 166 #[.pointer (some ⟨w.heap.size, 0, none⟩)] encStr (fun ss => ss.Perm (strKeys D0)) (Maps.size D0) (w.alloc (.cells #[.map (some b)] 200)) :=
    AnyZ.keys_gives (ρ := Tryz.keys153_ren) { Tryz.keys153 with } Fence.wide _ trivial rfl (by omega) w.heap.size b nn D0 _ (by simp) (by simp) (by
      obtain ⟨es, clock, hb, Ft, hs, hD⟩ := hown
      exact ⟨es, clock, (Below.heap_alloc _ _ b hbl).trans hb, Ft, hs, hD⟩)
  exact AnyZ.sorted_in Tryz.sorted152 Fence.wide 5 trivial trivial trivial trivial rfl (by omega) (sorts_ok _) (enters_of Tryz.func165 (by kernel_rfl) rfl) 166 #[.pointer (some ⟨w.heap.size, 0, none⟩)] trivial (enters_of Tryz.func166 (by kernel_rfl) rfl) _ _ hmax hbytes _ hseq

end Go.Proofs.YtnjjdilmaepokaaGreat
namespace Go.Proofs.YtnjjdilmaepokaaGreat
open Go.RowKit Go.Maps Go.Sort Go.Shelf
theorem valueB_size {v : ByteArray} (h : valueB v = true) : v.size ≤ 15 := by
  unfold valueB at h
  simp only [Bool.and_eq_true, decide_eq_true_eq] at h
  exact h.1.2
theorem labels_value {l : List Label} (h : labelCheck l = 0) : ∀ x ∈ l, valueB x.value = true := by
  intro x hx
  unfold labelCheck checkL at h
  split at h
  · cases h
  · rename_i hb
    obtain ⟨i, hi⟩ := List.getElem?_of_mem hx
    rw [Bool.not_eq_true] at hb
    unfold labelsBad at hb
    have := List.any_eq_false.1 hb i (List.mem_range.2 (List.getElem?_eq_some_iff.1 hi).1)
    unfold labelBad at this
    rw [hi] at this
    simp only [Bool.or_eq_true, not_or, Bool.not_eq_true] at this
    have h2 := this.1.2
    cases hv : valueB x.value with
    | true => rfl
    | false => rw [hv] at h2; cases h2
theorem snap_nodes {s : Snap} (h : snapCheck s = 0) : ∀ n ∈ s.nodes.l, nodeB n = true := by
  intro n hn
  unfold snapCheck at h
  split at h
  · cases h
  · split at h
    · cases h
    · rename_i h2
      simp only [Bool.or_eq_true, not_or, Bool.not_eq_true] at h2
      have := List.any_eq_false.1 h2.1 n hn
      simpa using this
theorem getL_mem {l : List Label} {key v : ByteArray} (h : getL l key = some v) : ∃ x ∈ l, x.value = v := by
  induction l with
  | nil => cases h
  | cons y l ih =>
    unfold getL at h
    split at h
    · exact ⟨y, by simp, by injection h⟩
    · obtain ⟨x, hx, hv⟩ := ih h
      exact ⟨x, by simp [hx], hv⟩
theorem dom_size {s : Snap} (h : snapCheck s = 0) {n : Node} (hn : n ∈ s.nodes.l) {key v : ByteArray} (hv : domV n key = some v) : v.size ≤ 15 := by
  have hb := snap_nodes h n hn
  unfold nodeB at hb
  simp only [Bool.and_eq_true, beq_iff_eq] at hb
  unfold domV at hv
  split at hv
  · cases hv
  · obtain ⟨x, hx, rfl⟩ := getL_mem hv
    exact valueB_size (labels_value hb.1.2 x hx)
/-- The map, as a datum. -/
def domD (l : List Node) (key : ByteArray) : DataW Unit := l.foldl (fun D n => match domV n key with | some v => D.put (.string v.data.toList) (.lit (.int .i64 1)) | none => D) (.map [])
theorem domD_succ {l : List Node} {key : ByteArray} {k : Nat} {n : Node} (h : l[k]? = some n) : domD (l.take (k + 1)) key = match domV n key with | some v => (domD (l.take k) key).put (.string v.data.toList) (.lit (.int .i64 1)) | none => domD (l.take k) key := by
  unfold domD
  rw [List.take_add_one, h, List.foldl_append]
  rfl
/-- A plain sort, which the kernel reckons. -/
def insB (x : List UInt8) : List (List UInt8) → List (List UInt8)
  | [] => [x]
  | y :: l => if decide (x ≤ y) = true then x :: y :: l else y :: insB x l
def sortB : List (List UInt8) → List (List UInt8)
  | [] => []
  | x :: l => insB x (sortB l)
theorem insB_perm (x : List UInt8) : ∀ l, (insB x l).Perm (x :: l)
  | [] => List.Perm.refl _
  | y :: l => by
    unfold insB
    split
    · exact List.Perm.refl _
    · exact ((insB_perm x l).cons y).trans (List.Perm.swap x y l)
theorem sortB_perm : ∀ l, (sortB l).Perm l
  | [] => List.Perm.refl _
  | x :: l => (insB_perm x (sortB l)).trans ((sortB_perm l).cons x)
theorem insB_sorted (x : List UInt8) : ∀ l : List (List UInt8), l.Pairwise (fun a b => decide (a ≤ b) = true) → (insB x l).Pairwise (fun a b => decide (a ≤ b) = true)
  | [], _ => by simp [insB]
  | y :: l, h => by
    obtain ⟨h1, h2⟩ := List.pairwise_cons.1 h
    unfold insB
    split
    · rename_i hxy
      refine List.pairwise_cons.2 ⟨fun z hz => ?_, h⟩
      rcases List.mem_cons.1 hz with rfl | hz
      · exact hxy
      · have := h1 z hz
        simp only [decide_eq_true_eq] at *
        exact List.le_trans hxy this
    · rename_i hxy
      refine List.pairwise_cons.2 ⟨fun z hz => ?_, insB_sorted x l h2⟩
      rcases List.mem_cons.1 ((insB_perm x l).mem_iff.1 hz) with rfl | hz
      · simp only [decide_eq_true_eq] at *
        rcases List.le_total z y with h | h
        · exact absurd h hxy
        · exact h
      · exact h1 z hz
theorem sortB_sorted : ∀ l, (sortB l).Pairwise (fun a b => decide (a ≤ b) = true)
  | [] => List.Pairwise.nil
  | x :: l => insB_sorted x _ (sortB_sorted l)
theorem mergeSort_eq (l : List (List UInt8)) : l.mergeSort (fun x y => decide (x ≤ y)) = sortB l := by
  refine List.Perm.eq_of_pairwise (le := fun a b => decide (a ≤ b) = true) (fun a b _ _ h1 h2 => ?_) (List.pairwise_mergeSort (fun a b c h1 h2 => ?_) (fun a b => ?_) l) (sortB_sorted l) ((List.mergeSort_perm l _).trans (sortB_perm l).symm)
  · simp only [decide_eq_true_eq] at h1 h2
    exact List.le_antisymm h1 h2
  · simp only [decide_eq_true_eq] at *
    exact List.le_trans h1 h2
  · simp only [Bool.or_eq_true, decide_eq_true_eq]
    exact List.le_total a b
def domainsL (s : Snap) (key : ByteArray) : List ByteArray := if snapCheck s = 0 then (sortB (strKeys (domD s.nodes.l key))).map (fun b => ⟨b.toArray⟩) else []
theorem grown_gr (w : World) (g : Grw w) : w.grownBy (gr w g) none := ⟨g.h.os, g.h.tape, g.h.output, g.h.size, fun i hi _ => g.h.block i hi⟩
set_option maxRecDepth 100000 in
set_option maxHeartbeats 4000000 in
theorem domains_ok (s : Snap) (key : ByteArray) (w : World) (hs : s.At w) : Calls Tryz.prog 129 #[s.val, .string key] w (GivesSL (fun x => [.string x]) 1 (domainsL s key) w) := by
  have HS := hide (fun W hW => snapCheck_ok s W (hs.below hW))
  have hmm := @run_makeMap Tryz.prog
  by_cases h0 : snapCheck s = 0
  · have hv : domainsL s key = ((strKeys (domD s.nodes.l key)).mergeSort (fun x y => decide (x ≤ y))).map (fun b => ⟨b.toArray⟩) := by rw [mergeSort_eq]; exact if_pos h0
    have Hv := hide hv
    clear hv
    generalize domainsL s key = dl at *
    have HD := hide (fun n (hn : n ∈ s.nodes.l) v (hv : domV n key = some v) => dom_size h0 hn hv)
    rw [h0] at HS
    have hsz := (snap_facts h0).1
    have hnode := hide hs.nodes.cell
    have HV := hide (fun (n : Node) (hn : n ∈ s.nodes.l) W hW => value'_ok n key W ((hs.node n hn).below hW).labels)
    clear hs h0
    obtain ⟨⟨na, nc, nl⟩, ps, os⟩ := s
    simp only [Snap.val, Node.val] at *
    go_enter Tryz.func129, Tryz.ntmps129
    go_wp2_with fail
    refine (calls_gr (HS.out _ (by repeat' (first | exact Below.refl _ _ | assumption | refine b_gr ?_ _ | refine b_alloc ?_ _ | refine b_drew ?_)))).mono ?_
    rintro e w1 ⟨rfl, g, rfl⟩
    clear HS
    go_wp2_with fail
    have hown0 := World.ownsMap_made (gr (w.alloc (.cells #[.slice na nl.length nc, .slice ps.a ps.l.length ps.c, .slice os.a os.l.length os.c] 26)) g) Tryz.prog 9 (plainElem (H := Unit) Tryz.prog 3)
    have hB0 : Below w.heap.size w ((gr (w.alloc (.cells #[.slice na nl.length nc, .slice ps.a ps.l.length ps.c, .slice os.a os.l.length os.c] 26)) g).alloc (.map #[] 0)) := (by repeat' (first | exact Below.refl _ _ | assumption | refine b_gr ?_ _ | refine b_alloc ?_ _ | refine b_drew ?_))
    have hcw : w.heap.size ≤ (gr (w.alloc (.cells #[.slice na nl.length nc, .slice ps.a ps.l.length ps.c, .slice os.a os.l.length os.c] 26)) g).heap.size := Below.size (B := w.heap.size) (by repeat' (first | exact Below.refl _ _ | assumption | refine b_gr ?_ _ | refine b_alloc ?_ _ | refine b_drew ?_))
    generalize (gr (w.alloc (.cells #[.slice na nl.length nc, .slice ps.a ps.l.length ps.c, .slice os.a os.l.length os.c] 26)) g).heap.size = c at *
    generalize ((gr (w.alloc (.cells #[.slice na nl.length nc, .slice ps.a ps.l.length ps.c, .slice os.a os.l.length os.c] 26)) g).alloc (.map #[] 0)) = W1 at *
    obtain ⟨G1, rfl⟩ := to_gr hB0
    clear hB0 g
    go_loopg [17] nl.length (fun gg s_ wr => ∃ kk : Nat, kk ≤ nl.length ∧ nl.length - kk ≤ gg ∧ s_ = .int .i64 kk ∧ Hid (∃ G : Grw w, wr = gr w G) ∧ Hid (wr.ownsMap Tryz.prog 9 (plainElem (H := Unit) Tryz.prog 3) c kk (domD (nl.take kk) key)))
    case atStart => exact ⟨0, Nat.zero_le _, by omega, rfl, ⟨G1, rfl⟩, hown0⟩
    case round =>
      clear hown0
      obtain ⟨kk, hkk, hg, rfl, ⟨G, rfl⟩, hO⟩ := hrel
      by_cases hlt : kk < nl.length
      · have hx : nl[kk]? = some nl[kk] := List.getElem?_eq_getElem hlt
        obtain ⟨b, off, rfl, hb, hcell⟩ := hnode.out kk nl[kk] hx
        have ib : LtB b w.heap.size := ⟨hb⟩
        have hm := hide (List.getElem_mem hlt)
        generalize nl[kk] = x at hx hcell hm
        have c0 : w.cell? ⟨b, off + kk * 10, none⟩ = some _ := hcell 0 _ rfl
        have c1 := hcell 1 _ rfl
        have c2 := hcell 2 _ rfl
        have c3 := hcell 3 _ rfl
        have c4 := hcell 4 _ rfl
        have c5 := hcell 5 _ rfl
        have c6 := hcell 6 _ rfl
        have c7 := hcell 7 _ rfl
        have c8 := hcell 8 _ rfl
        have c9 := hcell 9 _ rfl
        have HVx := hide (HV.out x hm.out)
        have HDx := hide (HD.out x hm.out)
        have Hx := hide (domD_succ (key := key) hx)
        clear hcell hx hb
        cases hd : domV x key with
        | none =>
          rw [hd] at HVx Hx
          simp only [getVal, Option.getD_none, Option.isSome_none] at HVx
          clear hd HDx
          go_wp2_with fail
          refine (calls_gr (HVx.out _ (by repeat' (first | exact Below.refl _ _ | assumption | refine b_gr ?_ _ | refine b_alloc ?_ _ | refine b_drew ?_)))).mono ?_
          rintro e w1 ⟨rfl, g2, rfl⟩
          go_wp2_with fail
          go_roundg (nl.length - (kk + 1))
          case measure => omega
          case rel => exact ⟨kk + 1, by omega, by omega, by go_num, to_gr (by repeat' (first | exact Below.refl _ _ | assumption | refine b_gr ?_ _ | refine b_alloc ?_ _ | refine b_drew ?_)), by rw [Hx.out]; exact ((hO.out.alloc _).kept (grown_gr _ g2) (by simp)).mono (by omega)⟩
        | some v =>
          rw [hd] at HVx Hx
          have hvs := HDx.out v hd
          simp only [getVal, Option.getD_some, Option.isSome_some] at HVx
          clear hd HDx
          go_wp2_with fail
          refine (calls_gr (HVx.out _ (by repeat' (first | exact Below.refl _ _ | assumption | refine b_gr ?_ _ | refine b_alloc ?_ _ | refine b_drew ?_)))).mono ?_
          rintro e w1 ⟨rfl, g2, rfl⟩
          have hO2 := (hO.out.alloc (.cells #[.string x.name, .int .i64 x.cap.a, .int .i64 x.cap.b, .int .i64 x.cap.c, .int .i64 x.cap.d, .int .i64 x.cap.e, .slice x.labels.a x.labels.l.length x.labels.c, .slice x.taints.a x.taints.l.length x.taints.c, .bool x.cordon, .bool x.lost] 34)).kept (grown_gr _ g2) (by simp)
          have hkey := Go.WideMaps.keyOf_string_mk (P := Tryz.prog) Tryz.underlying9 (s := v) (by unfold maxLen; omega)
          go_wp2_with (at_mapUpdate; refine wpList_mapUpdate_own _ rfl _ _ _ 200 rfl 9 3 (string_keyed Tryz.underlying9) Tryz.underlying200 (plainElem (H := Unit) Tryz.prog 3) c kk _ rfl hO2 (by unfold maxLen; omega) _ _ _ rfl rfl hkey _ [] (plainElem_int Tryz.underlying3 (by decide)) ?_; intro w3 hown3 hgrow3)
          go_roundg (nl.length - (kk + 1))
          case measure => omega
          case rel => exact ⟨kk + 1, by omega, by omega, by go_num, to_gr ((show Below w.heap.size w _ from (by repeat' (first | exact Below.refl _ _ | assumption | refine b_gr ?_ _ | refine b_alloc ?_ _ | refine b_drew ?_))).grown hgrow3 (Below.size (B := w.heap.size) (by repeat' (first | exact Below.refl _ _ | assumption | refine b_gr ?_ _ | refine b_alloc ?_ _ | refine b_drew ?_))) (fun k e => by cases e; exact hcw)), by rw [Hx.out]; exact hown3⟩
      · obtain rfl : kk = nl.length := by omega
        have hO' := hO.out
        rw [List.take_length] at hO'
        have hsl := hO'.size_le
        go_wp2_with fail
        refine (callsIn_wide.1 (mapsKeys_ok _ _)).mono ?_
        rintro e w1 ⟨rfl, rfl⟩
        go_wp2_with fail
        refine (callsIn_wide.1 (sortedKeys_ok c _ _ _ _ hO' (by unfold maxLen; omega) (by omega))).mono ?_
        rintro e w2 ⟨v, ss, rfl, hS, hrow, hnil, hb2⟩
        go_wp2_with fail
        go_ret
        have hms := mergeSort_of_perm hS
        have hB2 : Below w.heap.size w w2 := b_then (by repeat' (first | exact Below.refl _ _ | assumption | refine b_gr ?_ _ | refine b_alloc ?_ _ | refine b_drew ?_)) hb2
        rw [Hv.out]
        have hle : ss.length ≤ 8 := by
          have := hS.length_eq
          have h2 : (strKeys (domD nl key)).length = Maps.size (domD nl key) := by cases (domD nl key) <;> simp [strKeys, Maps.size]
          omega
        have hrow' : w2.ownsRow ((gr w G).alloc (.cells #[.map (some c)] 200)).heap.size 9 1 v (((strKeys (domD nl key)).mergeSort (fun x y => decide (x ≤ y))).map (fun b => (⟨b.toArray⟩ : ByteArray))).length ((((strKeys (domD nl key)).mergeSort (fun x y => decide (x ≤ y))).map (fun b => (⟨b.toArray⟩ : ByteArray))).flatMap fun x => [.string x]) := by
          rw [List.length_map, List.length_mergeSort, ← hS.length_eq, List.flatMap_map]
          have h3 : (ss.mergeSort (fun x y => decide (x ≤ y))).map encStr = ((strKeys (domD nl key)).mergeSort (fun x y => decide (x ≤ y))).flatMap (fun b => [Value.string ⟨b.toArray⟩]) := by
            rw [show ss.mergeSort (fun x y => decide (x ≤ y)) = (strKeys (domD nl key)).mergeSort (fun x y => decide (x ≤ y)) from hms]
            induction (strKeys (domD nl key)).mergeSort (fun x y => decide (x ≤ y)) with
            | nil => rfl
            | cons x l ih => simp [ih]
          rw [← h3]
          exact hrow
        exact gives_row (fun _ => rfl) hrow' (by rw [List.length_map, List.length_mergeSort, ← hS.length_eq]; omega) hB2
  · have hv : domainsL s key = [] := if_neg h0
    rw [hv]
    have hb : (snapCheck s != 0) = true := by simpa using h0
    clear hv h0 hs
    generalize snapCheck s = e0 at *
    simp only [Snap.val] at *
    go_enter Tryz.func129, Tryz.ntmps129
    go_wp2_with fail
    refine (calls_gr (HS.out _ (by repeat' (first | exact Below.refl _ _ | assumption | refine b_gr ?_ _ | refine b_alloc ?_ _ | refine b_drew ?_)))).mono ?_
    rintro e w1 ⟨rfl, g, rfl⟩
    clear HS
    go_wp2_with fail
    go_ret
    exact ⟨⟨none, 0, []⟩, rfl, rfl, SL.At.nil _ _ _, (by repeat' (first | exact Below.refl _ _ | assumption | refine b_gr ?_ _ | refine b_alloc ?_ _ | refine b_drew ?_))⟩
end Go.Proofs.YtnjjdilmaepokaaGreat
namespace Go.Proofs.YtnjjdilmaepokaaGreat
open Go.RowKit Go.Shelf
attribute [local go_sem] Oper.semAt_some
def Vec.plus (u v : Vec) : Vec := ⟨wrap64 (u.a + v.a), wrap64 (u.b + v.b), wrap64 (u.c + v.c), wrap64 (u.d + v.d), wrap64 (u.e + v.e)⟩
def sumReq (l : List Pod) : Vec := l.foldl (fun v y => v.plus y.req) ⟨0, 0, 0, 0, 0⟩
theorem sumReq_snoc (l : List Pod) (y : Pod) : sumReq (l ++ [y]) = (sumReq l).plus y.req := by simp [sumReq]
def usedB (s : Snap) (p : List Int) (node : Int) : Bool := placeCheck s p == 0 && (decide (0 ≤ node) && decide (node < s.nodes.l.length))
def usedV (s : Snap) (p : List Int) (node : Int) : Vec := if usedB s p node then sumReq (onAll s.pods.l p node) else ⟨0, 0, 0, 0, 0⟩
theorem ownFrom_size {β : Type} {B : Nat} (m : Nat) : OwnFrom B (fun (_ : β) W => m ≤ W.heap.size) := fun _ _ _ _ hs hg _ => Nat.le_trans hs hg.size
theorem on_ok (s : Snap) (p : SL Int) (o : Int) (w : World) : Calls Tryz.prog 76 #[s.val, p.val, .int .i64 o] w fun e W => e = .returned (.func (.func 111) #[] #[.pointer (some ⟨w.heap.size + 1, 0, none⟩), .pointer (some ⟨w.heap.size + 2, 0, none⟩), .pointer (some ⟨w.heap.size, 0, none⟩)]) ∧
    Box3 W w.heap.size s p o ∧ W.heap.size = w.heap.size + 3 ∧ Below w.heap.size w W := by
  simp only [Snap.val, SL.val]
  go_enter Tryz.func76, Tryz.ntmps76
  go_wp2
  go_ret
  exact ⟨rfl, ⟨by repeat' (first | exact Blk.new _ _ _ | apply Blk.alloc), by repeat' (first | exact Blk.at_ _ _ _ _ (by simp) | apply Blk.alloc), by repeat' (first | exact Blk.at_ _ _ _ _ (by simp) | apply Blk.alloc)⟩, by simp, (by repeat' (first | exact Below.refl _ _ | assumption | refine b_gr ?_ _ | refine b_alloc ?_ _ | refine b_drew ?_))⟩
theorem on_stops (n : Nat) (hn : 1 ≤ n) (s : Snap) (p : SL Int) (o : Int) (w : World) (hs : s.At w) (hp : Ints w p) (hlen : p.l.length = s.pods.l.length) (c : Nat)
    (W0 : World) (hW : Below w.heap.size w W0) (hb : Box3 W0 c s p o) :
    SeqStopsK Fence.wide n Tryz.prog 111 #[.pointer (some ⟨c + 1, 0, none⟩), .pointer (some ⟨c + 2, 0, none⟩), .pointer (some ⟨c, 0, none⟩)] (fun x : Pod => #[x.val]) (KpI w.heap.size c)
      (fun ys => ys = onAll s.pods.l p.l o) (fun _ => True) p.l.length W0 := fun l J Jx W hWb _ _ hY h0 =>
  on1_in n hn s p o w hs hp hlen l c J Jx hY W (hW.trans (hWb.mono hW.size)) (hb.below hWb (Nat.le_refl _)) h0
theorem run_index0 (a b c d e : Value) (w : World) : (Instr.index 32 (.agg #[a, b, c, d, e]) (.int .i64 0)).run Tryz.prog w = .ok a w := by kernel_rfl
theorem run_index1 (a b c d e : Value) (w : World) : (Instr.index 32 (.agg #[a, b, c, d, e]) (.int .i64 1)).run Tryz.prog w = .ok b w := by kernel_rfl
theorem run_index2 (a b c d e : Value) (w : World) : (Instr.index 32 (.agg #[a, b, c, d, e]) (.int .i64 2)).run Tryz.prog w = .ok c w := by kernel_rfl
theorem run_index3 (a b c d e : Value) (w : World) : (Instr.index 32 (.agg #[a, b, c, d, e]) (.int .i64 3)).run Tryz.prog w = .ok d w := by kernel_rfl
theorem run_index4 (a b c d e : Value) (w : World) : (Instr.index 32 (.agg #[a, b, c, d, e]) (.int .i64 4)).run Tryz.prog w = .ok e w := by kernel_rfl
attribute [local go_sem] run_index0 run_index1 run_index2 run_index3 run_index4
set_option maxRecDepth 100000 in
set_option maxHeartbeats 4000000 in
theorem used_ok (s : Snap) (p : SL Int) (o : Int) (w : World) (hs : s.At w) (hp : Ints w p) : Calls Tryz.prog 50 #[s.val, p.val, .int .i64 o] w (Gives (usedV s p.l o).val w) := by
  have HA := hide (fun W hW => placeCheck_ok s p W (hs.below hW) (hp.below hW))
  have HT := hide (fun W => there_ok o s.nodes.l.length W)
  have HO := hide (fun W => on_ok s p o W)
  have HS := hide (fun n hn c W0 hW hb hlen => on_stops n hn s p o w hs hp hlen c W0 hW hb)
  have hsl := hs.nodes.big
  clear hs hp
  by_cases h0 : placeCheck s p.l = 0
  · cases ht : (decide (0 ≤ o) && decide (o < s.nodes.l.length)) with
    | false =>
      have hv : usedV s p.l o = ⟨0, 0, 0, 0, 0⟩ := by unfold usedV usedB; rw [if_neg (by rw [ht]; simp)]
      rw [hv]
      rw [h0] at HA
      rw [ht] at HT
      clear hv ht h0 HO HS
      simp only [Snap.val, SL.val, Vec.val] at *
      refine (callsIn_wide (n := 6)).1 ?_
      refine callsIn_of_wp_marks Tryz.func50 rfl trivial ?_ rfl
      simp only [Tryz.ntmps50, List.size_toArray, List.length_cons, List.length_nil, Nat.reduceAdd, Nat.reduceSub, Array.replicate_succ, Array.replicate_zero, List.push_toArray, List.append_toArray, List.nil_append, List.cons_append]
      gi_wp2_with fail
      refine ⟨trivial, (callsIn_wide.2 (calls_gr (HA.out _ (by repeat' (first | exact Below.refl _ _ | assumption | refine b_gr ?_ _ | refine b_alloc ?_ _ | refine b_drew ?_))))).mono ?_⟩
      rintro e w1 ⟨rfl, g, rfl⟩
      gi_wp2_with fail
      refine ⟨trivial, (callsIn_wide.2 (HT.out _)).mono ?_⟩
      rintro e w2 ⟨rfl, rfl⟩
      gi_wp2_with fail
      have hz := (((((((Blk.at_ (w.alloc (.cells #[.slice s.nodes.a s.nodes.l.length s.nodes.c, .slice s.pods.a s.pods.l.length s.pods.c, .slice s.owners.a s.owners.l.length s.owners.c] 26)) 32 #[.int .i64 0, .int .i64 0, .int .i64 0, .int .i64 0, .int .i64 0] (w.heap.size + 1) (by simp)).gr g).set_ 0 (.int .i64 0)).set_ 1 (.int .i64 0)).set_ 2 (.int .i64 0)).set_ 3 (.int .i64 0)).set_ 4 (.int .i64 0))
      have z0 := hz.cell 0
      have z1 := hz.cell 1
      have z2 := hz.cell 2
      have z3 := hz.cell 3
      have z4 := hz.cell 4
      simp at z0 z1 z2 z3 z4
      exact ⟨.agg #[.int .i64 0, .int .i64 0, .int .i64 0, .int .i64 0, .int .i64 0], by simp [results, Tryz.f50, go_sem, z0, z1, z2, z3, z4], rfl, b_set (b_set (b_set (b_set (b_set (by repeat' (first | exact Below.refl _ _ | assumption | refine b_gr ?_ _ | refine b_alloc ?_ _ | refine b_drew ?_)) (by simp) _) (by simp) _) (by simp) _) (by simp) _) (by simp) _⟩
    | true =>
      have hlen := hide (place_facts h0).2.1
      have hv : usedV s p.l o = sumReq (onAll s.pods.l p.l o) := by unfold usedV usedB; rw [if_pos (by rw [ht, h0]; rfl)]
      rw [hv]
      rw [h0] at HA
      rw [ht] at HT
      clear hv ht h0
      simp only [Snap.val, SL.val, Vec.val] at *
      refine (callsIn_wide (n := 6)).1 ?_
      refine callsIn_of_wp_marks Tryz.func50 rfl trivial ?_ rfl
      simp only [Tryz.ntmps50, List.size_toArray, List.length_cons, List.length_nil, Nat.reduceAdd, Nat.reduceSub, Array.replicate_succ, Array.replicate_zero, List.push_toArray, List.append_toArray, List.nil_append, List.cons_append]
      gi_wp2_with fail
      refine ⟨trivial, (callsIn_wide.2 (calls_gr (HA.out _ (by repeat' (first | exact Below.refl _ _ | assumption | refine b_gr ?_ _ | refine b_alloc ?_ _ | refine b_drew ?_))))).mono ?_⟩
      rintro e w1 ⟨rfl, g, rfl⟩
      have hc := ((Blk.at_ (w.alloc (.cells #[.slice s.nodes.a s.nodes.l.length s.nodes.c, .slice s.pods.a s.pods.l.length s.pods.c, .slice s.owners.a s.owners.l.length s.owners.c] 26)) 32 #[.int .i64 0, .int .i64 0, .int .i64 0, .int .i64 0, .int .i64 0] (w.heap.size + 1) (by simp)).gr g)
      have hB1 : Below w.heap.size w (gr ((w.alloc (.cells #[.slice s.nodes.a s.nodes.l.length s.nodes.c, .slice s.pods.a s.pods.l.length s.pods.c, .slice s.owners.a s.owners.l.length s.owners.c] 26)).alloc (.cells #[.int .i64 0, .int .i64 0, .int .i64 0, .int .i64 0, .int .i64 0] 32)) g) := (by repeat' (first | exact Below.refl _ _ | assumption | refine b_gr ?_ _ | refine b_alloc ?_ _ | refine b_drew ?_))
      gi_wp2_with fail
      refine ⟨trivial, (callsIn_wide.2 (HT.out _)).mono ?_⟩
      rintro e w2 ⟨rfl, rfl⟩
      gi_wp2_with fail
      refine ⟨trivial, (callsIn_wide.2 (HO.out _)).mono ?_⟩
      rintro e W ⟨rfl, hb3, hWs, hWb⟩
      have hcW := hc.below hWb hc.lt
      have hBW := b_then hB1 hWb
      have hcl := hc.lt
      clear hc hWb hB1 HA HO HT
      generalize (gr ((w.alloc (.cells #[.slice s.nodes.a s.nodes.l.length s.nodes.c, .slice s.pods.a s.pods.l.length s.pods.c, .slice s.owners.a s.owners.l.length s.owners.c] 26)).alloc (.cells #[.int .i64 0, .int .i64 0, .int .i64 0, .int .i64 0, .int .i64 0] 32)) g).heap.size = c at *
      gi_wp2_with fail
      refine wpIn_rangeFunc_ownH rfl (by omega) (gf := 111) (lb := #[.pointer (some ⟨c + 1, 0, none⟩), .pointer (some ⟨c + 2, 0, none⟩), .pointer (some ⟨c, 0, none⟩)]) rfl trivial (enters_of Tryz.func111 (by kernel_rfl) rfl)
        (HS.out _ (by omega) c W hBW hb3 hlen.out) (fun h k => KpI.trans h k) (KpI.book hBW.size (by omega)) (Below.refl _ _) (fun _ => rfl)
        (fun pre V => Blk V (w.heap.size + 1) 32 (sumReq pre).enc.toArray ∧ Below w.heap.size w V ∧ c + 3 ≤ V.heap.size) (fun _ _ _ => False)
        (OwnFrom.and (Own.from (blk_own (w.heap.size + 1) 32 (fun pre : List Pod => (sumReq pre).enc.toArray)) _) (OwnFrom.and (ownFrom_below (Nat.le_refl _) hBW.size) (ownFrom_size _)))
        (fun _ _ _ _ _ hs _ _ => hs) ⟨hcW, hBW, by omega⟩
        (fun x a' V => ∃ Bx, c + 3 ≤ Bx ∧ Blk V Bx 43 x.enc.toArray ∧ a' = { tmps := #[Value.agg #[.slice s.nodes.a s.nodes.l.length s.nodes.c, .slice s.pods.a s.pods.l.length s.pods.c, .slice s.owners.a s.owners.l.length s.owners.c],
          .slice p.a p.l.length p.c, .int .i64 o, .pointer (some ⟨w.heap.size, 0, none⟩), undef, undef, .pointer (some ⟨w.heap.size + 1, 0, none⟩), .pointer (some ⟨Bx, 0, none⟩), undef, undef,
          .agg #[.slice s.nodes.a s.nodes.l.length s.nodes.c, .slice s.pods.a s.pods.l.length s.pods.c, .slice s.owners.a s.owners.l.length s.owners.c],
          .slice p.a p.l.length p.c, .int .i64 0, .bool false, .bool false, .int .i64 o, .pointer (some ⟨w.heap.size, 0, none⟩), .slice s.nodes.a s.nodes.l.length s.nodes.c, .int .i64 s.nodes.l.length, .bool true,
          .bool false, .bool false, undef, .agg #[.slice s.nodes.a s.nodes.l.length s.nodes.c, .slice s.pods.a s.pods.l.length s.pods.c, .slice s.owners.a s.owners.l.length s.owners.c],
          .slice p.a p.l.length p.c, .int .i64 o, .func (.func 111) #[] #[.pointer (some ⟨c + 1, 0, none⟩), .pointer (some ⟨c + 2, 0, none⟩), .pointer (some ⟨c, 0, none⟩)],
          x.val, undef, undef, undef, undef, undef, undef, undef, undef, undef, undef, undef, undef, undef, undef], defers := [] })
        (fun x a' u A A' row ⟨Bx, h1, h2, h3⟩ hg hr => ⟨Bx, h1, blk_own Bx _ (fun _ : Unit => x.enc.toArray) () A A' row h2 hg (fun r e => (hr r e).2), h3⟩) ?assign ?body ?done ?stop
      case assign =>
        intro l pre x V K ⟨hV, hBV, hsz⟩ hK
        simp only [Pod.val]
        simp
        gi_wp2
        exact hK _ _ ((KeepsOthers.alloc _ _).from _) ⟨(Below.refl _ V).alloc hBV.size _, fun b _ h2 => Below.heap_alloc V _ b (by omega)⟩ ⟨hV.alloc _, hBV.alloc hBV.size _, by simp; omega⟩ ⟨V.heap.size, hsz, Blk.new V _ _, rfl⟩
      case body =>
        rintro l pre x a' V hl hr ⟨hV, hBV, hsz⟩ ⟨Bx, hBx, hX, rfl⟩ hpre
        have q2 := hX.cell 2
        have q3 := hX.cell 3
        have q4 := hX.cell 4
        have q5 := hX.cell 5
        have q6 := hX.cell 6
        have hT := hide (sumReq_snoc pre x)
        generalize sumReq pre = u at *
        obtain ⟨u0, u1, u2, u3, u4⟩ := u
        obtain ⟨nm, ow, ⟨r0, r1, r2, r3, r4⟩, lb, wh, be, wt, ap, on⟩ := x
        simp at q2 q3 q4 q5 q6
        simp only [Pod.val] at *
        gi_wp2
        gi_loopw [30] (fun i wr => ∃ k : Nat, k ≤ 5 ∧ i = .int .i64 k ∧ Blk wr (w.heap.size + 1) 32 #[.int .i64 (if 0 < k then wrap64 (u0 + r0) else u0), .int .i64 (if 1 < k then wrap64 (u1 + r1) else u1), .int .i64 (if 2 < k then wrap64 (u2 + r2) else u2), .int .i64 (if 3 < k then wrap64 (u3 + r3) else u3), .int .i64 (if 4 < k then wrap64 (u4 + r4) else u4)] ∧ Hid (KeepsFrom W.heap.size V wr ∧ KpI w.heap.size c V wr ∧ Below w.heap.size w wr ∧ c + 3 ≤ wr.heap.size))
          (fun i _ => 5 - (intOf i).toNat)
        case atStart => exact ⟨0, by omega, rfl, hV, KeepsFrom.refl _ _, ⟨Below.refl _ _, fun _ _ _ => rfl⟩, hBV, hsz⟩
        case round =>
          obtain ⟨k, hk, rfl, hU, hZ⟩ := hrel
          have hstep : ∀ (i : Nat) (v : Value), Hid (KeepsFrom W.heap.size V (wr.setCell ⟨w.heap.size + 1, i, none⟩ v) ∧ KpI w.heap.size c V (wr.setCell ⟨w.heap.size + 1, i, none⟩ v) ∧ Below w.heap.size w (wr.setCell ⟨w.heap.size + 1, i, none⟩ v) ∧ c + 3 ≤ (wr.setCell ⟨w.heap.size + 1, i, none⟩ v).heap.size) := fun i v =>
            ⟨hZ.out.1.trans ((KeepsOthers.setCell _ _ _).from _), ⟨hZ.out.2.1.1.setCell (p := ⟨w.heap.size + 1, i, none⟩) (by simp) _, fun b h1 h2 => (Below.heap_setCell wr ⟨w.heap.size + 1, i, none⟩ _ b (by simp only; omega)).trans (hZ.out.2.1.2 b h1 h2)⟩, hZ.out.2.2.1.setCell (p := ⟨w.heap.size + 1, i, none⟩) (by simp) _, by simpa [World.setCell] using hZ.out.2.2.2⟩
          have HU := hide hstep
          clear hstep q2 q3 q4 q5 q6 hX hV hBV
          have z0 := hU.cell 0
          have z1 := hU.cell 1
          have z2 := hU.cell 2
          have z3 := hU.cell 3
          have z4 := hU.cell 4
          have y0 := hU.frozen 0
          have y1 := hU.frozen 1
          have y2 := hU.frozen 2
          have y3 := hU.frozen 3
          have y4 := hU.frozen 4
          obtain rfl | rfl | rfl | rfl | rfl | rfl : k = 0 ∨ k = 1 ∨ k = 2 ∨ k = 3 ∨ k = 4 ∨ k = 5 := by omega
          · simp at z0 z1 z2 z3 z4
            gi_wp2
            go_roundw
            case rel => exact ⟨1, by omega, rfl, hU.set_ 0 _, HU.out 0 _⟩
            case measure => simp [intOf]
          · simp at z0 z1 z2 z3 z4
            gi_wp2
            go_roundw
            case rel => exact ⟨2, by omega, rfl, hU.set_ 1 _, HU.out 1 _⟩
            case measure => simp [intOf]
          · simp at z0 z1 z2 z3 z4
            gi_wp2
            go_roundw
            case rel => exact ⟨3, by omega, rfl, hU.set_ 2 _, HU.out 2 _⟩
            case measure => simp [intOf]
          · simp at z0 z1 z2 z3 z4
            gi_wp2
            go_roundw
            case rel => exact ⟨4, by omega, rfl, hU.set_ 3 _, HU.out 3 _⟩
            case measure => simp [intOf]
          · simp at z0 z1 z2 z3 z4
            gi_wp2
            go_roundw
            case rel => exact ⟨5, by omega, rfl, hU.set_ 4 _, HU.out 4 _⟩
            case measure => simp [intOf]
          · gi_wp2
            exact ⟨hZ.out.1, hZ.out.2.1, by rw [hT.out]; exact hU, hZ.out.2.2⟩
      case done =>
        rintro D ys V hD rfl ⟨hV, hBV, hsz⟩ hK
        generalize sumReq (onAll s.pods.l p.l o) = u at *
        have z0 := hV.cell 0
        have z1 := hV.cell 1
        have z2 := hV.cell 2
        have z3 := hV.cell 3
        have z4 := hV.cell 4
        have y0 := hV.frozen 0
        have y1 := hV.frozen 1
        have y2 := hV.frozen 2
        have y3 := hV.frozen 3
        have y4 := hV.frozen 4
        simp at z0 z1 z2 z3 z4
        gi_wp2
        have hz := (((((hV.set_ 0 (.int .i64 u.a)).set_ 1 (.int .i64 u.b)).set_ 2 (.int .i64 u.c)).set_ 3 (.int .i64 u.d)).set_ 4 (.int .i64 u.e))
        have hK' := (((((KeepsOthers.setCell V ⟨w.heap.size + 1, 0, none⟩ (.int .i64 u.a)).trans (KeepsOthers.setCell _ ⟨w.heap.size + 1, 1, none⟩ (.int .i64 u.b))).trans (KeepsOthers.setCell _ ⟨w.heap.size + 1, 2, none⟩ (.int .i64 u.c))).trans (KeepsOthers.setCell _ ⟨w.heap.size + 1, 3, none⟩ (.int .i64 u.d))).trans (KeepsOthers.setCell _ ⟨w.heap.size + 1, 4, none⟩ (.int .i64 u.e))).same D _ hK rfl
        refine ⟨by simp, .inl ⟨_, _, rfl, run_takeDeferred hK', ?_⟩⟩
        have x0 := cell_kept (hz.cell 0) (grownBy_putObj' _ D (.deferred none)) (fun r e => by cases e; exact ⟨_, hK', rfl⟩)
        have x1 := cell_kept (hz.cell 1) (grownBy_putObj' _ D (.deferred none)) (fun r e => by cases e; exact ⟨_, hK', rfl⟩)
        have x2 := cell_kept (hz.cell 2) (grownBy_putObj' _ D (.deferred none)) (fun r e => by cases e; exact ⟨_, hK', rfl⟩)
        have x3 := cell_kept (hz.cell 3) (grownBy_putObj' _ D (.deferred none)) (fun r e => by cases e; exact ⟨_, hK', rfl⟩)
        have x4 := cell_kept (hz.cell 4) (grownBy_putObj' _ D (.deferred none)) (fun r e => by cases e; exact ⟨_, hK', rfl⟩)
        simp at x0 x1 x2 x3 x4
        refine ⟨.agg #[.int .i64 u.a, .int .i64 u.b, .int .i64 u.c, .int .i64 u.d, .int .i64 u.e], ?_, rfl, (b_set (b_set (b_set (b_set (b_set hBV (by simp) _) (by simp) _) (by simp) _) (by simp) _) (by simp) _).trans (belowK_b (w := W) hBW.size _ D _ _ hD hK' rfl rfl)⟩
        simp [results, Tryz.f50, go_sem, x0, x1, x2, x3, x4]
      case stop =>
        rintro D c pre W _ _ h _
        exact h.elim
  · have hv : usedV s p.l o = ⟨0, 0, 0, 0, 0⟩ := by unfold usedV usedB; rw [if_neg (by rw [beq_eq_false_iff_ne.2 h0]; simp)]
    rw [hv]
    have hb : (placeCheck s p.l != 0) = true := by simpa using h0
    clear hv h0 HO HS HT
    generalize placeCheck s p.l = e0 at *
    simp only [Snap.val, SL.val, Vec.val] at *
    refine (callsIn_wide (n := 6)).1 ?_
    refine callsIn_of_wp_marks Tryz.func50 rfl trivial ?_ rfl
    simp only [Tryz.ntmps50, List.size_toArray, List.length_cons, List.length_nil, Nat.reduceAdd, Nat.reduceSub, Array.replicate_succ, Array.replicate_zero, List.push_toArray, List.append_toArray, List.nil_append, List.cons_append]
    gi_wp2_with fail
    refine ⟨trivial, (callsIn_wide.2 (calls_gr (HA.out _ (by repeat' (first | exact Below.refl _ _ | assumption | refine b_gr ?_ _ | refine b_alloc ?_ _ | refine b_drew ?_))))).mono ?_⟩
    rintro e w1 ⟨rfl, g, rfl⟩
    gi_wp2_with fail
    refine ⟨trivial, ?_⟩
    gi_wp2_with fail
    have hz := (((((((Blk.at_ (w.alloc (.cells #[.slice s.nodes.a s.nodes.l.length s.nodes.c, .slice s.pods.a s.pods.l.length s.pods.c, .slice s.owners.a s.owners.l.length s.owners.c] 26)) 32 #[.int .i64 0, .int .i64 0, .int .i64 0, .int .i64 0, .int .i64 0] (w.heap.size + 1) (by simp)).gr g).set_ 0 (.int .i64 0)).set_ 1 (.int .i64 0)).set_ 2 (.int .i64 0)).set_ 3 (.int .i64 0)).set_ 4 (.int .i64 0))
    have z0 := hz.cell 0
    have z1 := hz.cell 1
    have z2 := hz.cell 2
    have z3 := hz.cell 3
    have z4 := hz.cell 4
    simp at z0 z1 z2 z3 z4
    exact ⟨.agg #[.int .i64 0, .int .i64 0, .int .i64 0, .int .i64 0, .int .i64 0], by simp [results, Tryz.f50, go_sem, z0, z1, z2, z3, z4], rfl, b_set (b_set (b_set (b_set (b_set (by repeat' (first | exact Below.refl _ _ | assumption | refine b_gr ?_ _ | refine b_alloc ?_ _ | refine b_drew ?_)) (by simp) _) (by simp) _) (by simp) _) (by simp) _) (by simp) _⟩
end Go.Proofs.YtnjjdilmaepokaaGreat
namespace Go.Proofs.YtnjjdilmaepokaaGreat
open Go.RowKit Go.Shelf
attribute [local go_sem] Oper.semAt_some
def bump (all : List ByteArray) (out : List Int) (v : ByteArray) : List Int := out.set (idxOf (fun y => seq y v) all).toNat (wrap64 (out.getD (idxOf (fun y => seq y v) all).toNat 0 + 1))
def spreadStep (s : Snap) (key : ByteArray) (all : List ByteArray) (out : List Int) (x : Fin s.nodes.l.length) : List Int := match domV (s.nodes.l[x]) key with | some v => bump all out v | none => out
def spreadF (s : Snap) (key : ByteArray) (all : List ByteArray) (l : List (Fin s.nodes.l.length)) : List Int := l.foldl (spreadStep s key all) (List.replicate all.length 0)
theorem spreadF_snoc (s : Snap) (key : ByteArray) (all : List ByteArray) (l : List (Fin s.nodes.l.length)) (x : Fin s.nodes.l.length) : spreadF s key all (l ++ [x]) = spreadStep s key all (spreadF s key all l) x := by simp [spreadF]
theorem spreadStep_len (s : Snap) (key : ByteArray) (all : List ByteArray) (out : List Int) (x : Fin s.nodes.l.length) : (spreadStep s key all out x).length = out.length := by
  unfold spreadStep
  split
  · unfold bump; rw [List.length_set]
  · rfl
theorem spreadF_len (s : Snap) (key : ByteArray) (all : List ByteArray) (l : List (Fin s.nodes.l.length)) : (spreadF s key all l).length = all.length := by
  unfold spreadF
  have : ∀ (l : List (Fin s.nodes.l.length)) (o : List Int), (l.foldl (spreadStep s key all) o).length = o.length := fun l => by
    induction l with
    | nil => intro o; rfl
    | cons x l ih => intro o; rw [List.foldl_cons, ih, spreadStep_len]
  rw [this, List.length_replicate]
def spreadL (s : Snap) (p : List Int) (o : Int) : List Int := if askedB s p o then (match s.owners.l[o.toNat]? with | some ow => spreadF s ow.topo (domainsL s ow.topo) (ownAll ow.name s.nodes.l.length s.pods.l p) | none => []) else []
theorem length_insert' (x : Lit × DataW Unit) (l : List (Lit × DataW Unit)) : (DataW.insert x l).length = l.length + 1 := by
  induction l with
  | nil => simp [DataW.insert]
  | cons y r ih =>
    unfold DataW.insert
    split
    · simp
    · simp [ih]
theorem has_put' {D : DataW Unit} (hD : Maps.IsMap D) (x y : List UInt8) (d : DataW Unit) (h : Maps.has D (.string x) = true ∨ x = y) : Maps.has (D.put (.string y) d) (.string x) = true := by
  by_cases e : x = y
  · subst e
    exact Maps.has_put_same hD (by trivial) d
  · rw [Maps.has_put_other (by intro h'; injection h' with h'; exact e h')]
    exact h.resolve_right e
def domStep (key : ByteArray) (D : DataW Unit) (n : Node) : DataW Unit := match domV n key with | some v => D.put (.string v.data.toList) (.lit (.int .i64 1)) | none => D
theorem domStep_map {key : ByteArray} {D : DataW Unit} (hD : Maps.IsMap D) (n : Node) : Maps.IsMap (domStep key D n) := by
  unfold domStep
  split
  · exact hD.put _ _
  · exact hD
theorem domStep_size {key : ByteArray} {D : DataW Unit} (hD : Maps.IsMap D) (n : Node) : Maps.size (domStep key D n) ≤ Maps.size D + 1 := by
  unfold domStep
  split
  · obtain ⟨es, rfl⟩ := hD
    rename_i v _
    show (DataW.insert _ (es.filter _)).length ≤ es.length + 1
    rw [length_insert']
    exact Nat.succ_le_succ (List.length_filter_le _ _)
  · omega
theorem dom_fold (key : ByteArray) : ∀ (l : List Node) (D : DataW Unit), Maps.IsMap D → Maps.IsMap (l.foldl (domStep key) D) ∧ Maps.size (l.foldl (domStep key) D) ≤ Maps.size D + l.length ∧ (∀ x, Maps.has D (.string x) = true → Maps.has (l.foldl (domStep key) D) (.string x) = true) ∧
    ∀ n ∈ l, ∀ v, domV n key = some v → Maps.has (l.foldl (domStep key) D) (.string v.data.toList) = true
  | [], D, hD => ⟨hD, Nat.le_refl _, fun _ h => h, fun n hn => by cases hn⟩
  | m :: l, D, hD => by
    obtain ⟨h1, h2, h3, h4⟩ := dom_fold key l (domStep key D m) (domStep_map hD m)
    have h5 := domStep_size (key := key) hD m
    refine ⟨h1, by rw [List.foldl_cons, List.length_cons]; omega, fun x hx => h3 x ?_, fun n hn v hv => ?_⟩
    · unfold domStep
      split
      · exact has_put' hD _ _ _ (.inl hx)
      · exact hx
    · rcases List.mem_cons.1 hn with rfl | hn
      · refine h3 _ ?_
        unfold domStep
        rw [hv]
        exact has_put' hD _ _ _ (.inr rfl)
      · exact h4 n hn v hv
theorem has_keys {D : DataW Unit} (hD : Maps.IsMap D) {x : List UInt8} (h : Maps.has D (.string x) = true) : x ∈ Go.strKeys D := by
  obtain ⟨es, rfl⟩ := hD
  rw [Maps.has_eq, List.any_eq_true] at h
  obtain ⟨p, hp, hs⟩ := h
  exact List.mem_map.2 ⟨p, hp, by rw [WideAt.sameKey_eq hs]; rfl⟩
theorem dom_list {s : Snap} {key : ByteArray} (h0 : snapCheck s = 0) : domainsL s key = ((Go.strKeys (s.nodes.l.foldl (domStep key) (.map []))).mergeSort (fun x y => decide (x ≤ y))).map (fun b => ⟨b.toArray⟩) := by rw [mergeSort_eq]; exact if_pos h0
theorem idx_le8 (s : Snap) (key : ByteArray) (h0 : snapCheck s = 0) : (domainsL s key).length ≤ 8 := by
  rw [dom_list h0, List.length_map, List.length_mergeSort]
  obtain ⟨h1, h2, _⟩ := dom_fold key s.nodes.l (.map []) Maps.isMap_empty
  have h3 := (snap_facts h0).1
  have h4 : (Go.strKeys (s.nodes.l.foldl (domStep key) (.map []))).length = Maps.size (s.nodes.l.foldl (domStep key) (.map [])) := by
    obtain ⟨es, he⟩ := h1
    rw [he]
    simp [Go.strKeys, Maps.size]
  have h5 : Maps.size (.map [] : DataW Unit) = 0 := rfl
  omega
/-- Each node's value is one of the domains. -/
theorem idx_dom (s : Snap) (key : ByteArray) (h0 : snapCheck s = 0) (n : Node) (hn : n ∈ s.nodes.l) (v : ByteArray) (hv : domV n key = some v) : ∃ i : Nat, idxOf (fun y => seq y v) (domainsL s key) = i ∧ i < (domainsL s key).length := by
  obtain ⟨h1, _, _, h4⟩ := dom_fold key s.nodes.l (.map []) Maps.isMap_empty
  have hk := has_keys h1 (h4 n hn v hv)
  have hm : v ∈ domainsL s key := by
    rw [dom_list h0]
    exact List.mem_map.2 ⟨v.data.toList, List.mem_mergeSort.2 hk, by simp⟩
  have ha : decide (idxOf (fun y => seq y v) (domainsL s key) ≥ 0) = true := by
    rw [idxOf_any]
    exact List.any_eq_true.2 ⟨v, hm, (seq_iff v v).2 rfl⟩
  have hr := idxOf_range (fun y => seq y v) (domainsL s key)
  have ha' := of_decide_eq_true ha
  exact ⟨(idxOf (fun y => seq y v) (domainsL s key)).toNat, by omega, by omega⟩
def intArr (l : List Int) : Array Value := (l.map (Value.int .i64)).toArray
theorem intArr_set (l : List Int) (i : Nat) (y : Int) : (intArr l).setIfInBounds i (.int .i64 y) = intArr (l.set i y) := by
  unfold intArr; simp [List.map_set]
theorem intArr_get {l : List Int} {i : Nat} (h : i < l.length) : (intArr l)[i]? = some (.int .i64 (l.getD i 0)) := by
  unfold intArr; simp [h, List.getD_eq_getElem?_getD]
theorem mkInts (n : Nat) (hn : n ≤ 65536) (W : World) : (Instr.makeSlice 44 (.int .i64 (n : Int)) (.int .i64 (n : Int))).run Tryz.prog W = .ok (.slice (some ⟨W.heap.size, 0, none⟩) n n) (W.alloc (.cells (intArr (List.replicate n 0)) 3)) := by
  obtain ⟨i0, hi, hz0, hz1, hz2⟩ := info_parts info_int
  have h := run_makeSlice (P := Tryz.prog) W 44 3 i0 _ Tryz.underlying44 hi hz0 .i64 .i64 n n (by omega) (Int.le_refl _) (by rw [hz1]; simp; omega) (by rw [hz2]; omega) (by omega)
  have h2 : madeCells (Value.cells (.int .i64 0)) n = intArr (List.replicate n 0) := by
    apply Array.ext
    · simp [madeCells, intArr]
    · intro i h1 h2
      simp [madeCells, intArr, Value.cells]
      rw [Nat.mod_one]
      rfl
  rw [h, hz1, Nat.mul_one, Int.toNat_natCast, h2]
theorem wpListIn_makeInts {F : Fence} {n : Nat} (w : World) {ops : Array Oper} {rest : List Oper} {o : Oper} {a : Act} {Q : Exit → Act → World → Prop}
    (hg : o.guard = none) (l c : Operand) (hop : o.op = Op.makeSlice 44 l c) (m : Nat) (hm : m ≤ 65536) (hl : a.eval l = .int .i64 m) (hc : a.eval c = .int .i64 m)
    (hK : wpListIn F n Tryz.prog ops Q rest (a.put o.dst (.slice (some ⟨w.heap.size, 0, none⟩) m m)) (w.alloc (.cells (intArr (List.replicate m 0)) 3))) :
    wpListIn F n Tryz.prog ops Q (o :: rest) a w := by
  refine wpListIn_plain hg fun K hK' => ?_
  have hrun := mkInts m hm w
  unfold Oper.wpIn
  refine ⟨?_, ?_⟩
  · simp [Oper.about, hop]
  · rw [Oper.semAt_plain F _ _ (by rw [hop]; intro c hc'; cases hc')]
    simp [execOp, hop, hl, hc, hrun, Result.andThen]
    exact hK' _ _ hK
set_option maxRecDepth 100000 in
set_option maxHeartbeats 400000 in
theorem spread_ok (s : Snap) (p : SL Int) (o : Int) (w : World) (hs : s.At w) (hp : Ints w p) : Calls Tryz.prog 79 #[s.val, p.val, .int .i64 o] w (GivesSL (fun x => [.int .i64 x]) 1 (spreadL s p.l o) w) := by
  have HA := hide (fun W hW => asked_ok s p o W (hs.below hW) (hp.below hW))
  cases hq : askedB s p.l o with
  | false =>
    have hv : spreadL s p.l o = [] := by unfold spreadL; rw [if_neg (by rw [hq]; simp)]
    rw [hv]
    rw [hq] at HA
    clear hv hq hs hp
    simp only [Snap.val, SL.val] at *
    refine (callsIn_wide (n := 6)).1 ?_
    refine callsIn_of_wp_marks Tryz.func79 rfl trivial ?_ rfl
    simp only [Tryz.ntmps79, List.size_toArray, List.length_cons, List.length_nil, Nat.reduceAdd, Nat.reduceSub, Array.replicate_succ, Array.replicate_zero, List.push_toArray, List.append_toArray, List.nil_append, List.cons_append]
    gi_wp2_with fail
    refine ⟨trivial, (callsIn_wide.2 (calls_gr (HA.out _ (by repeat' (first | exact Below.refl _ _ | assumption | refine b_gr ?_ _ | refine b_alloc ?_ _ | refine b_drew ?_))))).mono ?_⟩
    rintro e w1 ⟨rfl, g, rfl⟩
    gi_wp2_with fail
    exact ⟨_, results_tmp rfl _ _ _, ⟨none, 0, []⟩, rfl, rfl, SL.At.nil _ _ _, (by repeat' (first | exact Below.refl _ _ | assumption | refine b_gr ?_ _ | refine b_alloc ?_ _ | refine b_drew ?_))⟩
  | true =>
    obtain ⟨hpc, i, ow, rfl, ho⟩ := asked_facts hq
    obtain ⟨hsc, hlen, hrg⟩ := place_facts hpc
    have hsz := (snap_facts hsc).2.1
    have hv : spreadL s p.l (i : Int) = spreadF s ow.topo (domainsL s ow.topo) (ownAll ow.name s.nodes.l.length s.pods.l p.l) := by unfold spreadL; rw [if_pos hq, Int.toNat_natCast, ho]
    rw [hv]
    rw [hq] at HA
    have HO := hide (fun W => owned_ok s p i W)
    have HS := hide (fun n hn c W0 hW hb => owned_stops n hn s p i ow ho w hs hp hlen (fun x hx => (hrg x hx).2.1) c W0 hW hb)
    have HD := hide (fun W hW => domains_ok s ow.topo W (hs.below hW))
    have HX := hide (fun n hn v hv => idx_dom s ow.topo hsc n hn v hv)
    have h8 := idx_le8 s ow.topo hsc
    have hn8 := (snap_facts hsc).1
    have HV := hide (fun (n : Node) (hn : n ∈ s.nodes.l) W hW => value'_ok n ow.topo W ((hs.node n hn).below hW).labels)
    have hnode := hide hs.nodes.cell
    have hol : i < s.owners.l.length := (List.getElem?_eq_some_iff.1 ho).1
    have hob := hs.owners.big
    obtain ⟨b3, off3, hoa, hb3, hcl3⟩ := hs.owners.cell i ow ho
    have ib3 : LtB b3 w.heap.size := ⟨hb3⟩
    have o2 := hcl3 2 _ rfl
    clear hv hq hs hp ho hpc hrg hsc hlen hcl3 hb3
    simp only [Snap.val, SL.val, Node.val] at *
    simp only [hoa] at HA HO HD ⊢
    refine (callsIn_wide (n := 6)).1 ?_
    refine callsIn_of_wp_marks Tryz.func79 rfl trivial ?_ rfl
    simp only [Tryz.ntmps79, List.size_toArray, List.length_cons, List.length_nil, Nat.reduceAdd, Nat.reduceSub, Array.replicate_succ, Array.replicate_zero, List.push_toArray, List.append_toArray, List.nil_append, List.cons_append]
    gi_wp2_with fail
    refine ⟨trivial, (callsIn_wide.2 (calls_gr (HA.out _ (by repeat' (first | exact Below.refl _ _ | assumption | refine b_gr ?_ _ | refine b_alloc ?_ _ | refine b_drew ?_))))).mono ?_⟩
    rintro e w1 ⟨rfl, g, rfl⟩
    have hk0 := Blk.new (gr (w.alloc (.cells #[.slice s.nodes.a s.nodes.l.length s.nodes.c, .slice s.pods.a s.pods.l.length s.pods.c, .slice (some ⟨b3, off3, none⟩) s.owners.l.length s.owners.c] 26)) g) 9 #[.string ow.topo]
    have hs0 := ((Blk.new w 26 #[.slice s.nodes.a s.nodes.l.length s.nodes.c, .slice s.pods.a s.pods.l.length s.pods.c, .slice (some ⟨b3, off3, none⟩) s.owners.l.length s.owners.c]).gr g).alloc (.cells #[.string ow.topo] 9)
    have hBk : Below w.heap.size w ((gr (w.alloc (.cells #[.slice s.nodes.a s.nodes.l.length s.nodes.c, .slice s.pods.a s.pods.l.length s.pods.c, .slice (some ⟨b3, off3, none⟩) s.owners.l.length s.owners.c] 26)) g).alloc (.cells #[.string ow.topo] 9)) := (by repeat' (first | exact Below.refl _ _ | assumption | refine b_gr ?_ _ | refine b_alloc ?_ _ | refine b_drew ?_))
    gi_wp2_with fail
    refine ⟨trivial, (callsIn_wide.2 (HD.out _ hBk)).mono ?_⟩
    rintro e w2 ⟨dS, hdl, rfl, hdAt, hdB⟩
    have hk2 := hk0.below hdB hk0.lt
    have hs2 := hs0.below hdB hs0.lt
    have hB2 := b_then hBk hdB
    clear hk0 hs0 hBk hdB HD HA
    generalize (gr (w.alloc (.cells #[.slice s.nodes.a s.nodes.l.length s.nodes.c, .slice s.pods.a s.pods.l.length s.pods.c, .slice (some ⟨b3, off3, none⟩) s.owners.l.length s.owners.c] 26)) g).heap.size = kb at *
    clear g
    obtain ⟨da, dc, dl⟩ := dS
    simp only at hdl
    have hmk : dl.length ≤ 65536 := by rw [hdl]; omega
    have Hdl := hide hdl
    clear hdl
    simp only [SL.val]
    have s0 := hs2.cell 0
    have s1 := hs2.cell 1
    have s2 := hs2.cell 2
    have i0 := hs2.ltb
    have ik := hk2.ltb
    simp at s0 s1 s2
    gi_wp2_with (gi_at_make; refine wpListIn_makeInts _ rfl _ _ rfl dl.length hmk rfl rfl ?_)
    have hE0 : Below w2.heap.size w2 (((w2.alloc (.cells #[.slice da dl.length dc] 111)).alloc (.cells (intArr (List.replicate dl.length 0)) 3)).alloc (.cells #[.slice (some ⟨w2.heap.size + 1, 0, none⟩) dl.length dl.length] 44)) := (by repeat' (first | exact Below.refl _ _ | assumption | refine b_gr ?_ _ | refine b_alloc ?_ _ | refine b_drew ?_))
    have hb8 := ((Blk.new w2 111 #[.slice da dl.length dc]).alloc (.cells (intArr (List.replicate dl.length 0)) 3)).alloc (.cells #[.slice (some ⟨w2.heap.size + 1, 0, none⟩) dl.length dl.length] 44)
    have hbo := (Blk.at_ (w2.alloc (.cells #[.slice da dl.length dc] 111)) 3 (intArr (List.replicate dl.length 0)) (w2.heap.size + 1) (by simp)).alloc (.cells #[.slice (some ⟨w2.heap.size + 1, 0, none⟩) dl.length dl.length] 44)
    have hb9 := Blk.at_ ((w2.alloc (.cells #[.slice da dl.length dc] 111)).alloc (.cells (intArr (List.replicate dl.length 0)) 3)) 44 #[.slice (some ⟨w2.heap.size + 1, 0, none⟩) dl.length dl.length] (w2.heap.size + 1 + 1) (by simp)
    have hEs : (((w2.alloc (.cells #[.slice da dl.length dc] 111)).alloc (.cells (intArr (List.replicate dl.length 0)) 3)).alloc (.cells #[.slice (some ⟨w2.heap.size + 1, 0, none⟩) dl.length dl.length] 44)).heap.size = w2.heap.size + 3 := by simp
    have hEl := Nat.le_of_eq hEs.symm
    clear hEs
    refine ⟨trivial, (callsIn_wide.2 (HO.out _)).mono ?_⟩
    rintro e W ⟨rfl, hb3, hWs, hWb⟩
    have hb8W := hb8.below hWb hb8.lt
    have hboW := hbo.below hWb hbo.lt
    have hb9W := hb9.below hWb hb9.lt
    have hBW : Below w2.heap.size w2 W := b_then hE0 hWb
    have hBWw : Below w.heap.size w W := b_then hB2 hBW
    clear hE0 hb8 hbo hb9 hWb HO
    generalize (((w2.alloc (.cells #[.slice da dl.length dc] 111)).alloc (.cells (intArr (List.replicate dl.length 0)) 3)).alloc (.cells #[.slice (some ⟨w2.heap.size + 1, 0, none⟩) dl.length dl.length] 44)).heap.size = c at *
    gi_wp2_with fail
    refine wpIn_rangeFunc_ownF rfl (by omega) (gf := 151) (lb := #[.pointer (some ⟨c + 1, 0, none⟩), .pointer (some ⟨c, 0, none⟩), .pointer (some ⟨c + 2, 0, none⟩)]) rfl trivial (enters_of Tryz.func151 (by kernel_rfl) rfl)
      (HS.out _ (by omega) c W hBWw hb3) (fun h k => KpI.trans h k) (KpI.book hBWw.size (by omega)) (Below.refl _ _) (fun _ => rfl)
      (fun pre V => Blk V (w2.heap.size + 1) 3 (intArr (spreadF s ow.topo dl pre)) ∧ Blk V (w2.heap.size + 1 + 1) 44 #[.slice (some ⟨w2.heap.size + 1, 0, none⟩) dl.length dl.length] ∧ Blk V w2.heap.size 111 #[.slice da dl.length dc] ∧ Below w2.heap.size w2 V ∧ c + 3 ≤ V.heap.size) (fun _ _ _ => False)
      (OwnFrom.and (Own.from (blk_own (w2.heap.size + 1) 3 (fun pre => intArr (spreadF s ow.topo dl pre))) _) (OwnFrom.and (Own.from (blk_own (w2.heap.size + 1 + 1) 44 (fun _ => #[.slice (some ⟨w2.heap.size + 1, 0, none⟩) dl.length dl.length])) _) (OwnFrom.and (Own.from (blk_own w2.heap.size 111 (fun _ => #[.slice da dl.length dc])) _) (OwnFrom.and (ownFrom_below (Nat.le_refl _) hBW.size) (ownFrom_size _)))))
      (fun _ _ _ _ _ hs _ _ => hs) ⟨hboW, hb9W, hb8W, hBW, by omega⟩
      (fun x => { tmps := #[Value.agg #[.slice s.nodes.a s.nodes.l.length s.nodes.c, .slice s.pods.a s.pods.l.length s.pods.c, .slice (some ⟨b3, off3, none⟩) s.owners.l.length s.owners.c], .slice p.a p.l.length p.c, .int .i64 (i : Int), .pointer (some ⟨w.heap.size, 0, none⟩), undef, undef, .slice none 0 0, .pointer (some ⟨kb, 0, none⟩), .pointer (some ⟨w2.heap.size, 0, none⟩), .pointer (some ⟨w2.heap.size + 1 + 1, 0, none⟩), .int .i64 (x : Int), undef, undef, .agg #[.slice s.nodes.a s.nodes.l.length s.nodes.c, .slice s.pods.a s.pods.l.length s.pods.c, .slice (some ⟨b3, off3, none⟩) s.owners.l.length s.owners.c], .slice p.a p.l.length p.c, .int .i64 (i : Int), .bool true, .bool false, .pointer (some ⟨w.heap.size, 2, none⟩), .slice (some ⟨b3, off3, none⟩) s.owners.l.length s.owners.c, .int .i64 (i : Int), .pointer (some ⟨b3, off3 + i * 5, none⟩), .pointer (some ⟨b3, off3 + i * 5 + 2, none⟩), .string ow.topo, .agg #[.slice s.nodes.a s.nodes.l.length s.nodes.c, .slice s.pods.a s.pods.l.length s.pods.c, .slice (some ⟨b3, off3, none⟩) s.owners.l.length s.owners.c], .string ow.topo, .slice da dl.length dc, .slice da dl.length dc, .int .i64 (dl.length : Int), .slice (some ⟨w2.heap.size + 1, 0, none⟩) dl.length dl.length, .agg #[.slice s.nodes.a s.nodes.l.length s.nodes.c, .slice s.pods.a s.pods.l.length s.pods.c, .slice (some ⟨b3, off3, none⟩) s.owners.l.length s.owners.c], .slice p.a p.l.length p.c, .int .i64 (i : Int), .func (.func 151) #[] #[.pointer (some ⟨c + 1, 0, none⟩), .pointer (some ⟨c, 0, none⟩), .pointer (some ⟨c + 2, 0, none⟩)], .int .i64 (x : Int), undef, undef, undef, undef, undef, undef, undef, undef, undef, undef, undef, undef, undef, undef, undef, undef, undef, undef, undef, undef], defers := [] }) ?assign ?body ?done ?stop
    case assign =>
      intro l x V K hK
      simp
      gi_wp2
      exact hK
    case body =>
      rintro l pre x V ⟨hV, h9, h8b, hBV, hsV⟩ hpre
      have hT := hide (spreadF_snoc s ow.topo dl pre x)
      have hLn := spreadF_len s ow.topo dl pre
      obtain ⟨xi, hxi⟩ := x
      simp only at *
      have hx : s.nodes.l[xi]? = some s.nodes.l[xi] := List.getElem?_eq_getElem hxi
      have hmem := hide (List.getElem_mem hxi)
      obtain ⟨b, off, hna, hb, hcell⟩ := hnode.out xi _ hx
      have ib : LtB b w.heap.size := ⟨hb⟩
      have hSt := hide (show spreadStep s ow.topo dl (spreadF s ow.topo dl pre) ⟨xi, hxi⟩ = (match domV (s.nodes.l[xi]) ow.topo with | some v => bump dl (spreadF s ow.topo dl pre) v | none => spreadF s ow.topo dl pre) from rfl)
      generalize s.nodes.l[xi] = x at *
      have c0 : w.cell? ⟨b, off + xi * 10, none⟩ = some _ := hcell 0 _ rfl
      have c1 := hcell 1 _ rfl
      have c2 := hcell 2 _ rfl
      have c3 := hcell 3 _ rfl
      have c4 := hcell 4 _ rfl
      have c5 := hcell 5 _ rfl
      have c6 := hcell 6 _ rfl
      have c7 := hcell 7 _ rfl
      have c8 := hcell 8 _ rfl
      have c9 := hcell 9 _ rfl
      have HVx := hide (HV.out x hmem.out)
      have HXx := hide (HX.out x hmem.out)
      have hSV := hs2.below hBV hs2.lt
      have hKV := hk2.below hBV hk2.lt
      have n0 := hSV.cell 0
      have k0 := hKV.cell 0
      have q9 := h9.cell 0
      have q8 := h8b.cell 0
      simp at n0 k0 q9 q8
      rw [hna] at n0
      have i1 := hSV.ltb
      have i2 := hKV.ltb
      have i3 := h9.ltb
      have i4 := h8b.ltb
      have i5 := hV.ltb
      have hBw : Below w.heap.size w V := b_then hB2 hBV
      clear hcell hx hb HV HX hSV hKV hnode o2 hoa
      simp only [hna]
      obtain ⟨G, rfl⟩ := to_gr hBw
      cases hd : domV x ow.topo with
      | none =>
        rw [hd] at HVx hSt
        simp only [getVal, Option.getD_none, Option.isSome_none] at HVx
        clear hd HXx
        gi_wp2
        refine wpIn_region_gr (openRound l) (by kernel_rfl) (by kernel_rfl) ?_
        repeat (go_big_quiet_step ((first | (go_at_call 130; exact quiet_call (HVx.out _ (b_gr (gr_below w G) _))))))
        refine wpQuiet_nil ?_
        intro g1
        gi_wp2
        exact ⟨KeepsOthers.of_grownBy (grown_gr _ g1) (by simp), ⟨(gr_below (gr w G) g1).mono (size_gr G), fun b _ h2 => heap_gr g1 b (by omega)⟩, by rw [hT.out, hSt.out]; exact hV.gr g1, h9.gr g1, h8b.gr g1, b_gr hBV g1, Nat.le_trans hsV (size_gr g1)⟩
      | some v =>
        rw [hd] at HVx hSt
        obtain ⟨k, hk, hkl⟩ := HXx.out v hd
        rw [← Hdl.out] at hk hkl
        have HI := hide (fun W hW => indexStr_ok ⟨da, dc, dl⟩ v W (hdAt.below hW))
        simp only [hk, SL.val] at HI
        have hget := intArr_get (l := spreadF s ow.topo dl pre) (i := k) (by rw [hLn]; exact hkl)
        have co := hV.cell k
        rw [hget] at co
        have zo := hV.frozen k
        have hset := hide (show bump dl (spreadF s ow.topo dl pre) v = (spreadF s ow.topo dl pre).set k (wrap64 ((spreadF s ow.topo dl pre).getD k 0 + 1)) by unfold bump; rw [hk, Int.toNat_natCast])
        simp only [getVal, Option.getD_some, Option.isSome_some] at HVx
        generalize (spreadF s ow.topo dl pre).getD k 0 = z at *
        clear hd HXx hk hget hLn
        gi_wp2
        refine wpIn_region_gr (openRound l) (by kernel_rfl) (by kernel_rfl) ?_
        repeat (go_big_quiet_step ((first | (go_at_call 130; exact quiet_call (HVx.out _ (b_gr (gr_below w G) _))))))
        refine wpQuiet_nil ?_
        intro g1
        gi_wp2
        refine wpIn_region_gr_tail (openRound l) 8 (by kernel_rfl) (by kernel_rfl) ?_
        simp only [List.take_succ_cons, List.take_zero, List.drop_succ_cons, List.drop_zero]
        repeat (go_big_quiet_step ((first | (go_at_call 131; exact quiet_call (HI.out _ (b_gr (b_gr hBV g1) _))))))
        refine wpQuiet_nil ?_
        intro g2
        gi_wp2
        have hsz2 : w.heap.size ≤ w2.heap.size + 1 := Nat.le_succ_of_le hB2.size
        have hg1s := size_gr g1
        have hg2s := size_gr g2
        refine ⟨((KeepsOthers.of_grownBy (grown_gr _ g1) (by simp)).trans (KeepsOthers.of_grownBy (grown_gr _ g2) (by simp))).trans (KeepsOthers.setCell _ _ _),
          ⟨(((gr_below (gr w G) g1).mono (size_gr G)).trans ((gr_below (gr (gr w G) g1) g2).mono (Nat.le_trans (size_gr G) (size_gr g1)))).setCell (p := ⟨w2.heap.size + 1, k, none⟩) hsz2 _,
           fun b _ h2 => (Below.heap_setCell _ ⟨w2.heap.size + 1, k, none⟩ _ b (by simp only; omega)).trans ((heap_gr g2 b (by omega)).trans (heap_gr g1 b (by omega)))⟩, ?_,
          ((h9.gr g1).gr g2).far (by simp) _, ((h8b.gr g1).gr g2).far (by simp) _, b_set (b_gr (b_gr hBV g1) g2) (by simp) _, by simp [World.setCell]; omega⟩
        rw [hT.out, hSt.out]
        show Blk _ _ _ (intArr (bump dl (spreadF s ow.topo dl pre) v))
        rw [hset.out, ← intArr_set]
        exact ((hV.gr g1).gr g2).set_ k _
    case done =>
      rintro D ys V hD rfl ⟨hV, h9, h8b, hBV, hsV⟩ hK
      have q0 := h9.cell 0
      gi_wp2
      refine ⟨by simp, .inl ⟨_, _, rfl, run_takeDeferred hK, ?_⟩⟩
      refine ⟨_, results_tmp rfl _ _ _, ⟨some ⟨w2.heap.size + 1, 0, none⟩, dl.length, spreadF s ow.topo dl (ownAll ow.name s.nodes.l.length s.pods.l p.l)⟩, ?_, ?_, ?_, ?_⟩
      · show spreadF s ow.topo dl _ = _
        rw [Hdl.out]
      · simp [SL.val, spreadF_len]
      · refine ints_of_blk (cur := intArr (spreadF s ow.topo dl (ownAll ow.name s.nodes.l.length s.pods.l p.l))) (blk_own (w2.heap.size + 1) _ (fun _ : Unit => intArr (spreadF s ow.topo dl (ownAll ow.name s.nodes.l.length s.pods.l p.l))) () V _ (some D) hV (grownBy_putObj' _ D _) (fun r e => by cases e; exact ⟨_, hK, rfl⟩)) (Nat.le_of_eq (spreadF_len _ _ _ _)) (by have := hmk; omega) (by rw [spreadF_len]; omega) ?_
        unfold intArr
        rw [List.take_of_length_le (by simp)]
      · exact (b_then hB2 hBV).trans (belowK_b (w := W) hBWw.size _ D _ _ hD hK rfl rfl)
    case stop =>
      rintro D c pre W _ _ h _
      exact h.elim
end Go.Proofs.YtnjjdilmaepokaaGreat
