/- Package clause: without. Conditions: the slice lies in memory; the predicate, at each one-element slice, answers p.
   Package clause: single. Conditions: the owners lie in memory; the look's third cell is their slice.
   A world in which all blocks but one map's are as they were: for the look's methods, which write their cache.
   Package clause: the two small closures of kinds. Conditions: the slices lie in memory.
   Package clause: a look as it lies in memory.
   Package clause: kinds, the first. Conditions: a look lies in memory. (UNDER WAY.)
   Package clause: kinds, the second. Conditions: a look lies in memory.
   Package clause: the look's cache of domains: what it is good for; what stays true in a world that sees the elder blocks as they were.
   Package clause: near. Conditions: a look lies in memory; its cache is right; the key is one of L.
   Package clause: many, of a predicate that may write the cache. Conditions: a look lies in memory; the predicate answers q.
   Package clause: around. Conditions: a look lies in memory; its cache is right; the key is one of L.
   Package clause: kinds, the third and the fourth. Conditions: a look lies in memory; its cache is right.
   Package clause: kinds, the fifth. Conditions: a look lies in memory; its cache is right. -/
import Derived.Test.YtnjjdilmaepokaaGreatMC
import Derived.BigRegion
set_option linter.unusedVariables false
set_option linter.unusedSimpArgs false
namespace Go.Proofs.YtnjjdilmaepokaaGreat
open Go.RowKit
theorem SL.At.one {α : Type} {enc : α → List Value} {k : Nat} {w : World} {b off c : Nat} {l : List α} (h : (⟨some ⟨b, off, none⟩, c, l⟩ : SL α).At enc k w) {i : Nat} {x : α} (hx : l[i]? = some x) : (⟨some ⟨b, off + i * k, none⟩, c - i, [x]⟩ : SL α).At enc k w := by
  have hi := (List.getElem?_eq_some_iff.1 hx).1
  have hle := h.le
  have hc := h.cap
  simp only at hle hc
  refine ⟨by simp; omega, by simp, by simp only; omega, fun j y hy => ?_⟩
  cases j with
  | succ j => simp at hy
  | zero =>
    simp only [List.getElem?_cons_zero, Option.some.injEq] at hy
    subst hy
    obtain ⟨b', off', ha, hb, hcl⟩ := h.cell i x hx
    simp only [Option.some.injEq, Addr.mk.injEq, and_true] at ha
    obtain ⟨rfl, rfl⟩ := ha
    exact ⟨b, off + i * k, rfl, hb, fun j v hv => by rw [Nat.zero_mul, Nat.add_zero]; exact hcl j v hv⟩
def missN {α : Type} (p : α → Bool) (l : List α) : Nat := (l.filter fun x => !p x).length
theorem missN_succ {α : Type} (p : α → Bool) {l : List α} {k : Nat} {x : α} (h : l[k]? = some x) : missN p (l.take (k + 1)) = missN p (l.take k) + (if p x then 0 else 1) := by
  unfold missN
  rw [List.take_add_one, h]
  cases hp : p x <;> simp [List.filter_append, hp]
theorem missN_le {α : Type} (p : α → Bool) (l : List α) (k : Nat) : missN p (l.take k) ≤ k := Nat.le_trans (List.length_filter_le _ _) (by rw [List.length_take]; omega)
set_option maxHeartbeats 1000000 in
theorem withoutTerm_ok (s : SL Term) (p : Term → Bool) (g : Nat) (lb : Array Value) (eg : ∀ args w, (callFunc g args).run Tryz.prog w = .ok (.enter g args) w) (w : World) (hs : s.At Term.enc 3 w)
    (hp : ∀ (G : Grw w) (i : Nat) (x : Term) (b off : Nat), s.a = some ⟨b, off, none⟩ → s.l[i]? = some x → Calls Tryz.prog g (#[.slice (some ⟨b, off + i * 3, none⟩) 1 (s.c - i)] ++ lb) (gr w G) (Gives (.bool (p x)) (gr w G))) :
    Calls Tryz.prog 113 #[s.val, .func (.func g) #[] lb] w (Gives (.int .i64 (missN p s.l : Int)) w) := by
  obtain ⟨a, c, l⟩ := s
  have hl : l.length ≤ 140737488351232 := hs.big
  have hlc : l.length ≤ c := hs.le
  have hcc : c ≤ 9223372036854775807 := hs.cap
  have hc := hide hs.cell
  have HP := hide hp
  clear hp hs
  simp only [SL.val]
  go_enter Tryz.func113, Tryz.ntmps113
  go_wp2_with fail
  go_loopg [4, 8] l.length (fun gg s4 s8 wr => ∃ kk : Nat, kk ≤ l.length ∧ l.length - kk ≤ gg ∧ s8 = .int .i64 kk ∧ s4 = .int .i64 (missN p (l.take kk) : Int) ∧ Hid (∃ G : Grw w, wr = gr w G))
  case atStart => exact ⟨0, Nat.zero_le _, by omega, rfl, rfl, to_gr (Below.refl _ w)⟩
  case round =>
    obtain ⟨kk, hkk, hg, rfl, rfl, ⟨G, rfl⟩⟩ := hrel
    have hm := missN_le p l kk
    by_cases hlt : kk < l.length
    · have hx : l[kk]? = some l[kk] := List.getElem?_eq_getElem hlt
      obtain ⟨b, off, rfl, hb, hcell⟩ := hc.out kk l[kk] hx
      generalize l[kk] = x at hx
      have HC := hide (HP.out G kk x b off rfl hx)
      have Hx := hide (missN_succ p hx)
      clear hcell hx hb
      cases hq : p x
      all_goals
        rw [hq] at HC Hx
        clear hq
        have Hx' := hide (show missN p (l.take (kk + 1)) = _ from Hx.out)
        clear Hx
        go_wp2_with fail
        refine HC.out.mono ?_
        rintro e w1 ⟨rfl, hb1⟩
        have hB1 := (gr_below w G).trans (hb1.mono (size_gr G))
        go_wp2_with fail
        go_roundg (l.length - (kk + 1))
        case measure => omega
        case rel => exact ⟨kk + 1, by omega, by omega, by go_num, by rw [Hx'.out]; simp, to_gr hB1⟩
    · obtain rfl : kk = l.length := by omega
      rw [List.take_length]
      go_wp2_with fail
      go_ret
      exact ⟨rfl, gr_below w G⟩
set_option maxHeartbeats 1000000 in
theorem withoutLabel_ok (s : SL Label) (p : Label → Bool) (g : Nat) (lb : Array Value) (eg : ∀ args w, (callFunc g args).run Tryz.prog w = .ok (.enter g args) w) (w : World) (hs : s.At Label.enc 2 w)
    (hp : ∀ (G : Grw w) (i : Nat) (x : Label) (b off : Nat), s.a = some ⟨b, off, none⟩ → s.l[i]? = some x → Calls Tryz.prog g (#[.slice (some ⟨b, off + i * 2, none⟩) 1 (s.c - i)] ++ lb) (gr w G) (Gives (.bool (p x)) (gr w G))) :
    Calls Tryz.prog 117 #[s.val, .func (.func g) #[] lb] w (Gives (.int .i64 (missN p s.l : Int)) w) := by
  obtain ⟨a, c, l⟩ := s
  have hl : l.length ≤ 140737488351232 := hs.big
  have hlc : l.length ≤ c := hs.le
  have hcc : c ≤ 9223372036854775807 := hs.cap
  have hc := hide hs.cell
  have HP := hide hp
  clear hp hs
  simp only [SL.val]
  go_enter Tryz.func117, Tryz.ntmps117
  go_wp2_with fail
  go_loopg [4, 8] l.length (fun gg s4 s8 wr => ∃ kk : Nat, kk ≤ l.length ∧ l.length - kk ≤ gg ∧ s8 = .int .i64 kk ∧ s4 = .int .i64 (missN p (l.take kk) : Int) ∧ Hid (∃ G : Grw w, wr = gr w G))
  case atStart => exact ⟨0, Nat.zero_le _, by omega, rfl, rfl, to_gr (Below.refl _ w)⟩
  case round =>
    obtain ⟨kk, hkk, hg, rfl, rfl, ⟨G, rfl⟩⟩ := hrel
    have hm := missN_le p l kk
    by_cases hlt : kk < l.length
    · have hx : l[kk]? = some l[kk] := List.getElem?_eq_getElem hlt
      obtain ⟨b, off, rfl, hb, hcell⟩ := hc.out kk l[kk] hx
      generalize l[kk] = x at hx
      have HC := hide (HP.out G kk x b off rfl hx)
      have Hx := hide (missN_succ p hx)
      clear hcell hx hb
      cases hq : p x
      all_goals
        rw [hq] at HC Hx
        clear hq
        have Hx' := hide (show missN p (l.take (kk + 1)) = _ from Hx.out)
        clear Hx
        go_wp2_with fail
        refine HC.out.mono ?_
        rintro e w1 ⟨rfl, hb1⟩
        have hB1 := (gr_below w G).trans (hb1.mono (size_gr G))
        go_wp2_with fail
        go_roundg (l.length - (kk + 1))
        case measure => omega
        case rel => exact ⟨kk + 1, by omega, by omega, by go_num, by rw [Hx'.out]; simp, to_gr hB1⟩
    · obtain rfl : kk = l.length := by omega
      rw [List.take_length]
      go_wp2_with fail
      go_ret
      exact ⟨rfl, gr_below w G⟩
end Go.Proofs.YtnjjdilmaepokaaGreat
namespace Go.Proofs.YtnjjdilmaepokaaGreat
open Go.RowKit
theorem single1_ok (x : Owner) (nm : ByteArray) (k : Nat) (w : World) (ik : LtB k w.heap.size) (hk : w.cell? ⟨k, 0, none⟩ = some (.string nm)) : Calls Tryz.prog 150 #[x.val, .pointer (some ⟨k, 0, none⟩)] w (Gives (.bool (seq x.name nm)) w) := by
  simp only [Owner.val]
  go_enter Tryz.func150, Tryz.ntmps150
  go_wp2
  go_ret
  exact ⟨by rw [← seq_w]; rfl, b_alloc (Below.refl _ _) _⟩
def singleB (s : Snap) (nm : ByteArray) : Bool := match s.owners.l.find? (fun x => seq x.name nm) with | some x => x.single | none => false
theorem idxOf_find {α : Type} (p : α → Bool) : ∀ (l : List α), (idxOf p l < 0 ∧ l.find? p = none) ∨ ∃ (k : Nat) (x : α), idxOf p l = k ∧ l[k]? = some x ∧ l.find? p = some x
  | [] => .inl ⟨by simp [idxOf], rfl⟩
  | y :: l => by
    cases hy : p y with
    | true => exact .inr ⟨0, y, by simp [idxOf, hy], rfl, by simp [hy]⟩
    | false =>
      rcases idxOf_find p l with ⟨h1, h2⟩ | ⟨k, x, h1, h2, h3⟩
      · exact .inl ⟨by simp [idxOf, hy, h1], by simp [hy, h2]⟩
      · exact .inr ⟨k + 1, x, by simp only [idxOf, hy, Bool.false_eq_true, if_false, h1]; rw [if_neg (by omega)]; omega, by simpa using h2, by simp [hy, h3]⟩
set_option maxHeartbeats 1000000 in
theorem single_ok (s : Snap) (nm : ByteArray) (k : Nat) (w : World) (hs : s.owners.At Owner.enc 5 w) (ik : LtB k w.heap.size) (hk : w.cell? ⟨k, 2, none⟩ = some (.slice s.owners.a s.owners.l.length s.owners.c)) :
    Calls Tryz.prog 124 #[.pointer (some ⟨k, 0, none⟩), .string nm] w (Gives (.bool (singleB s nm)) w) := by
  have HI := hide (fun W (hW : Below w.heap.size w W) (hb : Blk W w.heap.size 9 #[.string nm]) => IndexFunc_Owner s.owners (fun x => seq x.name nm) 150 #[.pointer (some ⟨w.heap.size, 0, none⟩)] (enters_of Tryz.func150 (by kernel_rfl) rfl) W (hs.below hW) (fun G x _ => single1_ok x nm w.heap.size _ ((hb.gr G).ltb) ((hb.gr G).cell 0)))
  have hl := hs.big
  have hc := hide hs.cell
  clear hs
  unfold singleB
  rcases idxOf_find (fun x : Owner => seq x.name nm) s.owners.l with ⟨h1, h2⟩ | ⟨j, x, h1, h2, h3⟩
  · rw [h2]
    have e1 := decide_eq_false (show ¬ idxOf (fun x : Owner => seq x.name nm) s.owners.l ≥ 0 by omega)
    generalize idxOf (fun x : Owner => seq x.name nm) s.owners.l = i0 at *
    simp only [SL.val] at *
    clear h1 h2
    go_enter Tryz.func124, Tryz.ntmps124
    go_wp2_with fail
    refine (calls_gr (HI.out _ (by repeat' (first | exact Below.refl _ _ | assumption | refine b_gr ?_ _ | refine b_alloc ?_ _ | refine b_drew ?_)) (Blk.new _ _ _))).mono ?_
    rintro e w1 ⟨rfl, g, rfl⟩
    go_wp2_with fail
    go_ret
    exact ⟨rfl, (by repeat' (first | exact Below.refl _ _ | assumption | refine b_gr ?_ _ | refine b_alloc ?_ _ | refine b_drew ?_))⟩
  · rw [h3]
    rw [h1] at HI
    have hj : j < s.owners.l.length := (List.getElem?_eq_some_iff.1 h2).1
    obtain ⟨b, off, ha, hb, hcell⟩ := hc.out j x h2
    have ib : LtB b w.heap.size := ⟨hb⟩
    have c4 := hcell 4 _ rfl
    simp only [SL.val] at *
    rw [ha] at hk
    simp only [ha] at HI
    clear h1 h2 h3 hcell hb hc
    go_enter Tryz.func124, Tryz.ntmps124
    go_wp2_with fail
    refine (calls_gr (HI.out _ (by repeat' (first | exact Below.refl _ _ | assumption | refine b_gr ?_ _ | refine b_alloc ?_ _ | refine b_drew ?_)) (Blk.new _ _ _))).mono ?_
    rintro e w1 ⟨rfl, g, rfl⟩
    go_wp2_with fail
    go_ret
    exact ⟨rfl, (by repeat' (first | exact Below.refl _ _ | assumption | refine b_gr ?_ _ | refine b_alloc ?_ _ | refine b_drew ?_))⟩
end Go.Proofs.YtnjjdilmaepokaaGreat
namespace Go.Proofs.YtnjjdilmaepokaaGreat
open Go.RowKit
/-- A later world: every block of `w` but the map `mb` is as it was; the map is a map; `J` holds. -/
structure Gm (w : World) (mb : Nat) (J : World → Prop) where
  w' : World
  os : w'.os = w.os
  tape : w'.tape = w.tape
  output : w'.output = w.output
  size : w.heap.size ≤ w'.heap.size
  block : ∀ b, b < w.heap.size → b ≠ mb → w'.heap[b]? = w.heap[b]?
  m0 : ∃ es c, w.heap[mb]? = some (.map es c)
  m1 : ∃ es c, w'.heap[mb]? = some (.map es c)
  j : J w'
def gm (w : World) (mb : Nat) (J : World → Prop) (g : Gm w mb J) : World := g.w'
section
variable {w : World} {mb : Nat} {J : World → Prop}
theorem size_gm (g : Gm w mb J) : w.heap.size ≤ (gm w mb J g).heap.size := g.size
instance ltb_gm {g : Gm w mb J} {b : Nat} [h : LtB b w.heap.size] : LtB b (gm w mb J g).heap.size := ⟨Nat.lt_of_lt_of_le h.h g.size⟩
theorem cell_map {W : World} {b o : Nat} (h : ∃ es c, W.heap[b]? = some (.map es c)) : W.cell? ⟨b, o, none⟩ = none := by
  obtain ⟨es, c, h⟩ := h
  simp [World.cell?, h]
theorem frozen_map {W : World} {b o : Nat} (h : ∃ es c, W.heap[b]? = some (.map es c)) : W.frozen? ⟨b, o, none⟩ = false := by
  obtain ⟨es, c, h⟩ := h
  simp [World.frozen?, h]
@[go_sem] theorem cell_gm (g : Gm w mb J) (b o : Nat) [h : LtB b w.heap.size] : (gm w mb J g).cell? ⟨b, o, none⟩ = w.cell? ⟨b, o, none⟩ := by
  by_cases e : b = mb
  · subst e
    rw [cell_map g.m0]
    exact cell_map g.m1
  · exact World.cell?_of_block (a := ⟨b, o, none⟩) (g.block b h.h e)
@[go_sem] theorem frozen_gm (g : Gm w mb J) (b o : Nat) [h : LtB b w.heap.size] : (gm w mb J g).frozen? ⟨b, o, none⟩ = w.frozen? ⟨b, o, none⟩ := by
  by_cases e : b = mb
  · subst e
    rw [frozen_map g.m0]
    exact frozen_map g.m1
  · exact World.frozen?_of_block (a := ⟨b, o, none⟩) (g.block b h.h e)
/-- J goes with a world that grows. -/
def Stays (J : World → Prop) : Prop := ∀ W W', Below W.heap.size W W' → J W → J W'
theorem to_gm {W : World} (g : Gm w mb J) (h : g.w' = W) : ∃ g : Gm w mb J, W = gm w mb J g := ⟨g, h.symm⟩
theorem gm_self (h : ∃ es c, w.heap[mb]? = some (.map es c)) (hJ : J w) : ∃ g : Gm w mb J, w = gm w mb J g := ⟨⟨w, rfl, rfl, rfl, Nat.le_refl _, fun _ _ _ => rfl, h, h, hJ⟩, rfl⟩
theorem map_lt {W : World} {b : Nat} (h : ∃ es c, W.heap[b]? = some (.map es c)) : b < W.heap.size := by
  obtain ⟨es, c, h⟩ := h
  exact (Array.getElem?_eq_some_iff.1 h).1
theorem gm_below (hS : Stays J) (g : Gm w mb J) {W : World} (h : Below (gm w mb J g).heap.size (gm w mb J g) W) : ∃ g' : Gm w mb J, W = gm w mb J g' :=
  ⟨⟨W, h.os.trans g.os, h.tape.trans g.tape, h.output.trans g.output, Nat.le_trans g.size h.size, fun b hb hne => (h.block b (Nat.lt_of_lt_of_le hb g.size)).trans (g.block b hb hne), g.m0,
    by obtain ⟨es, c, hm⟩ := g.m1; exact ⟨es, c, (h.block mb (map_lt g.m1)).trans hm⟩, hS _ _ h g.j⟩, rfl⟩
theorem gm_gm (g : Gm w mb J) (g2 : Gm (gm w mb J g) mb J) : ∃ g' : Gm w mb J, gm (gm w mb J g) mb J g2 = gm w mb J g' :=
  ⟨⟨g2.w', g2.os.trans g.os, g2.tape.trans g.tape, g2.output.trans g.output, Nat.le_trans g.size g2.size, fun b hb hne => (g2.block b (Nat.lt_of_lt_of_le hb g.size) hne).trans (g.block b hb hne), g.m0, g2.m1, g2.j⟩, rfl⟩
theorem below_gm {B : Nat} (hB : B ≤ mb) (hw : B ≤ w.heap.size) (g : Gm w mb J) : Below B w (gm w mb J g) := ⟨g.os, g.tape, g.output, g.size, fun b hb => g.block b (Nat.lt_of_lt_of_le hb hw) (by omega)⟩
/-- The end of a call that may write the map. -/
def GivesM (mb : Nat) (J : World → Prop) (v : Value) (w : World) (e : Ending) (w' : World) : Prop := e = .returned v ∧ ∃ g : Gm w mb J, w' = gm w mb J g
theorem wp_region_gm {P : Program} {id : Nat} {Q : Exit → Act → World → Prop} {a : Act} {l : List Oper} (hS : Stays J) (h0 : ∃ es c, w.heap[mb]? = some (.map es c)) (hJ : J w) (hm : P.follows .mixedOrders = true) (hB : Region.lexB .any l.toArray = true)
    (h : wpQuiet P l.toArray (fun w' => ∃ g : Gm w mb J, w' = gm w mb J g) (fun a' => ∀ g : Gm w mb J, Q .normal a' (gm w mb J g)) l a) : (Code.region id l.toArray true).wp P Q a w :=
  wp_region_quiet (C := fun w' => ∃ g : Gm w mb J, w' = gm w mb J g) hm hB
    ⟨⟨{ w with drawn := w.drawn + 1 }, rfl, rfl, rfl, Nat.le_refl _, fun _ _ _ => rfl, h0, h0, hS w _ ⟨rfl, rfl, rfl, Nat.le_refl _, fun _ _ => rfl⟩ hJ⟩, rfl⟩
    (by
      have : (fun a' => ∀ g : Gm w mb J, Q .normal a' (gm w mb J g)) = (fun a' => ∀ w', (∃ g : Gm w mb J, w' = gm w mb J g) → Q .normal a' w') := by
        funext a'
        exact propext ⟨fun h w' ⟨g, hg⟩ => hg ▸ h g, fun h g => h _ ⟨g, rfl⟩⟩
      rw [this] at h
      simpa using h)
end
end Go.Proofs.YtnjjdilmaepokaaGreat
namespace Go.Proofs.YtnjjdilmaepokaaGreat
open Go.RowKit
theorem kin1_ok (ts : SL Term) (ls : SL Label) (k : Nat) (w : World) (ht : Terms w ts) (hl : Labels w ls) (ik : LtB k w.heap.size) (hk : w.cell? ⟨k, 0, none⟩ = some ls.val) :
    Calls Tryz.prog 114 #[ts.val, .pointer (some ⟨k, 0, none⟩)] w (Gives (.bool (holdsB ts.l ls.l)) w) := by
  have HH := hide (fun W hW => holds_ok ts ls W (ht.below hW) (hl.below hW))
  clear ht hl
  simp only [SL.val] at *
  go_enter Tryz.func114, Tryz.ntmps114
  go_wp2_with fail
  refine (calls_gr (HH.out _ (by repeat' (first | exact Below.refl _ _ | assumption | refine b_gr ?_ _ | refine b_alloc ?_ _ | refine b_drew ?_)))).mono ?_
  rintro e w1 ⟨rfl, g, rfl⟩
  go_wp2_with fail
  go_ret
  exact ⟨rfl, (by repeat' (first | exact Below.refl _ _ | assumption | refine b_gr ?_ _ | refine b_alloc ?_ _ | refine b_drew ?_))⟩
theorem kin2_ok (ts : SL Label) (bs : SL Label) (k : Nat) (w : World) (ht : Labels w ts) (hl : Labels w bs) (ik : LtB k w.heap.size) (hk : w.cell? ⟨k, 0, none⟩ = some bs.val) :
    Calls Tryz.prog 118 #[ts.val, .pointer (some ⟨k, 0, none⟩)] w (Gives (.bool (bearsB bs.l ts.l)) w) := by
  have HH := hide (fun W hW => bears_ok bs ts W (hl.below hW) (ht.below hW))
  clear ht hl
  simp only [SL.val] at *
  go_enter Tryz.func118, Tryz.ntmps118
  go_wp2_with fail
  refine (calls_gr (HH.out _ (by repeat' (first | exact Below.refl _ _ | assumption | refine b_gr ?_ _ | refine b_alloc ?_ _ | refine b_drew ?_)))).mono ?_
  rintro e w1 ⟨rfl, g, rfl⟩
  go_wp2_with fail
  go_ret
  exact ⟨rfl, (by repeat' (first | exact Below.refl _ _ | assumption | refine b_gr ?_ _ | refine b_alloc ?_ _ | refine b_drew ?_))⟩
end Go.Proofs.YtnjjdilmaepokaaGreat
namespace Go.Proofs.YtnjjdilmaepokaaGreat
open Go.RowKit
/-- The look at block k: its cluster, placement, what is used, its map. -/
structure LookAt (w : World) (k : Nat) (s : Snap) (p : SL Int) (us : SL Vec) (mb : Nat) : Prop where
  lt : LtB k w.heap.size
  c0 : w.cell? ⟨k, 0, none⟩ = some (.slice s.nodes.a s.nodes.l.length s.nodes.c)
  c1 : w.cell? ⟨k, 1, none⟩ = some (.slice s.pods.a s.pods.l.length s.pods.c)
  c2 : w.cell? ⟨k, 2, none⟩ = some (.slice s.owners.a s.owners.l.length s.owners.c)
  c3 : w.cell? ⟨k, 3, none⟩ = some (.slice p.a p.l.length p.c)
  c4 : w.cell? ⟨k, 4, none⟩ = some (.slice us.a us.l.length us.c)
  c5 : w.cell? ⟨k, 5, none⟩ = some (.map (some mb))
  s : s.At w
  p : Ints w p
  us : us.At Vec.enc 5 w
theorem LookAt.below {w W : World} {k : Nat} {s : Snap} {p : SL Int} {us : SL Vec} {mb : Nat} (h : LookAt w k s p us mb) (hb : Below w.heap.size w W) : LookAt W k s p us mb :=
  ⟨⟨Nat.lt_of_lt_of_le h.lt.h hb.size⟩, (hb.cell (p := ⟨k, 0, none⟩) h.lt.h).trans h.c0, (hb.cell (p := ⟨k, 1, none⟩) h.lt.h).trans h.c1, (hb.cell (p := ⟨k, 2, none⟩) h.lt.h).trans h.c2, (hb.cell (p := ⟨k, 3, none⟩) h.lt.h).trans h.c3,
    (hb.cell (p := ⟨k, 4, none⟩) h.lt.h).trans h.c4, (hb.cell (p := ⟨k, 5, none⟩) h.lt.h).trans h.c5, h.s.below hb, h.p.below hb, h.us.below hb⟩
end Go.Proofs.YtnjjdilmaepokaaGreat
namespace Go.Proofs.YtnjjdilmaepokaaGreat
open Go.RowKit
theorem SL.At.one' {α : Type} {enc : α → List Value} {k : Nat} {w : World} {b off : Nat} {s : SL α} (h : s.At enc k w) (ha : s.a = some ⟨b, off, none⟩) {i : Nat} {x : α} (hx : s.l[i]? = some x) : (⟨some ⟨b, off + i * k, none⟩, s.c - i, [x]⟩ : SL α).At enc k w := by
  obtain ⟨a, c, l⟩ := s
  subst ha
  exact h.one hx
set_option maxRecDepth 100000 in
set_option maxHeartbeats 2000000 in
theorem kinds1_ok (k : Nat) (s : Snap) (p : SL Int) (us : SL Vec) (mb i : Nat) (x : Pod) (j : Nat) (n : Node) (w : World) (h : LookAt w k s p us mb) (hx : s.pods.l[i]? = some x) (hp : p.l[i]? = some (j : Int)) (hn : s.nodes.l[j]? = some n) :
    Calls Tryz.prog 112 #[.pointer (some ⟨k, 0, none⟩), .int .i64 (i : Int)] w (Gives (.tuple #[.int .i64 (missN (fun t => holdsB [t] n.labels.l) x.wher.l : Int), .bool true]) w) := by
  have ik := h.lt
  have k0 := h.c0
  have k1 := h.c1
  have k3 := h.c3
  obtain ⟨b1, o1, ha1, hb1, hc1⟩ := h.s.nodes.cell j n hn
  obtain ⟨b2, o2, ha2, hb2, hc2⟩ := h.s.pods.cell i x hx
  obtain ⟨b3, o3, ha3, hb3, hc3⟩ := h.p.cell i _ hp
  have i1 : LtB b1 w.heap.size := ⟨hb1⟩
  have i2 : LtB b2 w.heap.size := ⟨hb2⟩
  have i3 : LtB b3 w.heap.size := ⟨hb3⟩
  have d6 := hc1 6 _ rfl
  have e8 := hc2 8 _ rfl
  have f0 : w.cell? ⟨b3, o3 + i, none⟩ = some (.int .i64 j) := by have h := hc3 0 _ rfl; simpa using h
  have hj := (List.getElem?_eq_some_iff.1 hn).1
  have hi := (List.getElem?_eq_some_iff.1 hx).1
  have hi' := (List.getElem?_eq_some_iff.1 hp).1
  have q1 := h.s.nodes.big
  have q2 := h.s.pods.big
  have q3 := h.p.big
  rw [ha1] at k0
  rw [ha2] at k1
  rw [ha3] at k3
  have hwh := (h.s.pod x (List.mem_of_getElem? hx)).wher
  have hlb := (h.s.node n (List.mem_of_getElem? hn)).labels
  have HW := hide (fun W (hW : Below w.heap.size w W) (hb : Blk W w.heap.size 30 #[n.labels.val]) => withoutTerm_ok x.wher (fun t => holdsB [t] n.labels.l) 114 #[.pointer (some ⟨w.heap.size, 0, none⟩)] (enters_of Tryz.func114 (by kernel_rfl) rfl) W (hwh.below hW)
    (fun G i t b off ha ht => kin1_ok ⟨some ⟨b, off + i * 3, none⟩, x.wher.c - i, [t]⟩ n.labels w.heap.size (gr W G) ((hwh.below (b_gr hW G)).one' ha ht) (hlb.below (b_gr hW G)) ((hb.gr G).ltb) ((hb.gr G).cell 0)))
  clear hc1 hc2 hc3 hb1 hb2 hb3
  go_enter Tryz.func112, Tryz.ntmps112
  go_wp2_with fail
  go_region
  simp only [SL.val] at HW
  go_wp2_with fail
  refine (calls_gr (HW.out _ (by repeat' (first | exact Below.refl _ _ | assumption | refine b_gr ?_ _ | refine b_alloc ?_ _ | refine b_drew ?_)) (by repeat' (first | exact Blk.new _ _ _ | exact Blk.at_ _ _ _ _ (by simp) | apply Blk.alloc | apply Blk.drew)))).mono ?_
  rintro e w1 ⟨rfl, g, rfl⟩
  go_wp2_with fail
  go_ret2
  exact ⟨rfl, (by repeat' (first | exact Below.refl _ _ | assumption | refine b_gr ?_ _ | refine b_alloc ?_ _ | refine b_drew ?_))⟩
end Go.Proofs.YtnjjdilmaepokaaGreat
namespace Go.Proofs.YtnjjdilmaepokaaGreat
open Go.RowKit
set_option maxRecDepth 100000 in
set_option maxHeartbeats 2000000 in
theorem kinds2_ok (k : Nat) (s : Snap) (p : SL Int) (us : SL Vec) (mb i : Nat) (x : Pod) (j : Nat) (n : Node) (w : World) (h : LookAt w k s p us mb) (hx : s.pods.l[i]? = some x) (hp : p.l[i]? = some (j : Int)) (hn : s.nodes.l[j]? = some n) :
    Calls Tryz.prog 116 #[.pointer (some ⟨k, 0, none⟩), .int .i64 (i : Int)] w (Gives (.tuple #[.int .i64 (missN (fun t => bearsB x.bears.l [t]) n.taints.l : Int), .bool true]) w) := by
  have ik := h.lt
  have k0 := h.c0
  have k1 := h.c1
  have k3 := h.c3
  obtain ⟨b1, o1, ha1, hb1, hc1⟩ := h.s.nodes.cell j n hn
  obtain ⟨b2, o2, ha2, hb2, hc2⟩ := h.s.pods.cell i x hx
  obtain ⟨b3, o3, ha3, hb3, hc3⟩ := h.p.cell i _ hp
  have i1 : LtB b1 w.heap.size := ⟨hb1⟩
  have i2 : LtB b2 w.heap.size := ⟨hb2⟩
  have i3 : LtB b3 w.heap.size := ⟨hb3⟩
  have d7 := hc1 7 _ rfl
  have e9 := hc2 9 _ rfl
  have f0 : w.cell? ⟨b3, o3 + i, none⟩ = some (.int .i64 j) := by have h := hc3 0 _ rfl; simpa using h
  have hj := (List.getElem?_eq_some_iff.1 hn).1
  have hi := (List.getElem?_eq_some_iff.1 hx).1
  have hi' := (List.getElem?_eq_some_iff.1 hp).1
  have q1 := h.s.nodes.big
  have q2 := h.s.pods.big
  have q3 := h.p.big
  rw [ha1] at k0
  rw [ha2] at k1
  rw [ha3] at k3
  have hbe := (h.s.pod x (List.mem_of_getElem? hx)).bears
  have hta := (h.s.node n (List.mem_of_getElem? hn)).taints
  have HW := hide (fun W (hW : Below w.heap.size w W) (hb : Blk W w.heap.size 30 #[x.bears.val]) => withoutLabel_ok n.taints (fun t => bearsB x.bears.l [t]) 118 #[.pointer (some ⟨w.heap.size, 0, none⟩)] (enters_of Tryz.func118 (by kernel_rfl) rfl) W (hta.below hW)
    (fun G i t b off ha ht => kin2_ok ⟨some ⟨b, off + i * 2, none⟩, n.taints.c - i, [t]⟩ x.bears w.heap.size (gr W G) ((hta.below (b_gr hW G)).one' ha ht) (hbe.below (b_gr hW G)) ((hb.gr G).ltb) ((hb.gr G).cell 0)))
  clear hc1 hc2 hc3 hb1 hb2 hb3 h hx hp hn hbe hta
  simp only [SL.val] at HW
  go_enter Tryz.func116, Tryz.ntmps116
  go_wp2_with fail
  refine wp_region_gr (by kernel_rfl) (by kernel_rfl) ?_
  repeat (go_big_quiet_step ((first | (go_at_call 117; exact quiet_call (HW.out _ (by repeat' (first | exact Below.refl _ _ | assumption | refine b_gr ?_ _ | refine b_alloc ?_ _ | refine b_drew ?_)) (by repeat' (first | exact Blk.new _ _ _ | apply Blk.gr | apply Blk.alloc | apply Blk.drew)))))))
  refine wpQuiet_nil ?_
  intro g
  go_wp2_with fail
  go_ret2
  exact ⟨rfl, (by repeat' (first | exact Below.refl _ _ | assumption | refine b_gr ?_ _ | refine b_alloc ?_ _ | refine b_drew ?_))⟩
end Go.Proofs.YtnjjdilmaepokaaGreat
namespace Go.Proofs.YtnjjdilmaepokaaGreat
open Go.RowKit Go.Maps
/-- W sees every block of w as it was. -/
structure Sees (w W : World) : Prop where
  size : w.heap.size ≤ W.heap.size
  cell : ∀ b o, b < w.heap.size → W.cell? ⟨b, o, none⟩ = w.cell? ⟨b, o, none⟩
theorem Sees.of_below {w W : World} (h : Below w.heap.size w W) : Sees w W := ⟨h.size, fun b o hb => h.cell (p := ⟨b, o, none⟩) hb⟩
theorem Sees.of_gm {w : World} {mb : Nat} {J : World → Prop} (g : Gm w mb J) : Sees w (gm w mb J g) := ⟨g.size, fun b o hb => have : LtB b w.heap.size := ⟨hb⟩; cell_gm g b o⟩
theorem Sees.trans {w W W' : World} (h : Sees w W) (k : Sees W W') : Sees w W' := ⟨Nat.le_trans h.size k.size, fun b o hb => (k.cell b o (Nat.lt_of_lt_of_le hb h.size)).trans (h.cell b o hb)⟩
theorem SL.At.sees {α : Type} {enc : α → List Value} {k : Nat} {w W : World} {s : SL α} (h : s.At enc k w) (hb : Sees w W) : s.At enc k W :=
  ⟨h.le, h.big, h.cap, fun i x hx => by
    obtain ⟨b, off, ha, hlt, hc⟩ := h.cell i x hx
    exact ⟨b, off, ha, Nat.lt_of_lt_of_le hlt hb.size, fun j v hv => (hb.cell b _ hlt).trans (hc j v hv)⟩⟩
theorem Node.At.sees {w W : World} {n : Node} (h : n.At w) (hb : Sees w W) : n.At W := ⟨h.labels.sees hb, h.taints.sees hb⟩
theorem Pod.At.sees {w W : World} {p : Pod} (h : p.At w) (hb : Sees w W) : p.At W := ⟨h.labels.sees hb, h.wher.sees hb, h.bears.sees hb, h.wth.sees hb, h.apart.sees hb⟩
theorem Snap.At.sees {w W : World} {s : Snap} (h : s.At w) (hb : Sees w W) : s.At W :=
  ⟨h.nodes.sees hb, h.pods.sees hb, h.owners.sees hb, fun n hn => (h.node n hn).sees hb, fun p hp => (h.pod p hp).sees hb⟩
theorem LookAt.sees {w W : World} {k : Nat} {s : Snap} {p : SL Int} {us : SL Vec} {mb : Nat} (h : LookAt w k s p us mb) (hb : Sees w W) : LookAt W k s p us mb :=
  ⟨⟨Nat.lt_of_lt_of_le h.lt.h hb.size⟩, (hb.cell k 0 h.lt.h).trans h.c0, (hb.cell k 1 h.lt.h).trans h.c1, (hb.cell k 2 h.lt.h).trans h.c2, (hb.cell k 3 h.lt.h).trans h.c3,
    (hb.cell k 4 h.lt.h).trans h.c4, (hb.cell k 5 h.lt.h).trans h.c5, h.s.sees hb, h.p.sees hb, h.us.sees hb⟩
/-- What a node is in, for a key. -/
structure Dm where
  value : ByteArray
  is : Bool
abbrev Dm.enc (x : Dm) : List Value := [.string x.value, .bool x.is]
def dmOf (o : Option ByteArray) : Dm := ⟨o.getD ⟨#[]⟩, o.isSome⟩
def dmsOf (s : Snap) (key : ByteArray) : List Dm := s.nodes.l.map fun n => dmOf (domV n key)
def heldV (v : Value) : Option (DataW Value × List MemPlace) := some (.held v, [])
def lk (k : ByteArray) : Lit := .string k.data.toList
/-- The blocks that hold rows of domains are as they were. -/
structure Kept (w W : World) : Prop where
  size : w.heap.size ≤ W.heap.size
  rows : ∀ (b : Nat) (cs : Array Value), w.heap[b]? = some (Obj.cells cs 212 (0, 0)) → W.heap[b]? = w.heap[b]?
theorem Kept.of_below {w W : World} (h : Below w.heap.size w W) : Kept w W := ⟨h.size, fun b cs hb => h.block b (Array.getElem?_eq_some_iff.1 hb).1⟩
theorem Kept.of_grown {w W : World} {k : Nat} {o : Obj} (h : w.grownBy W (some k)) (hk : w.heap[k]? = some o) (ho : ∀ cs : Array Value, o ≠ Obj.cells cs 212 (0, 0)) : Kept w W :=
  ⟨h.size, fun b cs hb => h.block b (Array.getElem?_eq_some_iff.1 hb).1 (fun e => by
    injection e with e
    subst e
    rw [hk] at hb
    injection hb with hb
    exact ho cs hb)⟩
/-- A row of domains: a slice over a block of domains. -/
structure DmAt (W : World) (sl : SL Dm) : Prop where
  at_ : sl.At Dm.enc 2 W
  ty : ∀ (b off : Nat), sl.a = some ⟨b, off, none⟩ → ∃ cs, W.heap[b]? = some (Obj.cells cs 212 (0, 0))
theorem DmAt.kept {w W : World} {sl : SL Dm} (h : DmAt w sl) (k : Kept w W) : DmAt W sl :=
  ⟨⟨h.at_.le, h.at_.big, h.at_.cap, fun i x hx => by
    obtain ⟨b, off, ha, hlt, hc⟩ := h.at_.cell i x hx
    obtain ⟨cs, hb⟩ := h.ty b off ha
    exact ⟨b, off, ha, Nat.lt_of_lt_of_le hlt k.size, fun j v hv => (World.cell?_of_block (a := ⟨b, off + i * 2 + j, none⟩) (k.rows b cs hb)).trans (hc j v hv)⟩⟩,
   fun b off ha => by
    obtain ⟨cs, hb⟩ := h.ty b off ha
    exact ⟨cs, (k.rows b cs hb).trans hb⟩⟩
/-- The map at mb: each entry is at a key of L, and is the row of the nodes' domains. -/
def Cache (s : Snap) (L : List ByteArray) (mb : Nat) (W : World) : Prop :=
  ∃ (n : Nat) (D : DataW Value), W.ownsMap Tryz.prog 9 heldV mb n D ∧ IsMap D ∧ n ≤ (L.filter fun k => has D (lk k)).length ∧
    ∀ k, has D (lk k) = true → ∃ sl : SL Dm, D.atKey (lk k) (.held (.slice none 0 0)) = .held (.slice sl.a sl.l.length sl.c) ∧ DmAt W sl ∧ sl.l = dmsOf s k
theorem Cache.kept {s : Snap} {L : List ByteArray} {mb : Nat} {W W' : World} (h : Cache s L mb W) (k : Kept W W') (hm : W'.heap[mb]? = W.heap[mb]?) : Cache s L mb W' := by
  obtain ⟨n, D, ⟨es, c, hb, hF⟩, hM, hn, hv⟩ := h
  exact ⟨n, D, ⟨es, c, hm.trans hb, hF⟩, hM, hn, fun k' hk => by
    obtain ⟨sl, h1, h2, h3⟩ := hv k' hk
    exact ⟨sl, h1, h2.kept k, h3⟩⟩
theorem Cache.map {s : Snap} {L : List ByteArray} {mb : Nat} {W : World} (h : Cache s L mb W) : ∃ es c, W.heap[mb]? = some (.map es c) := by
  obtain ⟨n, D, ⟨es, c, hb, _⟩, _⟩ := h
  exact ⟨es, c, hb⟩
theorem Cache.stays (s : Snap) (L : List ByteArray) (mb : Nat) : Stays (Cache s L mb) := fun W W' hb h => h.kept (Kept.of_below hb) (hb.block mb (map_lt h.map))
theorem Cache.new (s : Snap) (L : List ByteArray) (W : World) : Cache s L W.heap.size (W.alloc (.map #[] 0)) :=
  ⟨0, .map [], World.ownsMap_made _ _ _ _, isMap_empty, Nat.zero_le _, fun k hk => by simp [has] at hk⟩
theorem filter_lt {α : Type} (p q : α → Bool) (h : ∀ x, p x = true → q x = true) {x : α} (hp : p x = false) (hq : q x = true) : ∀ (l : List α), x ∈ l → (l.filter p).length + 1 ≤ (l.filter q).length
  | [], hm => by simp at hm
  | y :: l, hm => by
    have hle : ∀ l : List α, (l.filter p).length ≤ (l.filter q).length := fun l => by
      induction l with
      | nil => simp
      | cons z l ih =>
        cases hz : p z
        · simp only [List.filter_cons, hz, Bool.false_eq_true, if_false]
          split <;> (try simp only [List.length_cons]) <;> omega
        · simp only [List.filter_cons, hz, h z hz, if_true, List.length_cons]
          omega
    rcases List.mem_cons.1 hm with rfl | hm
    · simp only [List.filter_cons, hp, hq, Bool.false_eq_true, if_false, if_true, List.length_cons]
      have := hle l
      omega
    · have ih := filter_lt p q h hp hq l hm
      cases hz : p y
      · simp only [List.filter_cons, hz, Bool.false_eq_true, if_false]
        split <;> (try simp only [List.length_cons]) <;> omega
      · simp only [List.filter_cons, hz, h y hz, if_true, List.length_cons]
        omega
theorem lk_inj {a b : ByteArray} (h : lk a = lk b) : a = b := by
  unfold lk at h
  injection h with h
  cases a; cases b
  simp only [Array.toList_inj] at h
  rw [h]
/-- A row more. -/
theorem Cache.put {s : Snap} {L : List ByteArray} {mb : Nat} {W W' : World} {n : Nat} {D : DataW Value} {key : ByteArray} (hkey : key ∈ L) (hM : IsMap D) (hn : n ≤ (L.filter fun k => has D (lk k)).length)
    (hv : ∀ k, has D (lk k) = true → ∃ sl : SL Dm, D.atKey (lk k) (.held (.slice none 0 0)) = .held (.slice sl.a sl.l.length sl.c) ∧ DmAt W sl ∧ sl.l = dmsOf s k) (hno : has D (lk key) = false)
    (sl : SL Dm) (hsl : DmAt W sl) (hl : sl.l = dmsOf s key) (hO : W'.ownsMap Tryz.prog 9 heldV mb (n + 1) (D.put (lk key) (.held (.slice sl.a sl.l.length sl.c)))) (hS : Kept W W') : Cache s L mb W' := by
  have hK : WideAt.IsKeyLit (lk key) := trivial
  refine ⟨n + 1, _, hO, hM.put _ _, ?_, fun k hk => ?_⟩
  · have := filter_lt (fun k => has D (lk k)) (fun k => has (D.put (lk key) (.held (.slice sl.a sl.l.length sl.c))) (lk k)) (fun x hx => by
      by_cases e : x = key
      · subst e; exact has_put_same hM hK _
      · rw [has_put_other (fun h => e (lk_inj h))]; exact hx) hno (has_put_same hM hK _) L hkey
    omega
  · by_cases e : k = key
    · subst e
      exact ⟨sl, atKey_put_same hM hK _ _, hsl.kept hS, hl⟩
    · rw [has_put_other (fun h => e (lk_inj h))] at hk
      obtain ⟨s1, h1, h2, h3⟩ := hv k hk
      exact ⟨s1, by rw [atKey_put_other (fun h => e (lk_inj h))]; exact h1, h2.kept hS, h3⟩
theorem dms_of_row {base : Nat} {v : Value} {xs : List Dm} {w : World} (h : w.ownsRow base 212 2 v xs.length (xs.flatMap Dm.enc)) (hb : xs.length ≤ 140737488351232) : ∃ sl : SL Dm, sl.l = xs ∧ v = sl.val ∧ DmAt w sl := by
  rcases h.2 with ⟨rfl, h0⟩ | ⟨g, cap, cur, rfl, _, hh, _⟩
  · have : xs = [] := List.eq_nil_of_length_eq_zero h0
    subst this
    exact ⟨⟨none, 0, []⟩, rfl, rfl, SL.At.nil _ _ _, fun b off ha => by cases ha⟩
  · obtain ⟨sl, h1, h2, h3⟩ := sl_of_row (enc := Dm.enc) (k := 2) (fun _ => rfl) h hb
    refine ⟨sl, h1, h2, h3, fun b off ha => ?_⟩
    unfold SL.val at h2
    injection h2 with h4
    rw [ha] at h4
    injection h4 with h4
    injection h4 with h5
    subst h5
    exact ⟨cur, hh⟩
end Go.Proofs.YtnjjdilmaepokaaGreat
namespace Go.Proofs.YtnjjdilmaepokaaGreat
open Go.RowKit Go.Maps
def nearN (x y : Node) (key : ByteArray) : Bool := match domV x key, domV y key with | some u, some v => seq u v | _, _ => false
theorem info_dom : (Tryz.prog.info? 212).map (fun i => (i.zero, i.size, i.bytes)) = some (some (.agg #[.string ⟨#[]⟩, .bool false]), 2, 24) := by kernel_rfl
theorem dms_at {s : Snap} {key : ByteArray} {i : Nat} {n : Node} (h : s.nodes.l[i]? = some n) : (dmsOf s key)[i]? = some (dmOf (domV n key)) := by simp [dmsOf, h]
set_option maxRecDepth 100000 in
set_option maxHeartbeats 4000000 in
theorem near_known (k : Nat) (s : Snap) (p : SL Int) (us : SL Vec) (mb a b : Nat) (x y : Node) (key : ByteArray) (w : World) (h : LookAt w k s p us mb) (sl : SL Dm) (hsl : sl.At Dm.enc 2 w) (hl : sl.l = dmsOf s key) (ha : s.nodes.l[a]? = some x) (hb : s.nodes.l[b]? = some y)
    (hrun : (Instr.lookup 100 (.map (some mb)) (.string key) true).run Tryz.prog w = .ok (.tuple #[.slice sl.a sl.l.length sl.c, .bool true]) w) :
    Calls Tryz.prog 149 #[.pointer (some ⟨k, 0, none⟩), .int .i64 (a : Int), .int .i64 (b : Int), .string key] w (Gives (.bool (nearN x y key)) w) := by
  have ik := h.lt
  have k5 := h.c5
  have hia := dms_at (key := key) ha
  have hib := dms_at (key := key) hb
  rw [← hl] at hia hib
  obtain ⟨B, off, hB, hlt, hca⟩ := hsl.cell a _ hia
  obtain ⟨B', off', hB', _, hcb⟩ := hsl.cell b _ hib
  have iB : LtB B w.heap.size := ⟨hlt⟩
  have hla := (List.getElem?_eq_some_iff.1 hia).1
  have hlb := (List.getElem?_eq_some_iff.1 hib).1
  have q := hsl.big
  obtain ⟨sa, sc, sl⟩ := sl
  simp only at *
  subst hB
  simp only [Option.some.injEq, Addr.mk.injEq, and_true] at hB'
  obtain ⟨rfl, rfl⟩ := hB'
  have d0 : w.cell? ⟨B, off + a * 2, none⟩ = some _ := hca 0 _ rfl
  have d1 := hca 1 _ rfl
  have e0 : w.cell? ⟨B, off + b * 2, none⟩ = some _ := hcb 0 _ rfl
  have e1 := hcb 1 _ rfl
  clear hca hcb hlt hsl hl ha hb hia hib h
  unfold nearN
  generalize domV x key = dx at *
  generalize domV y key = dy at *
  simp only [dmOf] at d0 d1 e0 e1
  cases dx with
  | none =>
    go_enter Tryz.func149, Tryz.ntmps149
    go_wp2_with fail
    refine wp_region_gr (by kernel_rfl) (by kernel_rfl) ?_
    repeat (go_big_quiet_step ((first | fail)))
    refine wpQuiet_nil ?_
    intro g
    go_wp2_with fail
    go_ret
    exact ⟨rfl, (by repeat' (first | exact Below.refl _ _ | assumption | refine b_gr ?_ _ | refine b_alloc ?_ _ | refine b_drew ?_))⟩
  | some u =>
    cases dy with
    | none =>
      go_enter Tryz.func149, Tryz.ntmps149
      go_wp2_with fail
      refine wp_region_gr (by kernel_rfl) (by kernel_rfl) ?_
      repeat (go_big_quiet_step ((first | fail)))
      refine wpQuiet_nil ?_
      intro g
      go_wp2_with fail
      go_ret
      exact ⟨rfl, (by repeat' (first | exact Below.refl _ _ | assumption | refine b_gr ?_ _ | refine b_alloc ?_ _ | refine b_drew ?_))⟩
    | some v =>
      go_enter Tryz.func149, Tryz.ntmps149
      go_wp2_with fail
      refine wp_region_gr (by kernel_rfl) (by kernel_rfl) ?_
      repeat (go_big_quiet_step ((first | fail)))
      refine wpQuiet_nil ?_
      intro g
      go_wp2_with fail
      go_ret
      exact ⟨by rw [← seq_w]; rfl, (by repeat' (first | exact Below.refl _ _ | assumption | refine b_gr ?_ _ | refine b_alloc ?_ _ | refine b_drew ?_))⟩
theorem map_sees {w w' : World} {mb : Nat} (hg : w.grownBy w' (some mb)) (h0 : ∃ es c, w.heap[mb]? = some (.map es c)) (h1 : ∃ es c, w'.heap[mb]? = some (.map es c)) : Sees w w' :=
  ⟨hg.size, fun b o hb => by
    by_cases e : b = mb
    · subst e
      rw [cell_map h0]
      exact cell_map h1
    · exact World.cell?_of_block (a := ⟨b, o, none⟩) (hg.block b hb (by simpa using e))⟩
theorem map_kept {w w' : World} {mb : Nat} (hg : w.grownBy w' (some mb)) (h0 : ∃ es c, w.heap[mb]? = some (.map es c)) : Kept w w' := by
  obtain ⟨es, c, h0⟩ := h0
  exact Kept.of_grown hg h0 (fun cs e => by cases e)
theorem gm_step {w W W' : World} {mb : Nat} {J : World → Prop} (hB : Below w.heap.size w W) (hg : W.grownBy W' (some mb)) (h0 : ∃ es c, w.heap[mb]? = some (.map es c)) (h1 : ∃ es c, W'.heap[mb]? = some (.map es c)) (hJ : J W') : ∃ g : Gm w mb J, W' = gm w mb J g :=
  ⟨⟨W', hg.os.trans hB.os, hg.tape.trans hB.tape, hg.output.trans hB.output, Nat.le_trans hB.size hg.size, fun b hb hne => (hg.block b (Nat.lt_of_lt_of_le hb hB.size) (by simpa using hne)).trans (hB.block b hb), h0, h1, hJ⟩, rfl⟩
theorem gm_of_below {w W : World} {mb : Nat} {J : World → Prop} (hS : Stays J) (hB : Below w.heap.size w W) (h0 : ∃ es c, w.heap[mb]? = some (.map es c)) (hJ : J w) : ∃ g : Gm w mb J, W = gm w mb J g := by
  obtain ⟨es, c, h0'⟩ := h0
  exact ⟨⟨W, hB.os, hB.tape, hB.output, hB.size, fun b hb _ => hB.block b hb, ⟨es, c, h0'⟩, ⟨es, c, (hB.block mb (Array.getElem?_eq_some_iff.1 h0').1).trans h0'⟩, hS w W hB hJ⟩, rfl⟩
theorem own_map {P : Program} {k : TypeId} {H : Type} {R : Value → Option (DataW H × List MemPlace)} {b n : Nat} {D : DataW H} {W : World} (h : W.ownsMap P k R b n D) : ∃ es c, W.heap[b]? = some (.map es c) := by
  obtain ⟨es, c, hb, _⟩ := h
  exact ⟨es, c, hb⟩
set_option maxRecDepth 100000 in
set_option maxHeartbeats 4000000 in
theorem lnear_ok (k : Nat) (s : Snap) (p : SL Int) (us : SL Vec) (mb a b : Nat) (x y : Node) (key : ByteArray) (L : List ByteArray) (w : World) (h : LookAt w k s p us mb) (hC : Cache s L mb w) (hk : key ∈ L) (hL : L.length ≤ 48) (hks : key.size ≤ 15) (hz : snapCheck s = 0)
    (ha : s.nodes.l[a]? = some x) (hb : s.nodes.l[b]? = some y) :
    Calls Tryz.prog 149 #[.pointer (some ⟨k, 0, none⟩), .int .i64 (a : Int), .int .i64 (b : Int), .string key] w (GivesM mb (Cache s L mb) (.bool (nearN x y key)) w) := by
  have hmap := hC.map
  have HCC := hide hC
  obtain ⟨n, D, hO, hM, hn, hv⟩ := hC
  have hkey := Go.WideMaps.keyOf_string_mk (P := Tryz.prog) Tryz.underlying9 (s := key) (by unfold maxLen; omega)
  obtain ⟨v, ps, hrun, hR⟩ := hO.look_ok (string_keyed Tryz.underlying9) Tryz.underlying100 (z := .slice none 0 0) (by kernel_rfl) (zd := .held (.slice none 0 0)) (zp := []) rfl hkey
  simp only [heldV, Option.some.injEq, Prod.mk.injEq, DataW.held.injEq] at hR
  obtain ⟨hR, rfl⟩ := hR
  change (_ : DataW Value) = D.atKey (lk key) _ at hR
  change (_ : Sem Value).run _ _ = Result.ok (Value.tuple #[v, .bool (Maps.has D (lk key))]) w at hrun
  cases hh : has D (lk key) with
  | true =>
    obtain ⟨sl, h1, h2, h3⟩ := hv key hh
    rw [h1] at hR
    injection hR with hR
    subst hR
    rw [hh] at hrun
    exact (near_known k s p us mb a b x y key w h sl h2.at_ h3 ha hb hrun).mono fun e w' hg => ⟨hg.1, gm_of_below (Cache.stays _ _ _) hg.2 hmap HCC.out⟩
  | false =>
    rw [atKey_of_not_has hh] at hR
    injection hR with hR
    subst hR
    rw [hh] at hrun
    have ik := h.lt
    have k0 := h.c0
    have k1 := h.c1
    have k2 := h.c2
    have k5 := h.c5
    have HD := hide (fun (i : Nat) (z : Node) (hz' : s.nodes.l[i]? = some z) W hW => domain_ok s i key z W (h.s.below hW) hz hz')
    have hn48 : n ≤ 48 := Nat.le_trans hn (Nat.le_trans (List.length_filter_le _ _) hL)
    have hns := (snap_facts hz).1
    have Hia := hide (dms_at (key := key) ha)
    have Hib := hide (dms_at (key := key) hb)
    have HP := hide (fun (W W' : World) (hW : Kept w W) (sl : SL Dm) hsl hl hO' hS => Cache.put (s := s) (L := L) (mb := mb) (W := W) (W' := W') hk hM hn (fun k hk' => by
      obtain ⟨s1, h1, h2, h3⟩ := hv k hk'
      exact ⟨s1, h1, h2.kept hW, h3⟩) hh sl hsl hl hO' hS)
    have hOw := hide hO
    have hmapH := hide hmap
    have hla := (List.getElem?_eq_some_iff.1 ha).1
    have hlb := (List.getElem?_eq_some_iff.1 hb).1
    unfold nearN
    unfold dmsOf at Hia Hib HP
    generalize domV x key = dx at *
    generalize domV y key = dy at *
    clear hO hM hn hv hh hk hL hks hz ha hb h hmap
    obtain ⟨i0, hi, hz0, hz1, hz2⟩ := info_parts info_dom
    have Hi := hide hi
    have Hz0 := hide hz0
    have Hz1 := hide hz1
    have Hz2 := hide hz2
    clear hi hz0 hz1 hz2
    obtain ⟨⟨na, nc, nl⟩, ps, os⟩ := s
    simp only [Snap.val] at *
    go_enter Tryz.func149, Tryz.ntmps149
    go_wp2_with fail
    go_loopg [9, 31] nl.length (fun gg s9 s31 wr => ∃ kk : Nat, kk ≤ nl.length ∧ nl.length - kk ≤ gg ∧ s31 = .int .i64 kk ∧ Hid (∃ G : Grw w, wr = gr w G ∧ (gr w G).ownsRow w.heap.size 212 2 s9 kk (((nl.take kk).map fun z => dmOf (domV z key)).flatMap Dm.enc)))
    case atStart => exact ⟨0, Nat.zero_le _, by omega, rfl, ⟨w, Below.refl _ _⟩, rfl, World.ownsRow_nil _ _ _ _⟩
    case round =>
      obtain ⟨kk, hkk, hg, rfl, ⟨G, rfl, HO⟩⟩ := hrel
      have HO' := hide HO
      clear HO
      by_cases hlt : kk < nl.length
      · have hx : nl[kk]? = some nl[kk] := List.getElem?_eq_getElem hlt
        generalize nl[kk] = z at hx
        have HDz := hide (fun W hW => HD.out kk z hx W hW)
        have Hx := hide hx
        clear hx
        unfold getVal at HDz
        have Hm := hide (take_succ_map (fun z => dmOf (domV z key)) Hx.out)
        generalize domV z key = dz at *
        go_wp2_with fail
        refine (calls_gr (HDz.out _ (by repeat' (first | exact Below.refl _ _ | assumption | refine b_gr ?_ _ | refine b_alloc ?_ _ | refine b_drew ?_)))).mono ?_
        rintro e w1 ⟨rfl, g1, rfl⟩
        go_wp2_with (at_builtin; refine wpList_append_own _ rfl _ _ 208 rfl w.heap.size 212 i0 _ 2 24 Tryz.underlying208 Hi.out Hz0.out Hz1.out Hz2.out rfl (by decide) _ _ _ rfl (own_below (own_gr HO'.out g1) (b_alloc (Below.refl _ _) _)) _ 1 1 (Dm.enc (dmOf dz)) rfl rfl (cells_new _ _ _) (by simp [Value.oneCell']) (by simp only [maxLen]; omega) (by omega) (b_alloc (b_gr (gr_below w G) _) _).size ?_; intro v' w2 hown' hgrow _)
        go_roundg (nl.length - (kk + 1))
        case measure => omega
        case rel =>
          have hB := grown_below (b_alloc (b_gr (gr_below w G) _) _) hgrow (own_ge HO'.out)
          obtain ⟨G', rfl⟩ := to_gr hB
          exact ⟨kk + 1, by omega, by omega, by go_num, G', rfl, by rw [Hm.out, flat_snoc]; exact hown'⟩
      · obtain rfl : kk = nl.length := by omega
        have h := HO'.out
        rw [List.take_length] at h
        obtain ⟨sl, hs1, rfl, hs3⟩ := dms_of_row (xs := nl.map fun z => dmOf (domV z key)) (by rw [List.length_map]; exact h) (by rw [List.length_map]; omega)
        have hOG := hOw.out.kept (grown_gr w G) (by simp)
        have hll : sl.l.length = nl.length := by rw [hs1, List.length_map]
        have Hll := hide hll
        have hsll : sl.l.length ≤ 8 := by omega
        have hla' : a < sl.l.length := by omega
        have hlb' : b < sl.l.length := by omega
        have Hia' := hide (show sl.l[a]? = some (dmOf dx) by rw [hs1]; exact Hia.out)
        have Hib' := hide (show sl.l[b]? = some (dmOf dy) by rw [hs1]; exact Hib.out)
        have Hs1 := hide hs1
        have Hs3 := hide hs3
        clear h hs1 hs3 hll HO' HD Hia Hib hlt hkk hg hla hlb
        simp only [SL.val]
        go_wp2_with (at_mapUpdate; refine wpList_mapUpdate_own _ rfl _ _ _ 100 rfl 9 208 (string_keyed Tryz.underlying9) Tryz.underlying100 heldV mb n _ rfl hOG (by unfold maxLen; omega) _ _ _ rfl rfl hkey (.held (.slice sl.a sl.l.length sl.c)) [] rfl ?_; intro w3 hown3 hgrow3)
        go_frame
        have hS := map_kept hgrow3 (own_map hOG)
        have hC3 := HP.out (gr w G) w3 (Kept.of_below (gr_below w G)) sl Hs3.out Hs1.out hown3 hS
        have HG := hide (gm_step (gr_below w G) hgrow3 hmapH.out (own_map hown3) hC3)
        have hs3' := (Hs3.out.kept hS).at_
        obtain ⟨B, off, hB, hlt, hca⟩ := hs3'.cell a _ Hia'.out
        obtain ⟨B', off', hB', _, hcb⟩ := hs3'.cell b _ Hib'.out
        have iB : LtB B w3.heap.size := ⟨hlt⟩
        rw [hB] at hB'
        simp only [Option.some.injEq, Addr.mk.injEq, and_true] at hB'
        obtain ⟨rfl, rfl⟩ := hB'
        have d0 : w3.cell? ⟨B, off + a * 2, none⟩ = some _ := hca 0 _ rfl
        have d1 := hca 1 _ rfl
        have e0 : w3.cell? ⟨B, off + b * 2, none⟩ = some _ := hcb 0 _ rfl
        have e1 := hcb 1 _ rfl
        have HB := hide hB
        clear hca hcb hlt hs3' hC3 hS hown3 hgrow3 HP Hs1 Hs3 Hia' Hib' hOG hOw HCC hmapH Hll k0 k1 k2 k5 ik hB hrun
        rw [HB.out]
        simp only [dmOf] at d0 d1 e0 e1
        generalize sl.l.length = sn at *
        cases dx with
        | none =>
          refine wp_region_gr (by kernel_rfl) (by kernel_rfl) ?_
          repeat (go_big_quiet_step ((first | fail)))
          refine wpQuiet_nil ?_
          intro g
          go_wp2_with fail
          go_ret
          obtain ⟨GM, rfl⟩ := HG.out
          exact ⟨rfl, gm_below (Cache.stays _ _ _) GM (gr_below _ g)⟩
        | some u =>
          cases dy with
          | none =>
            refine wp_region_gr (by kernel_rfl) (by kernel_rfl) ?_
            repeat (go_big_quiet_step ((first | fail)))
            refine wpQuiet_nil ?_
            intro g
            go_wp2_with fail
            go_ret
            obtain ⟨GM, rfl⟩ := HG.out
            exact ⟨rfl, gm_below (Cache.stays _ _ _) GM (gr_below _ g)⟩
          | some v =>
            refine wp_region_gr (by kernel_rfl) (by kernel_rfl) ?_
            repeat (go_big_quiet_step ((first | fail)))
            refine wpQuiet_nil ?_
            intro g
            go_wp2_with fail
            go_ret
            obtain ⟨GM, rfl⟩ := HG.out
            exact ⟨by rw [← seq_w]; rfl, gm_below (Cache.stays _ _ _) GM (gr_below _ g)⟩
end Go.Proofs.YtnjjdilmaepokaaGreat
namespace Go.Proofs.YtnjjdilmaepokaaGreat
open Go.RowKit Go.Maps
def atOf (l : List Int) (i : Nat) : Int := l.getD i (-1)
def manyP (l : List Int) (q : Nat → Bool) (i : Nat) : Bool := decide (0 ≤ atOf l i) && q i
def manyTo (l : List Int) (q : Nat → Bool) (k : Nat) : Nat := ((List.range k).filter (manyP l q)).length
def manyN (l : List Int) (q : Nat → Bool) : Nat := manyTo l q l.length
theorem manyTo_succ (l : List Int) (q : Nat → Bool) (k : Nat) : manyTo l q (k + 1) = manyTo l q k + (if manyP l q k then 1 else 0) := by
  unfold manyTo
  rw [List.range_succ, List.filter_append]
  cases h : manyP l q k <;> simp [h]
theorem manyTo_le (l : List Int) (q : Nat → Bool) (k : Nat) : manyTo l q k ≤ k := Nat.le_trans (List.length_filter_le _ _) (by simp)
section
variable {w : World} {mb : Nat} {J : World → Prop}
theorem gm_pre {W : World} (hB : Below w.heap.size w W) (h0 : ∃ es c, w.heap[mb]? = some (.map es c)) (g : Gm W mb J) : ∃ g' : Gm w mb J, gm W mb J g = gm w mb J g' :=
  ⟨⟨g.w', g.os.trans hB.os, g.tape.trans hB.tape, g.output.trans hB.output, Nat.le_trans hB.size g.size, fun b hb hne => (g.block b (Nat.lt_of_lt_of_le hb hB.size) hne).trans (hB.block b hb), h0, g.m1, g.j⟩, rfl⟩
theorem map_below {W : World} (hB : Below w.heap.size w W) (h0 : ∃ es c, w.heap[mb]? = some (.map es c)) : ∃ es c, W.heap[mb]? = some (.map es c) := by
  obtain ⟨es, c, h⟩ := h0
  exact ⟨es, c, (hB.block mb (Array.getElem?_eq_some_iff.1 h).1).trans h⟩
theorem GivesM.pre {W : World} {v : Value} {e : Ending} {w' : World} (hB : Below w.heap.size w W) (h0 : ∃ es c, w.heap[mb]? = some (.map es c)) (h : GivesM mb J v W e w') : GivesM mb J v w e w' := by
  obtain ⟨he, g, rfl⟩ := h
  exact ⟨he, gm_pre hB h0 g⟩
theorem GivesM.of_gives {v : Value} {e : Ending} {w' : World} (hS : Stays J) (h0 : ∃ es c, w.heap[mb]? = some (.map es c)) (hJ : J w) (h : Gives v w e w') : GivesM mb J v w e w' := ⟨h.1, gm_of_below hS h.2 h0 hJ⟩
theorem quietM {P : Program} {f : FuncId} {args : Array Value} {g : Gm w mb J} {v : Value} (h : Calls P f args (gm w mb J g) (GivesM mb J v (gm w mb J g))) : Calls P f args (gm w mb J g) fun e w'' => e = .returned v ∧ ∃ g' : Gm w mb J, w'' = gm w mb J g' :=
  h.mono fun _ _ ⟨he, g2, hw⟩ => ⟨he, by rw [hw]; exact gm_gm g g2⟩
theorem quietMG {P : Program} {f : FuncId} {args : Array Value} {g : Gm w mb J} {v : Value} (hS : Stays J) (h : Calls P f args (gm w mb J g) (Gives v (gm w mb J g))) : Calls P f args (gm w mb J g) fun e w'' => e = .returned v ∧ ∃ g' : Gm w mb J, w'' = gm w mb J g' :=
  h.mono fun _ _ ⟨he, hb⟩ => ⟨he, gm_below hS g hb⟩
end
set_option maxHeartbeats 1000000 in
theorem many_ok' (k : Nat) (s : Snap) (p : SL Int) (us : SL Vec) (mb : Nat) (J : World → Prop) (hS : Stays J) (q : Nat → Bool) (g : Nat) (lb : Array Value) (eg : ∀ args w, (callFunc g args).run Tryz.prog w = .ok (.enter g args) w) (w : World) (h : LookAt w k s p us mb)
    (hm : ∃ es c, w.heap[mb]? = some (.map es c)) (hJ : J w) (hq : ∀ (G : Gm w mb J) (i : Nat) (x : Int), p.l[i]? = some x → 0 ≤ x → Calls Tryz.prog g (#[.int .i64 (i : Int)] ++ lb) (gm w mb J G) (GivesM mb J (.bool (q i)) (gm w mb J G))) :
    Calls Tryz.prog 125 #[.pointer (some ⟨k, 0, none⟩), .func (.func g) #[] lb] w (GivesM mb J (.int .i64 (manyN p.l q : Int)) w) := by
  have ik := h.lt
  have k3 := h.c3
  have hc := hide h.p.cell
  have hl := h.p.big
  have HQ := hide hq
  have H0 := hide (gm_self hm hJ)
  clear hq h hm hJ
  obtain ⟨pa, pc, l⟩ := p
  simp only at *
  unfold manyN
  go_enter Tryz.func125, Tryz.ntmps125
  go_wp2_with fail
  go_loopg [4, 12] l.length (fun gg s4 s12 wr => ∃ kk : Nat, kk ≤ l.length ∧ l.length - kk ≤ gg ∧ s12 = .int .i64 kk ∧ s4 = .int .i64 (manyTo l q kk : Int) ∧ Hid (∃ G : Gm w mb J, wr = gm w mb J G))
  case atStart => exact ⟨0, Nat.zero_le _, by omega, rfl, rfl, H0.out⟩
  case round =>
    obtain ⟨kk, hkk, hg, rfl, rfl, ⟨G, rfl⟩⟩ := hrel
    have hm := manyTo_le l q kk
    have Hx := hide (manyTo_succ l q kk)
    by_cases hlt : kk < l.length
    · have hx : l[kk]? = some l[kk] := List.getElem?_eq_getElem hlt
      obtain ⟨b, off, rfl, hb, hcell⟩ := hc.out kk l[kk] hx
      have ib : LtB b w.heap.size := ⟨hb⟩
      generalize l[kk] = x at hx hcell
      have c0 : w.cell? ⟨b, off + kk, none⟩ = some (.int .i64 x) := by have h := hcell 0 _ rfl; simpa using h
      have hat : atOf l kk = x := by simp [atOf, List.getD_eq_getElem?_getD, hx]
      by_cases h0 : 0 ≤ x
      · have HC := hide (HQ.out G kk x hx h0)
        have hP : manyP l q kk = q kk := by simp [manyP, hat, h0]
        have Hx' := hide (show manyTo l q (kk + 1) = manyTo l q kk + (if q kk then 1 else 0) by rw [Hx.out, hP])
        have hge : decide (x ≥ 0) = true := by simpa using h0
        clear hP hat hx hcell hb Hx
        cases hq : q kk
        all_goals
          rw [hq] at HC Hx'
          clear hq
          have Hx := hide (show manyTo l q (kk + 1) = _ from Hx'.out)
          clear Hx'
          go_wp2_with fail
          refine HC.out.mono ?_
          rintro e w1 ⟨rfl, G2, rfl⟩
          have HG := hide (gm_gm G G2)
          go_wp2_with fail
          go_roundg (l.length - (kk + 1))
          case measure => omega
          case rel => exact ⟨kk + 1, by omega, by omega, by go_num, by rw [Hx.out]; simp, HG.out⟩
      · have hP : manyP l q kk = false := by simp [manyP, hat, h0]
        have Hx' := hide (show manyTo l q (kk + 1) = manyTo l q kk by rw [Hx.out, hP]; rfl)
        have hge : decide (x ≥ 0) = false := by simpa using h0
        clear hP hat hx hcell hb Hx
        go_wp2_with fail
        go_roundg (l.length - (kk + 1))
        case measure => omega
        case rel => exact ⟨kk + 1, by omega, by omega, by go_num, by rw [Hx'.out], G, rfl⟩
    · obtain rfl : kk = l.length := by omega
      go_wp2_with fail
      go_ret
      exact ⟨rfl, G, rfl⟩
end Go.Proofs.YtnjjdilmaepokaaGreat
namespace Go.Proofs.YtnjjdilmaepokaaGreat
open Go.RowKit Go.Maps
def nearAt (s : Snap) (x y : Int) (key : ByteArray) : Bool := match s.nodes.l[x.toNat]?, s.nodes.l[y.toNat]? with | some m, some n => nearN m n key | _, _ => false
def podLabels (s : Snap) (j : Nat) : List Label := match s.pods.l[j]? with | some y => y.labels.l | none => []
def aroundQ (s : Snap) (p : List Int) (i : Nat) (x : Near) (self : Bool) (j : Nat) : Bool := (self || j != i) && nearAt s (atOf p j) (atOf p i) x.topo && holdsB x.terms.l (podLabels s j)
def aroundN (s : Snap) (p : List Int) (i : Nat) (x : Near) (self : Bool) : Nat := manyN p (aroundQ s p i x self)
/-- A look at block k, of a placement that may be; its cache is right. -/
structure Looks (w : World) (k : Nat) (s : Snap) (p : SL Int) (us : SL Vec) (mb : Nat) (L : List ByteArray) : Prop where
  at_ : LookAt w k s p us mb
  z : placeCheck s p.l = 0
  few : L.length ≤ 48
  c : Cache s L mb w
theorem Looks.below {w W : World} {k : Nat} {s : Snap} {p : SL Int} {us : SL Vec} {mb : Nat} {L : List ByteArray} (h : Looks w k s p us mb L) (hb : Below w.heap.size w W) : Looks W k s p us mb L :=
  ⟨h.at_.below hb, h.z, h.few, Cache.stays _ _ _ _ _ hb h.c⟩
theorem Looks.gm {w : World} {k : Nat} {s : Snap} {p : SL Int} {us : SL Vec} {mb : Nat} {L : List ByteArray} (h : Looks w k s p us mb L) (g : Gm w mb (Cache s L mb)) : Looks (gm w mb (Cache s L mb) g) k s p us mb L :=
  ⟨h.at_.sees (Sees.of_gm g), h.z, h.few, g.j⟩
theorem node_at {s : Snap} {p : List Int} (h : placeCheck s p = 0) {i : Nat} {x : Int} (hx : p[i]? = some x) (h0 : 0 ≤ x) : ∃ (a : Nat) (n : Node), x = a ∧ s.nodes.l[a]? = some n := by
  have hf := (place_facts h).2.2 x (List.mem_of_getElem? hx)
  obtain ⟨a, rfl⟩ := Int.eq_ofNat_of_zero_le h0
  have : a < s.nodes.l.length := by omega
  exact ⟨a, s.nodes.l[a], rfl, List.getElem?_eq_getElem this⟩
theorem pod_at {s : Snap} {p : List Int} (h : placeCheck s p = 0) {i : Nat} {x : Int} (hx : p[i]? = some x) : ∃ y, s.pods.l[i]? = some y := by
  have := (List.getElem?_eq_some_iff.1 hx).1
  rw [(place_facts h).2.1] at this
  exact ⟨_, List.getElem?_eq_getElem this⟩
theorem at_of {p : List Int} {i : Nat} {x : Int} (hx : p[i]? = some x) : atOf p i = x := by simp [atOf, List.getD_eq_getElem?_getD, hx]
theorem bne_nat (a b : Nat) : ((a : Int) != (b : Int)) = (a != b) := by
  by_cases h : a = b
  · subst h; simp
  · have h1 : ((a : Int) != (b : Int)) = true := by rw [bne_iff_ne]; omega
    have h2 : (a != b) = true := by rw [bne_iff_ne]; exact h
    rw [h1, h2]
set_option maxRecDepth 100000 in
set_option maxHeartbeats 4000000 in
theorem around1_ok (k : Nat) (s : Snap) (p : SL Int) (us : SL Vec) (mb : Nat) (L : List ByteArray) (w : World) (hL : Looks w k s p us mb L) (i j : Nat) (xi xj : Int) (hi : p.l[i]? = some xi) (hi0 : 0 ≤ xi) (hj : p.l[j]? = some xj) (hj0 : 0 ≤ xj)
    (x : Near) (ht : Terms w x.terms) (hx : x.topo ∈ L) (hxs : x.topo.size ≤ 15) (self : Bool) (bk bi bs bx : Nat) (ik : LtB bk w.heap.size) (ii : LtB bi w.heap.size) (is : LtB bs w.heap.size) (ix : LtB bx w.heap.size)
    (ck : w.cell? ⟨bk, 0, none⟩ = some (.pointer (some ⟨k, 0, none⟩))) (ci : w.cell? ⟨bi, 0, none⟩ = some (.int .i64 (i : Int))) (cs : w.cell? ⟨bs, 0, none⟩ = some (.bool self))
    (cx0 : w.cell? ⟨bx, 0, none⟩ = some (.string x.topo)) (cx1 : w.cell? ⟨bx, 1, none⟩ = some (.slice x.terms.a x.terms.l.length x.terms.c)) :
    Calls Tryz.prog 148 #[.int .i64 (j : Int), .pointer (some ⟨bs, 0, none⟩), .pointer (some ⟨bi, 0, none⟩), .pointer (some ⟨bk, 0, none⟩), .pointer (some ⟨bx, 0, none⟩)] w (GivesM mb (Cache s L mb) (.bool (aroundQ s p.l i x self j)) w) := by
  have h := hL.at_
  obtain ⟨y, hy⟩ := pod_at hL.z hj
  obtain ⟨a, ni, rfl, hni⟩ := node_at hL.z hi hi0
  obtain ⟨b, nj, rfl, hnj⟩ := node_at hL.z hj hj0
  have hQ : aroundQ s p.l i x self j = ((self || j != i) && nearN nj ni x.topo && holdsB x.terms.l y.labels.l) := by
    unfold aroundQ nearAt podLabels
    rw [at_of hi, at_of hj, hy]
    simp only [Int.toNat_natCast, hni, hnj]
  rw [hQ]
  have hz := (place_facts hL.z).1
  have HN := hide (fun G : Gm w mb (Cache s L mb) => lnear_ok k s p us mb b a nj ni x.topo L _ (hL.gm G).at_ (hL.gm G).c hx hL.few hxs hz hnj hni)
  have HH := hide (fun G : Gm w mb (Cache s L mb) => holds_ok x.terms y.labels _ (ht.sees (Sees.of_gm G)) ((h.s.pod y (List.mem_of_getElem? hy)).labels.sees (Sees.of_gm G)))
  have hne0 : Nonempty (Gm w mb (Cache s L mb)) := ⟨(gm_self hL.c.map hL.c).choose⟩
  have hm0 := hide hL.c.map
  have hj0' := hide hL.c
  have il := h.lt
  have k0 := h.c0
  have k1 := h.c1
  have k3 := h.c3
  obtain ⟨b2, o2, ha2, hb2, hc2⟩ := h.s.pods.cell j y hy
  obtain ⟨b3, o3, ha3, hb3, hc3⟩ := h.p.cell i _ hi
  obtain ⟨b3', o3', ha3', _, hc3'⟩ := h.p.cell j _ hj
  rw [ha3] at ha3'
  simp only [Option.some.injEq, Addr.mk.injEq, and_true] at ha3'
  obtain ⟨rfl, rfl⟩ := ha3'
  have i2 : LtB b2 w.heap.size := ⟨hb2⟩
  have i3 : LtB b3 w.heap.size := ⟨hb3⟩
  have e7 := hc2 7 _ rfl
  have f0 : w.cell? ⟨b3, o3 + i, none⟩ = some (.int .i64 a) := by have h := hc3 0 _ rfl; simpa using h
  have f1 : w.cell? ⟨b3, o3 + j, none⟩ = some (.int .i64 b) := by have h := hc3' 0 _ rfl; simpa using h
  have hlj := (List.getElem?_eq_some_iff.1 hy).1
  have hli := (List.getElem?_eq_some_iff.1 hi).1
  have hli' := (List.getElem?_eq_some_iff.1 hj).1
  have q2 := h.s.pods.big
  have q3 := h.p.big
  rw [ha2] at k1
  rw [ha3] at k3
  have hne := bne_nat j i
  have Hne := hide hne
  clear hne hc2 hc3 hc3' hb2 hb3 h hL hi hj hy hni hnj ht hx hxs hz hQ hi0 hj0 ha2 ha3
  generalize nearN nj ni x.topo = q at *
  generalize holdsB x.terms.l y.labels.l = r at *
  simp only [SL.val] at HH
  by_cases hji : j = i
  · subst hji
    have hab : a = b := by have h := f0.symm.trans f1; simp only [Option.some.injEq, Value.int.injEq, true_and] at h; omega
    subst hab
    clear f1 hli'
    have hne : ((j : Int) != (j : Int)) = false := by simp
    clear Hne
    cases self with
    | false =>
      rw [show ((false || j != j) && q && r) = false by simp]
      clear HN HH
      go_enter Tryz.func148, Tryz.ntmps148
      go_wp2_with fail
      refine wp_region_gm (Cache.stays _ _ _) hm0.out hj0'.out (by kernel_rfl) (by kernel_rfl) ?_
      repeat (go_big_quiet_step ((first | fail)))
      refine wpQuiet_nil ?_
      intro g
      go_wp2_with fail
      go_ret
      exact ⟨rfl, g, rfl⟩
    | true =>
      rw [show ((true || j != j) && q && r) = (q && r) by simp]
      cases q
      · rw [show (false && r) = false by simp]
        clear HH
        go_enter Tryz.func148, Tryz.ntmps148
        go_wp2_with fail
        refine wp_region_gm (Cache.stays _ _ _) hm0.out hj0'.out (by kernel_rfl) (by kernel_rfl) ?_
        repeat (go_big_quiet_step ((first | (go_at_call 149; exact quietM (HN.out _)))))
        refine wpQuiet_nil ?_
        intro g
        go_wp2_with fail
        go_ret
        exact ⟨rfl, g, rfl⟩
      · rw [show (true && r) = r by simp]
        go_enter Tryz.func148, Tryz.ntmps148
        go_wp2_with fail
        refine wp_region_gm (Cache.stays _ _ _) hm0.out hj0'.out (by kernel_rfl) (by kernel_rfl) ?_
        repeat (go_big_quiet_step ((first | (go_at_call 149; exact quietM (HN.out _)) | (go_at_call 115; exact quietMG (Cache.stays _ _ _) (HH.out _)))))
        refine wpQuiet_nil ?_
        intro g
        go_wp2_with fail
        go_ret
        exact ⟨rfl, g, rfl⟩
  · have hne' : (j != i) = true := by simpa using hji
    have hne : ((j : Int) != (i : Int)) = true := by rw [Hne.out, hne']
    have HE := hide (show ((self || j != i) && q && r) = (q && r) by rw [hne']; simp)
    clear Hne hne' hji
    rw [HE.out]
    cases self <;> cases q
    · rw [show (false && r) = false by simp]
      clear HH HE
      go_enter Tryz.func148, Tryz.ntmps148
      go_wp2_with fail
      refine wp_region_gm (Cache.stays _ _ _) hm0.out hj0'.out (by kernel_rfl) (by kernel_rfl) ?_
      repeat (go_big_quiet_step ((first | (go_at_call 149; exact quietM (HN.out _)))))
      refine wpQuiet_nil ?_
      intro g
      go_wp2_with fail
      go_ret
      exact ⟨rfl, g, rfl⟩
    · rw [show (true && r) = r by simp]
      clear HE
      go_enter Tryz.func148, Tryz.ntmps148
      go_wp2_with fail
      refine wp_region_gm (Cache.stays _ _ _) hm0.out hj0'.out (by kernel_rfl) (by kernel_rfl) ?_
      repeat (go_big_quiet_step ((first | (go_at_call 149; exact quietM (HN.out _)) | (go_at_call 115; exact quietMG (Cache.stays _ _ _) (HH.out _)))))
      refine wpQuiet_nil ?_
      intro g
      go_wp2_with fail
      go_ret
      exact ⟨rfl, g, rfl⟩
    · rw [show (false && r) = false by simp]
      clear HH HE
      go_enter Tryz.func148, Tryz.ntmps148
      go_wp2_with fail
      refine wp_region_gm (Cache.stays _ _ _) hm0.out hj0'.out (by kernel_rfl) (by kernel_rfl) ?_
      repeat (go_big_quiet_step ((first | (go_at_call 149; exact quietM (HN.out _)))))
      refine wpQuiet_nil ?_
      intro g
      go_wp2_with fail
      go_ret
      exact ⟨rfl, g, rfl⟩
    · rw [show (true && r) = r by simp]
      clear HE
      go_enter Tryz.func148, Tryz.ntmps148
      go_wp2_with fail
      refine wp_region_gm (Cache.stays _ _ _) hm0.out hj0'.out (by kernel_rfl) (by kernel_rfl) ?_
      repeat (go_big_quiet_step ((first | (go_at_call 149; exact quietM (HN.out _)) | (go_at_call 115; exact quietMG (Cache.stays _ _ _) (HH.out _)))))
      refine wpQuiet_nil ?_
      intro g
      go_wp2_with fail
      go_ret
      exact ⟨rfl, g, rfl⟩

set_option maxHeartbeats 1000000 in
theorem around_ok (k : Nat) (s : Snap) (p : SL Int) (us : SL Vec) (mb : Nat) (L : List ByteArray) (w : World) (hL : Looks w k s p us mb L) (i : Nat) (xi : Int) (hi : p.l[i]? = some xi) (hi0 : 0 ≤ xi)
    (x : Near) (ht : Terms w x.terms) (hx : x.topo ∈ L) (hxs : x.topo.size ≤ 15) (self : Bool) :
    Calls Tryz.prog 121 #[.pointer (some ⟨k, 0, none⟩), .int .i64 (i : Int), x.val, .bool self] w (GivesM mb (Cache s L mb) (.int .i64 (aroundN s p.l i x self : Int)) w) := by
  have hm := hL.c.map
  have HM := hide (fun W (hW : Below w.heap.size w W) (b1 : Blk W w.heap.size 80 #[.pointer (some ⟨k, 0, none⟩)]) (b2 : Blk W (w.heap.size + 1) 3 #[.int .i64 (i : Int)])
      (b3 : Blk W (w.heap.size + 2) 41 #[.string x.topo, .slice x.terms.a x.terms.l.length x.terms.c]) (b4 : Blk W (w.heap.size + 3) 4 #[.bool self]) =>
    (many_ok' k s p us mb (Cache s L mb) (Cache.stays _ _ _) (aroundQ s p.l i x self) 148 #[.pointer (some ⟨w.heap.size + 3, 0, none⟩), .pointer (some ⟨w.heap.size + 1, 0, none⟩), .pointer (some ⟨w.heap.size, 0, none⟩), .pointer (some ⟨w.heap.size + 2, 0, none⟩)]
      (enters_of Tryz.func148 (by kernel_rfl) rfl) W (hL.below hW).at_ (map_below hW hm) (hL.below hW).c (fun G j xj hj hj0 =>
        have i1 : LtB w.heap.size W.heap.size := b1.ltb
        have i2 : LtB (w.heap.size + 1) W.heap.size := b2.ltb
        have i3 : LtB (w.heap.size + 2) W.heap.size := b3.ltb
        have i4 : LtB (w.heap.size + 3) W.heap.size := b4.ltb
        around1_ok k s p us mb L _ ((hL.below hW).gm G) i j xi xj hi hi0 hj hj0 x ((ht.below hW).sees (Sees.of_gm G)) hx hxs self w.heap.size (w.heap.size + 1) (w.heap.size + 3) (w.heap.size + 2) inferInstance inferInstance inferInstance inferInstance
          ((cell_gm G _ _).trans (b1.cell 0)) ((cell_gm G _ _).trans (b2.cell 0)) ((cell_gm G _ _).trans (b4.cell 0)) ((cell_gm G _ _).trans (b3.cell 0)) ((cell_gm G _ _).trans (b3.cell 1)))).mono fun _ _ h => h.pre hW hm)
  clear hL ht
  simp only [Near.val]
  unfold aroundN
  generalize manyN p.l (aroundQ s p.l i x self) = nn at *
  go_enter Tryz.func121, Tryz.ntmps121
  go_wp2_with fail
  refine (HM.out _ (by repeat' (first | exact Below.refl _ _ | assumption | refine b_gr ?_ _ | refine b_alloc ?_ _ | refine b_drew ?_)) ?_ ?_ ?_ ?_).mono ?_
  iterate 4 (repeat' (first | exact Blk.new _ _ _ | exact Blk.at_ _ _ _ _ (by simp) | apply Blk.alloc))
  rintro e w1 ⟨rfl, G, rfl⟩
  go_wp2_with fail
  go_ret
  exact ⟨rfl, G, rfl⟩
end Go.Proofs.YtnjjdilmaepokaaGreat
namespace Go.Proofs.YtnjjdilmaepokaaGreat
open Go.RowKit Go.Maps
theorem snap_pods {s : Snap} (h : snapCheck s = 0) : ∀ y ∈ s.pods.l, podB s y = true := by
  intro n hn
  unfold snapCheck at h
  split at h
  · cases h
  · split at h
    · cases h
    · split at h
      · cases h
      · rename_i h3
        rw [Bool.not_eq_true] at h3
        have := List.any_eq_false.1 h3 n hn
        simpa using this
theorem near_size {n : Near} (h : nearB n = true) : n.topo.size ≤ 15 := by
  unfold nearB at h
  split at h
  · rename_i he
    have : n.topo.data.toList.length = 0 := by rw [List.isEmpty_iff.1 he]; rfl
    rw [Array.length_toList] at this
    have h2 : n.topo.size = n.topo.data.size := rfl
    omega
  · simp only [Bool.and_eq_true] at h
    have h1 := h.1
    unfold nameB at h1
    simp only [Bool.and_eq_true] at h1
    exact valueB_size h1.1
def topos (s : Snap) : List ByteArray := s.pods.l.flatMap fun y => [y.wth.topo, y.apart.topo]
theorem topos_few {s : Snap} (h : snapCheck s = 0) : (topos s).length ≤ 48 := by
  have := (snap_facts h).2.1
  unfold topos
  rw [List.length_flatMap]
  have h2 : ∀ l : List Pod, (l.map fun y => [y.wth.topo, y.apart.topo].length).sum = 2 * l.length := fun l => by
    induction l with
    | nil => rfl
    | cons y l ih => rw [List.map_cons, List.sum_cons, ih, List.length_cons]; simp only [List.length_cons, List.length_nil]; omega
  rw [h2]
  omega
theorem topo_facts {s : Snap} (h : snapCheck s = 0) {i : Nat} {y : Pod} (hy : s.pods.l[i]? = some y) : (y.wth.topo ∈ topos s ∧ y.wth.topo.size ≤ 15) ∧ (y.apart.topo ∈ topos s ∧ y.apart.topo.size ≤ 15) := by
  have hm := List.mem_of_getElem? hy
  have hp := snap_pods h y hm
  unfold podB at hp
  simp only [Bool.and_eq_true] at hp
  exact ⟨⟨List.mem_flatMap.2 ⟨y, hm, by simp⟩, near_size hp.1.2⟩, ⟨List.mem_flatMap.2 ⟨y, hm, by simp⟩, near_size hp.2⟩⟩
def pairB (x : Int × Bool) : Value := .tuple #[.int .i64 x.1, .bool x.2]
def withC (s : Snap) (p : List Int) (i : Nat) (y : Pod) : Int × Bool := if emp y.wth.topo then (0, false) else (max 0 (1 - (aroundN s p i y.wth true : Int)), true)
def apartC (s : Snap) (p : List Int) (i : Nat) (y : Pod) : Int × Bool := if emp y.apart.topo then (0, false) else ((aroundN s p i y.apart false : Int), true)
theorem aroundN_le (s : Snap) (p : List Int) (i : Nat) (x : Near) (b : Bool) : aroundN s p i x b ≤ p.length := manyTo_le _ _ _
set_option maxRecDepth 100000 in
set_option maxHeartbeats 2000000 in
theorem kinds3_ok (k : Nat) (s : Snap) (p : SL Int) (us : SL Vec) (mb : Nat) (w : World) (hL : Looks w k s p us mb (topos s)) (i : Nat) (xi : Int) (hi : p.l[i]? = some xi) (hi0 : 0 ≤ xi) (y : Pod) (hy : s.pods.l[i]? = some y) :
    Calls Tryz.prog 120 #[.pointer (some ⟨k, 0, none⟩), .int .i64 (i : Int)] w (GivesM mb (Cache s (topos s) mb) (pairB (withC s p.l i y)) w) := by
  have h := hL.at_
  have hm := hL.c.map
  have tf := (topo_facts (place_facts hL.z).1 hy).1
  have hyA := (h.s.pod y (List.mem_of_getElem? hy)).wth
  have HA := hide (fun W (hW : Below w.heap.size w W) => (around_ok k s p us mb (topos s) W (hL.below hW) i xi hi hi0 y.wth (hyA.below hW) tf.1 tf.2 true).mono fun _ _ h => h.pre hW hm)
  have H0 := hide (fun W (hW : Below w.heap.size w W) => gm_of_below (Cache.stays s (topos s) mb) hW hm hL.c)
  have ik := h.lt
  have k1 := h.c1
  obtain ⟨b2, o2, ha2, hb2, hc2⟩ := h.s.pods.cell i y hy
  have i2 : LtB b2 w.heap.size := ⟨hb2⟩
  have e10 := hc2 10 _ rfl
  have e11 := hc2 11 _ rfl
  have hlj := (List.getElem?_eq_some_iff.1 hy).1
  have q2 := h.s.pods.big
  have q3 := h.p.big
  rw [ha2] at k1
  have hle := aroundN_le s p.l i y.wth true
  clear hc2 hb2 h hL hi hy ha2 hi0 tf hm hyA
  unfold withC
  simp only [Near.val] at HA
  generalize aroundN s p.l i y.wth true = an at *
  rcases emp_cases y.wth.topo with ⟨t0, t1, t2⟩ | ⟨t0, t1, t2⟩
  · rw [t0]
    have Ht := hide t0
    clear t0 HA
    go_enter Tryz.func120, Tryz.ntmps120
    go_wp2_with fail
    go_ret2
    exact ⟨rfl, H0.out _ (by repeat' (first | exact Below.refl _ _ | assumption | refine b_gr ?_ _ | refine b_alloc ?_ _ | refine b_drew ?_))⟩
  · rw [t0]
    have Ht := hide t0
    clear t0 H0
    go_enter Tryz.func120, Tryz.ntmps120
    go_wp2_with fail
    refine (HA.out _ (by repeat' (first | exact Below.refl _ _ | assumption | refine b_gr ?_ _ | refine b_alloc ?_ _ | refine b_drew ?_))).mono ?_
    rintro e w1 ⟨rfl, G, rfl⟩
    go_wp2_with fail
    go_ret2
    exact ⟨rfl, G, rfl⟩
set_option maxRecDepth 100000 in
set_option maxHeartbeats 2000000 in
theorem kinds4_ok (k : Nat) (s : Snap) (p : SL Int) (us : SL Vec) (mb : Nat) (w : World) (hL : Looks w k s p us mb (topos s)) (i : Nat) (xi : Int) (hi : p.l[i]? = some xi) (hi0 : 0 ≤ xi) (y : Pod) (hy : s.pods.l[i]? = some y) :
    Calls Tryz.prog 122 #[.pointer (some ⟨k, 0, none⟩), .int .i64 (i : Int)] w (GivesM mb (Cache s (topos s) mb) (pairB (apartC s p.l i y)) w) := by
  have h := hL.at_
  have hm := hL.c.map
  have tf := (topo_facts (place_facts hL.z).1 hy).2
  have hyA := (h.s.pod y (List.mem_of_getElem? hy)).apart
  have HA := hide (fun W (hW : Below w.heap.size w W) => (around_ok k s p us mb (topos s) W (hL.below hW) i xi hi hi0 y.apart (hyA.below hW) tf.1 tf.2 false).mono fun _ _ h => h.pre hW hm)
  have H0 := hide (fun W (hW : Below w.heap.size w W) => gm_of_below (Cache.stays s (topos s) mb) hW hm hL.c)
  have ik := h.lt
  have k1 := h.c1
  obtain ⟨b2, o2, ha2, hb2, hc2⟩ := h.s.pods.cell i y hy
  have i2 : LtB b2 w.heap.size := ⟨hb2⟩
  have e12 := hc2 12 _ rfl
  have e13 := hc2 13 _ rfl
  have hlj := (List.getElem?_eq_some_iff.1 hy).1
  have q2 := h.s.pods.big
  have q3 := h.p.big
  rw [ha2] at k1
  have hle := aroundN_le s p.l i y.apart false
  clear hc2 hb2 h hL hi hy ha2 hi0 tf hm hyA
  unfold apartC
  simp only [Near.val] at HA
  generalize aroundN s p.l i y.apart false = an at *
  rcases emp_cases y.apart.topo with ⟨t0, t1, t2⟩ | ⟨t0, t1, t2⟩
  · rw [t0]
    have Ht := hide t0
    clear t0 HA
    go_enter Tryz.func122, Tryz.ntmps122
    go_wp2_with fail
    go_ret2
    exact ⟨rfl, H0.out _ (by repeat' (first | exact Below.refl _ _ | assumption | refine b_gr ?_ _ | refine b_alloc ?_ _ | refine b_drew ?_))⟩
  · rw [t0]
    have Ht := hide t0
    clear t0 H0
    go_enter Tryz.func122, Tryz.ntmps122
    go_wp2_with fail
    refine (HA.out _ (by repeat' (first | exact Below.refl _ _ | assumption | refine b_gr ?_ _ | refine b_alloc ?_ _ | refine b_drew ?_))).mono ?_
    rintro e w1 ⟨rfl, G, rfl⟩
    go_wp2_with fail
    go_ret2
    exact ⟨rfl, G, rfl⟩
end Go.Proofs.YtnjjdilmaepokaaGreat
namespace Go.Proofs.YtnjjdilmaepokaaGreat
open Go.RowKit Go.Maps
def podOwner (s : Snap) (j : Nat) : ByteArray := match s.pods.l[j]? with | some y => y.owner | none => ⟨#[]⟩
def doubleQ (s : Snap) (p : List Int) (i : Nat) (nm : ByteArray) (j : Nat) : Bool := (j != i) && (atOf p j == atOf p i) && seq (podOwner s j) nm
def doubleC (s : Snap) (p : List Int) (i : Nat) (y : Pod) : Int × Bool := if singleB s y.owner then ((manyN p (doubleQ s p i y.owner) : Int), true) else (0, false)
set_option maxRecDepth 100000 in
set_option maxHeartbeats 2000000 in
theorem double1_ok (k : Nat) (s : Snap) (p : SL Int) (us : SL Vec) (mb : Nat) (w : World) (h : LookAt w k s p us mb) (i j : Nat) (xi xj : Int) (hi : p.l[i]? = some xi) (hj : p.l[j]? = some xj) (z : Pod) (hz : s.pods.l[j]? = some z) (nm : ByteArray)
    (bk bi bn : Nat) (ik : LtB bk w.heap.size) (ii : LtB bi w.heap.size) (inn : LtB bn w.heap.size)
    (ck : w.cell? ⟨bk, 0, none⟩ = some (.pointer (some ⟨k, 0, none⟩))) (ci : w.cell? ⟨bi, 0, none⟩ = some (.int .i64 (i : Int))) (cn : w.cell? ⟨bn, 0, none⟩ = some (.string nm)) :
    Calls Tryz.prog 126 #[.int .i64 (j : Int), .pointer (some ⟨bi, 0, none⟩), .pointer (some ⟨bk, 0, none⟩), .pointer (some ⟨bn, 0, none⟩)] w (Gives (.bool (doubleQ s p.l i nm j)) w) := by
  have hQ : doubleQ s p.l i nm j = ((j != i) && (xj == xi) && seq z.owner nm) := by
    unfold doubleQ podOwner
    rw [at_of hi, at_of hj, hz]
  rw [hQ]
  have il := h.lt
  have k1 := h.c1
  have k3 := h.c3
  obtain ⟨b2, o2, ha2, hb2, hc2⟩ := h.s.pods.cell j z hz
  obtain ⟨b3, o3, ha3, hb3, hc3⟩ := h.p.cell i _ hi
  obtain ⟨b3', o3', ha3', _, hc3'⟩ := h.p.cell j _ hj
  rw [ha3] at ha3'
  simp only [Option.some.injEq, Addr.mk.injEq, and_true] at ha3'
  obtain ⟨rfl, rfl⟩ := ha3'
  have i2 : LtB b2 w.heap.size := ⟨hb2⟩
  have i3 : LtB b3 w.heap.size := ⟨hb3⟩
  have e1 := hc2 1 _ rfl
  have f0 : w.cell? ⟨b3, o3 + i, none⟩ = some (.int .i64 xi) := by have h := hc3 0 _ rfl; simpa using h
  have f1 : w.cell? ⟨b3, o3 + j, none⟩ = some (.int .i64 xj) := by have h := hc3' 0 _ rfl; simpa using h
  have hlj := (List.getElem?_eq_some_iff.1 hz).1
  have hli := (List.getElem?_eq_some_iff.1 hi).1
  have hli' := (List.getElem?_eq_some_iff.1 hj).1
  have q2 := h.s.pods.big
  have q3 := h.p.big
  rw [ha2] at k1
  rw [ha3] at k3
  have Hne := hide (bne_nat j i)
  clear hc2 hc3 hc3' hb2 hb3 h hi hj hz hQ ha2 ha3
  by_cases hji : j = i
  · subst hji
    have hne : ((j : Int) != (j : Int)) = false := by simp
    rw [show (j != j && (xj == xi) && seq z.owner nm) = false by simp]
    clear Hne
    go_enter Tryz.func126, Tryz.ntmps126
    go_wp2_with fail
    refine wp_region_gr (by kernel_rfl) (by kernel_rfl) ?_
    repeat (go_big_quiet_step ((first | fail)))
    refine wpQuiet_nil ?_
    intro g
    go_wp2_with fail
    go_ret
    exact ⟨rfl, (by repeat' (first | exact Below.refl _ _ | assumption | refine b_gr ?_ _ | refine b_alloc ?_ _ | refine b_drew ?_))⟩
  · have hne' : (j != i) = true := by simpa using hji
    have hne : ((j : Int) != (i : Int)) = true := by rw [Hne.out, hne']
    have HE := hide (show ((j != i) && (xj == xi) && seq z.owner nm) = ((xj == xi) && seq z.owner nm) by rw [hne']; simp)
    rw [HE.out]
    clear Hne hne' hji HE
    cases hx : (xj == xi)
    · rw [show (false && seq z.owner nm) = false by simp]
      go_enter Tryz.func126, Tryz.ntmps126
      go_wp2_with fail
      refine wp_region_gr (by kernel_rfl) (by kernel_rfl) ?_
      repeat (go_big_quiet_step ((first | fail)))
      refine wpQuiet_nil ?_
      intro g
      go_wp2_with fail
      go_ret
      exact ⟨rfl, (by repeat' (first | exact Below.refl _ _ | assumption | refine b_gr ?_ _ | refine b_alloc ?_ _ | refine b_drew ?_))⟩
    · rw [show (true && seq z.owner nm) = seq z.owner nm by simp]
      go_enter Tryz.func126, Tryz.ntmps126
      go_wp2_with fail
      refine wp_region_gr (by kernel_rfl) (by kernel_rfl) ?_
      repeat (go_big_quiet_step ((first | fail)))
      refine wpQuiet_nil ?_
      intro g
      go_wp2_with fail
      go_ret
      exact ⟨by rw [← seq_w]; rfl, (by repeat' (first | exact Below.refl _ _ | assumption | refine b_gr ?_ _ | refine b_alloc ?_ _ | refine b_drew ?_))⟩
set_option maxRecDepth 100000 in
set_option maxHeartbeats 2000000 in
theorem kinds5_ok (k : Nat) (s : Snap) (p : SL Int) (us : SL Vec) (mb : Nat) (w : World) (hL : Looks w k s p us mb (topos s)) (i : Nat) (xi : Int) (hi : p.l[i]? = some xi) (y : Pod) (hy : s.pods.l[i]? = some y) :
    Calls Tryz.prog 123 #[.pointer (some ⟨k, 0, none⟩), .int .i64 (i : Int)] w (GivesM mb (Cache s (topos s) mb) (pairB (doubleC s p.l i y)) w) := by
  have h := hL.at_
  have hm := hL.c.map
  have H0 := hide (fun W (hW : Below w.heap.size w W) => gm_of_below (Cache.stays s (topos s) mb) hW hm hL.c)
  have HS := hide (fun W (hW : Below w.heap.size w W) => single_ok s y.owner k W (h.below hW).s.owners (h.below hW).lt (h.below hW).c2)
  have HM := hide (fun W (hW : Below w.heap.size w W) (b1 : Blk W w.heap.size 80 #[.pointer (some ⟨k, 0, none⟩)]) (b2 : Blk W (w.heap.size + 1) 3 #[.int .i64 (i : Int)]) (b3 : Blk W (w.heap.size + 2) 9 #[.string y.owner]) =>
    (many_ok' k s p us mb (Cache s (topos s) mb) (Cache.stays _ _ _) (doubleQ s p.l i y.owner) 126 #[.pointer (some ⟨w.heap.size + 1, 0, none⟩), .pointer (some ⟨w.heap.size, 0, none⟩), .pointer (some ⟨w.heap.size + 2, 0, none⟩)]
      (enters_of Tryz.func126 (by kernel_rfl) rfl) W (hL.below hW).at_ (map_below hW hm) (hL.below hW).c (fun G j xj hj hj0 =>
        have i1 : LtB w.heap.size W.heap.size := b1.ltb
        have i2 : LtB (w.heap.size + 1) W.heap.size := b2.ltb
        have i3 : LtB (w.heap.size + 2) W.heap.size := b3.ltb
        have hz := (pod_at hL.z hj).choose_spec
        (double1_ok k s p us mb _ ((hL.below hW).gm G).at_ i j xi xj hi hj _ hz y.owner w.heap.size (w.heap.size + 1) (w.heap.size + 2) inferInstance inferInstance inferInstance
          ((cell_gm G _ _).trans (b1.cell 0)) ((cell_gm G _ _).trans (b2.cell 0)) ((cell_gm G _ _).trans (b3.cell 0))).mono fun _ _ hh => ⟨hh.1, gm_of_below (Cache.stays _ _ _) hh.2 G.m1 G.j⟩)).mono fun _ _ h => h.pre hW hm)
  have ik := h.lt
  have k1 := h.c1
  obtain ⟨b2, o2, ha2, hb2, hc2⟩ := h.s.pods.cell i y hy
  have i2 : LtB b2 w.heap.size := ⟨hb2⟩
  have e1 := hc2 1 _ rfl
  have hlj := (List.getElem?_eq_some_iff.1 hy).1
  have q2 := h.s.pods.big
  rw [ha2] at k1
  clear hc2 hb2 h hL hi hy ha2 hm
  unfold doubleC
  generalize manyN p.l (doubleQ s p.l i y.owner) = an at *
  cases hs : singleB s y.owner
  · rw [hs] at HS
    clear hs HM
    go_enter Tryz.func123, Tryz.ntmps123
    go_wp2_with fail
    go_region
    go_wp2_with fail
    refine (calls_gr (HS.out _ (by repeat' (first | exact Below.refl _ _ | assumption | refine b_gr ?_ _ | refine b_alloc ?_ _ | refine b_drew ?_)))).mono ?_
    rintro e w1 ⟨rfl, g, rfl⟩
    go_wp2_with fail
    go_ret2
    exact ⟨rfl, H0.out _ (by repeat' (first | exact Below.refl _ _ | assumption | refine b_gr ?_ _ | refine b_alloc ?_ _ | refine b_drew ?_))⟩
  · rw [hs] at HS
    clear hs H0
    go_enter Tryz.func123, Tryz.ntmps123
    go_wp2_with fail
    go_region
    go_wp2_with fail
    refine (calls_gr (HS.out _ (by repeat' (first | exact Below.refl _ _ | assumption | refine b_gr ?_ _ | refine b_alloc ?_ _ | refine b_drew ?_)))).mono ?_
    rintro e w1 ⟨rfl, g, rfl⟩
    go_wp2_with fail
    refine (HM.out _ (by repeat' (first | exact Below.refl _ _ | assumption | refine b_gr ?_ _ | refine b_alloc ?_ _ | refine b_drew ?_)) ?_ ?_ ?_).mono ?_
    iterate 3 (repeat' (first | exact Blk.new _ _ _ | exact Blk.at_ _ _ _ _ (by simp) | apply Blk.gr | apply Blk.alloc | apply Blk.drew))
    rintro e w1 ⟨rfl, G, rfl⟩
    go_wp2_with fail
    go_ret2
    exact ⟨rfl, G, rfl⟩
end Go.Proofs.YtnjjdilmaepokaaGreat
