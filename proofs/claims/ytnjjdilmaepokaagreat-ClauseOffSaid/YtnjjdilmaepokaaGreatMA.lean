/- Words and small laws for this seat's walks: a world that has grown (the blocks below a number are as they were), and regions that draw their order.
   The data of the program as they lie in memory: slices that read as lists, structs by their cells.
   slices.IndexFunc and slices.ContainsFunc: the first place at which a predicate holds; whether there is one. Of each element type that the laws reach.
   Package label: what each of its functions answers. Conditions: the slices lie in memory.
   Package label: terms, what is borne. Conditions: the slices lie in memory.
   Package quant: checked sums. Conditions: the slices lie in memory.
   A block that is known whole. (After the kit's page of small words for memory.)
   Package vec: a row that may be; a sum of rows. Conditions: the rows lie in memory.
   Rows that a call makes: they read as slices. -/
import Derived.Deep.Quiet
import Derived.StillTail
import Derived.WalkKit
import Derived.WalkSpells
import Derived.Below
import Derived.Deep.QuietTactic
import Derived.BigQuiet
import Derived.Deep.RegionWith
import Derived.Deep.LoopGhost
import Derived.OwnWalk
import Derived.Shelf.Abstract
import Derived.Test.YtnjjdilmaepokaaGreatProg
import Derived.Shelf.GgClosure.StringsIndexFuncTop
import Derived.Test.YtnjjdilmaepokaaGreatShelf
import Derived.Deep.Draws
import Derived.Laws.OwnMore
import Derived.Laws.Rows
import Derived.Maps.AppendAt
set_option linter.unusedVariables false
set_option linter.unusedSimpArgs false
namespace Go.Proofs.YtnjjdilmaepokaaGreat
open Go.RowKit

theorem hide {p : Prop} (h : p) : Hid p := h

theorem lt_succ_all {p : Nat → Prop} {k : Nat} (h : ∀ j, j < k → p j) (hk : p k) : ∀ j, j < k + 1 → p j := fun j hj => by
  rcases Nat.lt_or_ge j k with h' | h'
  · exact h j h'
  · obtain rfl : j = k := by omega
    exact hk

/-! ### A world that has grown -/
/-- A later world: every block of `w` is in it as it was. -/
structure Grw (w : World) where
  w' : World
  h : Below w.heap.size w w'
instance (w : World) : Nonempty (Grw w) := ⟨⟨w, Below.refl _ _⟩⟩
def gr (w : World) (g : Grw w) : World := g.w'
theorem gr_below (w : World) (g : Grw w) : Below w.heap.size w (gr w g) := g.h
theorem to_gr {w w' : World} (h : Below w.heap.size w w') : ∃ g : Grw w, w' = gr w g := ⟨⟨w', h⟩, rfl⟩
/-- Block `b` is one of the first `n`: told to the walk's simp as an instance, however long the row of steps. -/
class LtB (b n : Nat) : Prop where
  h : b < n
theorem size_gr {w : World} (g : Grw w) : w.heap.size ≤ (gr w g).heap.size := g.h.size
instance ltb_gr {w : World} {g : Grw w} {b : Nat} [h : LtB b w.heap.size] : LtB b (gr w g).heap.size := ⟨Nat.lt_of_lt_of_le h.h g.h.size⟩
instance ltb_alloc {W : World} {o : Obj} {b : Nat} [h : LtB b W.heap.size] : LtB b (W.alloc o).heap.size := ⟨by have := h.h; simp; omega⟩
instance ltb_new {W : World} {o : Obj} : LtB W.heap.size (W.alloc o).heap.size := ⟨by simp⟩
instance ltb_new1 {W : World} {o o' : Obj} : LtB (W.heap.size + 1) ((W.alloc o).alloc o').heap.size := ⟨by simp⟩
instance ltb_new2 {W : World} {o o' o'' : Obj} : LtB (W.heap.size + 2) (((W.alloc o).alloc o').alloc o'').heap.size := ⟨by simp⟩
instance ltb_new3 {W : World} {o o' o'' o3 : Obj} : LtB (W.heap.size + 3) ((((W.alloc o).alloc o').alloc o'').alloc o3).heap.size := ⟨by simp⟩
instance ltb_set {W : World} {p : Addr} {u : Value} {b : Nat} [h : LtB b W.heap.size] : LtB b (W.setCell p u).heap.size := ⟨by have := h.h; simpa [World.setCell] using this⟩
instance ltb_drew {W : World} {b : Nat} [h : LtB b W.heap.size] : LtB b W.drew.heap.size := ⟨h.h⟩
instance ltb_drewN {W : World} {n b : Nat} [h : LtB b W.heap.size] : LtB b (W.drewN n).heap.size := ⟨h.h⟩
@[go_sem ↓] theorem ltb_size {W : World} {b : Nat} [h : LtB b W.heap.size] : b < W.heap.size := h.h
@[go_sem] theorem ltb_size' {W : World} {b : Nat} [h : LtB b W.heap.size] : b < W.heap.size := h.h
@[go_sem] theorem ltb_le {W : World} {b : Nat} [h : LtB b W.heap.size] : b ≤ W.heap.size := Nat.le_of_lt h.h
@[go_sem] theorem cell_gr {w : World} (g : Grw w) (b o : Nat) [h : LtB b w.heap.size] : (gr w g).cell? ⟨b, o, none⟩ = w.cell? ⟨b, o, none⟩ := g.h.cell (p := ⟨b, o, none⟩) h.h
@[go_sem] theorem frozen_gr {w : World} (g : Grw w) (b o : Nat) [h : LtB b w.heap.size] : (gr w g).frozen? ⟨b, o, none⟩ = w.frozen? ⟨b, o, none⟩ := g.h.frozen (p := ⟨b, o, none⟩) h.h
theorem heap_gr {w : World} (g : Grw w) (b : Nat) (h : b < w.heap.size) : (gr w g).heap[b]? = w.heap[b]? := g.h.block b h

theorem below_gr {B : Nat} {w0 w : World} (h : Below B w0 w) (hB : B ≤ w.heap.size) (g : Grw w) : Below B w0 (gr w g) := h.trans ((gr_below w g).mono hB)
theorem below_lt {w W : World} (h : Below w.heap.size w W) (o : Obj) : Below w.heap.size w (W.alloc o) := h.alloc h.size o

theorem b_gr {w W : World} (h : Below w.heap.size w W) (g : Grw W) : Below w.heap.size w (gr W g) := below_gr h h.size g
theorem b_alloc {w W : World} (h : Below w.heap.size w W) (o : Obj) : Below w.heap.size w (W.alloc o) := h.alloc h.size o
theorem b_set {w W : World} (h : Below w.heap.size w W) {p : Addr} (hp : w.heap.size ≤ p.block) (u : Value) : Below w.heap.size w (W.setCell p u) := h.setCell hp u
theorem b_then {w W W' : World} (h : Below w.heap.size w W) (k : Below W.heap.size W W') : Below w.heap.size w W' := h.trans (k.mono h.size)
theorem b_drew {w W : World} (h : Below w.heap.size w W) : Below w.heap.size w W.drew := h.drew
/-- The end of a call: it hands back `v`; every block that was there is as it was. -/
def Gives (v : Value) (w : World) (e : Ending) (w' : World) : Prop := e = .returned v ∧ Below w.heap.size w w'
theorem Gives.gr {v : Value} {w : World} {e : Ending} {w' : World} (h : Gives v w e w') : e = .returned v ∧ ∃ g : Grw w, w' = gr w g := ⟨h.1, to_gr h.2⟩
theorem Gives.of_same {v : Value} {w : World} {e : Ending} {w' : World} (h : e = .returned v ∧ w = w') : Gives v w e w' := ⟨h.1, h.2 ▸ Below.refl _ _⟩

theorem calls_gr {P : Program} {f : FuncId} {args : Array Value} {v : Value} {w : World} (h : Calls P f args w (Gives v w)) : Calls P f args w fun e w' => e = .returned v ∧ ∃ g : Grw w, w' = gr w g := h.mono fun _ _ hh => hh.gr

/-! ### Regions that draw their order: reads and calls that grow the world, then a tail in one order -/
section
variable {P : Program} {ops : Array Oper} {md : Region.Mode} {C : World → Prop}
def wpAnyLC (P : Program) (md : Region.Mode) (ops : Array Oper) (C : World → Prop) (n : Nat) (L : Array Bool → Act → Prop) : Nat → Array Bool → Act → Prop
  | 0, listed, a => L listed a
  | f + 1, listed, a =>
    Region.ready md ops listed ≠ [] ∧ ∀ i ∈ Region.ready md ops listed, i < n ∧ qOp P ops C i (wpAnyLC P md ops C n L f (listed.setIfInBounds i true)) a

theorem wpAny_of_headC {n g : Nat} {L : Array Bool → Act → Prop} {Q' : Exit → Act → World → Prop} (hL : ∀ listed a w, C w → L listed a → wpAny P md ops Q' g listed a w) :
    ∀ (f : Nat) (listed : Array Bool) (a : Act) (w : World), C w → wpAnyLC P md ops C n L f listed a → wpAny P md ops Q' (f + g) listed a w
  | 0, listed, a, w, hw, h => by rw [Nat.zero_add]; exact hL _ _ _ hw h
  | f + 1, listed, a, w, hw, h => by
    rw [show f + 1 + g = (f + g) + 1 by omega]
    exact ⟨fun h0 => absurd h0 h.1, fun i hi => wpOp_of_qOp hw (fun a' w' hw' h' => wpAny_of_headC hL f _ a' w' hw' h') (h.2 i hi).2⟩

theorem wpAnyLC_first {n i : Nat} {oi : Oper} {v : Value} {L : Array Bool → Act → Prop} (hi : ops[i]? = some oi) (hsel : ∀ (j : Nat) (o : Oper) cs b, ops[j]? = some o → o.op ≠ .select cs b)
    (hs : Region.sinkB md ops n = true) (hc : Region.chainB md ops n = true) (hn : n < ops.size) (hin : i < n)
    (hdone : ∀ listed a, L listed a → ∀ j ∈ Region.ready md ops listed, n ≤ j) :
    ∀ (f : Nat) (listed : Array Bool) (a : Act), HeadInv md ops n listed →
      (∀ j oj, ops[j]? = some oj → j ≠ i → listed.getD j true = false → (∀ e ∈ oj.after, Region.binds md e = true → e.on ≠ i) → oi.apart ops oj = true) →
      i ∈ Region.ready md ops listed → YieldsIn P ops C oi v a →
      wpAnyLC P md ops C n L f (listed.setIfInBounds i true) (a.put oi.dst v) → wpAnyLC P md ops C n L (f + 1) listed a := by
  intro f
  induction f with
  | zero =>
    intro listed a inv _ hr hy H
    have hun := (mem_ready.1 hr).1
    refine ⟨fun h => (by rw [h] at hr; cases hr), fun j hj => ?_⟩
    have hjn : j < n := by
      rcases Nat.lt_or_ge j n with h | h
      · exact h
      · exact absurd hj (tail_waits hs hc hn inv _ i rfl hin hun j h)
    refine ⟨hjn, ?_⟩
    by_cases hji : j = i
    · subst hji; exact hy.qOp hi H
    · have := hdone _ _ H j (ready_mono hj hji)
      omega
  | succ f ih =>
    intro listed a inv hfree hr hy H
    have hun := (mem_ready.1 hr).1
    refine ⟨fun h => (by rw [h] at hr; cases hr), fun j hj => ?_⟩
    have hjn : j < n := by
      rcases Nat.lt_or_ge j n with h | h
      · exact h
      · exact absurd hj (tail_waits hs hc hn inv _ i rfl hin hun j h)
    refine ⟨hjn, ?_⟩
    by_cases hji : j = i
    · subst hji; exact hy.qOp hi H
    · have h1 := (H.2 j (ready_mono hj hji)).2
      obtain ⟨hjun, oj, hoj, hall⟩ := mem_ready.1 hj
      have hnot : ∀ e ∈ oj.after, Region.binds md e = true → e.on ≠ i := fun e he hb heq => by
        have h1 := hall e he hb
        rw [heq, getD_both hun] at h1
        cases h1
      have h2 := qOp_put hoj (hfree j oj hoj hji hjun hnot) (fun cs b => hsel i oi cs b hi) (fun cs b => hsel j oj cs b hoj) hy h1
      have hfree' : ∀ k ok, ops[k]? = some ok → k ≠ i → (listed.setIfInBounds j true).getD k true = false →
          (∀ e ∈ ok.after, Region.binds md e = true → e.on ≠ i) → oi.apart ops ok = true := fun k ok hk hki hun hno => by
        refine hfree k ok hk hki ?_ hno
        by_cases hjk : j = k
        · subst hjk; exact hjun
        · rw [getD_set_ne true hjk] at hun; exact hun
      refine qOp_mono (fun a' h3 => ih (listed.setIfInBounds j true) a' (inv.set hj hjn) hfree' (ready_mono hr (Ne.symm hji)) h3.1 ?_) h2
      rw [Array.setIfInBounds_comm _ _ hji]
      exact h3.2

theorem wpAnyLC_lex {n g : Nat} {Lq : Act → Prop} (hsel : Region.noSelect ops = true) (hs : Region.sinkB md ops n = true) (hc : Region.chainB md ops n = true) (hn : n < ops.size) :
    ∀ (l : List Oper) (k : Nat) (listed : Array Bool) (a : Act), (∀ j, j < l.length → l[j]? = ops[k + j]?) → k + l.length = n → HeadInv md ops n listed →
    Region.lexHead md ops g l.length k listed = true → wpQuiet P ops C Lq l a →
    wpAnyLC P md ops C n (fun listed' a' => Region.seqB md ops g n listed' = true ∧ Lq a') l.length listed a
  | [], k, listed, a, _, hk, _, hB, h => by
    have : k = n := by simpa using hk
    subst this
    exact ⟨by simpa [Region.lexHead] using hB, h⟩
  | o :: l, k, listed, a, hl, hk, inv, hB, h => by
    have h0 : ops[k]? = some o := by simpa using (hl 0 (by simp)).symm
    simp only [List.length_cons, Region.lexHead, Bool.and_eq_true] at hB
    obtain ⟨⟨hr, hf⟩, hB'⟩ := hB
    have hkn : k < n := by simp only [List.length_cons] at hk; omega
    have hr' : k ∈ Region.ready md ops listed := by simpa using hr
    have hst : qOp P ops C k (wpQuiet P ops C Lq l) a := by unfold qOp; simp only [h0]; exact h
    obtain ⟨v, hy, hK⟩ := yieldsIn_of_qOp h0 hst
    exact wpAnyLC_first h0 (Region.noSelect_spec hsel) hs hc hn hkn (fun listed' a' hL => seqB_ready hL.1) l.length listed a inv (Region.free_spec h0 hf) hr' hy
      (wpAnyLC_lex hsel hs hc hn l (k + 1) _ _ (fun j hj => by have := hl (j + 1) (by simp; omega); simpa [Nat.add_assoc, Nat.add_comm 1 j] using this) (by simp only [List.length_cons] at hk; omega) (inv.set hr' hkn) hB' hK)

/-- Reads and calls (head), then a tail in one order: one walk of the text's order serves every order. -/
theorem wp_region_tailC {id : Nat} {Q : Exit → Act → World → Prop} {a : Act} {w : World} {l : List Oper} (n : Nat) (hm : P.follows .mixedOrders = true) (hB : Region.lexTailB .any l.toArray n = true)
    (hC : C { w with drawn := w.drawn + 1 })
    (h : wpQuiet P l.toArray C (fun a' => ∀ w', C w' → wpList P l.toArray Q (l.drop n) a' w') (l.take n) a) : (Code.region id l.toArray true).wp P Q a w := by
  simp only [Region.lexTailB, Bool.and_eq_true, decide_eq_true_eq] at hB
  obtain ⟨⟨⟨⟨hsel, hn⟩, hs⟩, hc⟩, hlex⟩ := hB
  have hn' : n < l.length := by simpa using hn
  have htl : (l.take n).length = n := by simp; omega
  have hdl : (l.drop n).length = l.toArray.size - n := by simp
  have inv0 : HeadInv .any l.toArray n (Array.replicate l.toArray.size false) :=
    ⟨by simp, fun j oj _ hl => (by rw [getD_replicate_false] at hl; cases hl), fun t _ ht => getD_in (by simpa using ht) (getD_replicate_false _ _)⟩
  have H := wpAnyLC_lex (md := .any) (C := C) (g := l.toArray.size - n) hsel hs hc hn (l.take n) 0 _ a (fun j hj => by
    have hj' : j < n := by rw [htl] at hj; exact hj
    simp [hj']) (by simpa using htl) inv0 (by rw [htl]; exact hlex) h
  refine wp_region_any hm ?_
  have := wpAny_of_headC (Q' := Q) (C := C) (g := l.toArray.size - n) (fun listed a' w' hw' hL => by
    have := wpAny_of_seq (md := .any) (Q' := Q) (l.drop n) n listed a' w' (fun j => by simp [List.getElem?_drop]) (by rw [hdl]; exact hL.1) (hL.2 w' hw')
    rwa [hdl] at this) _ _ _ _ hC H
  rw [htl, show n + (l.toArray.size - n) = l.toArray.size by omega] at this
  exact this

/-- The two, at the class of the worlds grown out of `w`. -/
theorem wp_region_gr {id : Nat} {Q : Exit → Act → World → Prop} {a : Act} {w : World} {l : List Oper} (hm : P.follows .mixedOrders = true) (hB : Region.lexB .any l.toArray = true)
    (h : wpQuiet P l.toArray (fun w' => ∃ g : Grw w, w' = gr w g) (fun a' => ∀ g : Grw w, Q .normal a' (gr w g)) l a) : (Code.region id l.toArray true).wp P Q a w :=
  wp_region_quiet (C := fun w' => ∃ g : Grw w, w' = gr w g) hm hB (to_gr ⟨rfl, rfl, rfl, Nat.le_refl _, fun _ _ => rfl⟩)
    (by
      have : (fun a' => ∀ g : Grw w, Q .normal a' (gr w g)) = (fun a' => ∀ w', (∃ g : Grw w, w' = gr w g) → Q .normal a' w') := by
        funext a'
        exact propext ⟨fun h w' ⟨g, hg⟩ => hg ▸ h g, fun h g => h _ ⟨g, rfl⟩⟩
      rw [this] at h
      simpa using h)
theorem wp_region_gr_tail {id : Nat} {Q : Exit → Act → World → Prop} {a : Act} {w : World} {l : List Oper} (n : Nat) (hm : P.follows .mixedOrders = true) (hB : Region.lexTailB .any l.toArray n = true)
    (h : wpQuiet P l.toArray (fun w' => ∃ g : Grw w, w' = gr w g) (fun a' => ∀ g : Grw w, wpList P l.toArray Q (l.drop n) a' (gr w g)) (l.take n) a) : (Code.region id l.toArray true).wp P Q a w :=
  wp_region_tailC (C := fun w' => ∃ g : Grw w, w' = gr w g) n hm hB (to_gr ⟨rfl, rfl, rfl, Nat.le_refl _, fun _ _ => rfl⟩)
    (by
      have : (fun a' => ∀ g : Grw w, wpList P l.toArray Q (l.drop n) a' (gr w g)) = (fun a' => ∀ w', (∃ g : Grw w, w' = gr w g) → wpList P l.toArray Q (l.drop n) a' w') := by
        funext a'
        exact propext ⟨fun h w' ⟨g, hg⟩ => hg ▸ h g, fun h g => h _ ⟨g, rfl⟩⟩
      rw [this] at h
      exact h)
end
/-- A call in a quiet walk, by a contract that only grows the world. -/
theorem quiet_call {P : Program} {f : FuncId} {args : Array Value} {w : World} {g : Grw w} {v : Value}
    (h : Calls P f args (gr w g) (Gives v (gr w g))) : Calls P f args (gr w g) fun e w'' => e = .returned v ∧ ∃ g' : Grw w, w'' = gr w g' :=
  h.mono fun _ _ ⟨he, hb⟩ => ⟨he, to_gr ((gr_below w g).trans (hb.mono (size_gr g)))⟩
theorem quiet_same {P : Program} {f : FuncId} {args : Array Value} {w : World} {g : Grw w} {v : Value}
    (h : Calls P f args (gr w g) fun e w' => e = .returned v ∧ gr w g = w') : Calls P f args (gr w g) fun e w'' => e = .returned v ∧ ∃ g' : Grw w, w'' = gr w g' :=
  h.mono fun _ _ ⟨he, hb⟩ => ⟨he, g, hb.symm⟩
end Go.Proofs.YtnjjdilmaepokaaGreat
namespace Go.Proofs.YtnjjdilmaepokaaGreat
open Go.RowKit

/-- A slice that is read: its address, its capacity, what it reads as. -/
structure SL (α : Type) where
  a : Option Addr
  c : Nat
  l : List α
@[go_sem] def SL.val {α : Type} (s : SL α) : Value := .slice s.a s.l.length s.c
/-- The slice `s` lies in `w`: element i has the cells `enc x` from place i * k on. -/
structure SL.At {α : Type} (enc : α → List Value) (k : Nat) (w : World) (s : SL α) : Prop where
  le : s.l.length ≤ s.c
  big : s.l.length ≤ 140737488351232
  cap : s.c ≤ 9223372036854775807
  cell : ∀ i x, s.l[i]? = some x → ∃ b off, s.a = some ⟨b, off, none⟩ ∧ b < w.heap.size ∧ ∀ j v, (enc x)[j]? = some v → w.cell? ⟨b, off + i * k + j, none⟩ = some v
theorem SL.At.below {α : Type} {enc : α → List Value} {k : Nat} {w W : World} {s : SL α} (h : s.At enc k w) (hb : Below w.heap.size w W) : s.At enc k W :=
  ⟨h.le, h.big, h.cap, fun i x hx => by
    obtain ⟨b, off, ha, hlt, hc⟩ := h.cell i x hx
    exact ⟨b, off, ha, Nat.lt_of_lt_of_le hlt hb.size, fun j v hv => (hb.cell (p := ⟨b, off + i * k + j, none⟩) hlt).trans (hc j v hv)⟩⟩
theorem SL.At.nil {α : Type} (enc : α → List Value) (k : Nat) (w : World) : (⟨none, 0, []⟩ : SL α).At enc k w :=
  ⟨Nat.le_refl _, by simp, by simp, fun i x hx => by simp at hx⟩

structure Label where
  key : ByteArray
  value : ByteArray
abbrev Label.enc (x : Label) : List Value := [.string x.key, .string x.value]
@[go_sem] def Label.val (x : Label) : Value := .agg #[.string x.key, .string x.value]
structure Term where
  kind : Int
  key : ByteArray
  value : ByteArray
abbrev Term.enc (x : Term) : List Value := [.int .i64 x.kind, .string x.key, .string x.value]
@[go_sem] def Term.val (x : Term) : Value := .agg #[.int .i64 x.kind, .string x.key, .string x.value]
structure Near where
  topo : ByteArray
  terms : SL Term
@[go_sem] def Near.val (x : Near) : Value := .agg #[.string x.topo, .slice x.terms.a x.terms.l.length x.terms.c]
structure Vec where
  a : Int
  b : Int
  c : Int
  d : Int
  e : Int
def Vec.l (v : Vec) : List Int := [v.a, v.b, v.c, v.d, v.e]
abbrev Vec.enc (v : Vec) : List Value := [.int .i64 v.a, .int .i64 v.b, .int .i64 v.c, .int .i64 v.d, .int .i64 v.e]
@[go_sem] def Vec.val (v : Vec) : Value := .agg #[.int .i64 v.a, .int .i64 v.b, .int .i64 v.c, .int .i64 v.d, .int .i64 v.e]
structure Node where
  name : ByteArray
  cap : Vec
  labels : SL Label
  taints : SL Label
  cordon : Bool
  lost : Bool
abbrev Node.enc (n : Node) : List Value := [.string n.name, .int .i64 n.cap.a, .int .i64 n.cap.b, .int .i64 n.cap.c, .int .i64 n.cap.d, .int .i64 n.cap.e, .slice n.labels.a n.labels.l.length n.labels.c, .slice n.taints.a n.taints.l.length n.taints.c, .bool n.cordon, .bool n.lost]
@[go_sem] def Node.val (n : Node) : Value := .agg #[.string n.name, .int .i64 n.cap.a, .int .i64 n.cap.b, .int .i64 n.cap.c, .int .i64 n.cap.d, .int .i64 n.cap.e, .slice n.labels.a n.labels.l.length n.labels.c, .slice n.taints.a n.taints.l.length n.taints.c, .bool n.cordon, .bool n.lost]
structure Pod where
  name : ByteArray
  owner : ByteArray
  req : Vec
  labels : SL Label
  wher : SL Term
  bears : SL Label
  wth : Near
  apart : Near
  on : ByteArray
abbrev Pod.enc (p : Pod) : List Value := [.string p.name, .string p.owner, .int .i64 p.req.a, .int .i64 p.req.b, .int .i64 p.req.c, .int .i64 p.req.d, .int .i64 p.req.e, .slice p.labels.a p.labels.l.length p.labels.c, .slice p.wher.a p.wher.l.length p.wher.c, .slice p.bears.a p.bears.l.length p.bears.c, .string p.wth.topo, .slice p.wth.terms.a p.wth.terms.l.length p.wth.terms.c, .string p.apart.topo, .slice p.apart.terms.a p.apart.terms.l.length p.apart.terms.c, .string p.on]
@[go_sem] def Pod.val (p : Pod) : Value := .agg #[.string p.name, .string p.owner, .int .i64 p.req.a, .int .i64 p.req.b, .int .i64 p.req.c, .int .i64 p.req.d, .int .i64 p.req.e, .slice p.labels.a p.labels.l.length p.labels.c, .slice p.wher.a p.wher.l.length p.wher.c, .slice p.bears.a p.bears.l.length p.bears.c, .string p.wth.topo, .slice p.wth.terms.a p.wth.terms.l.length p.wth.terms.c, .string p.apart.topo, .slice p.apart.terms.a p.apart.terms.l.length p.apart.terms.c, .string p.on]
structure Owner where
  name : ByteArray
  min : Int
  topo : ByteArray
  skew : Int
  single : Bool
abbrev Owner.enc (o : Owner) : List Value := [.string o.name, .int .i64 o.min, .string o.topo, .int .i64 o.skew, .bool o.single]
@[go_sem] def Owner.val (o : Owner) : Value := .agg #[.string o.name, .int .i64 o.min, .string o.topo, .int .i64 o.skew, .bool o.single]
structure Clause where
  kind : Int
  a : Int
  b : Int
  amt : Int
abbrev Clause.enc (x : Clause) : List Value := [.int .i64 x.kind, .int .i64 x.a, .int .i64 x.b, .int .i64 x.amt]
@[go_sem] def Clause.val (x : Clause) : Value := .agg #[.int .i64 x.kind, .int .i64 x.a, .int .i64 x.b, .int .i64 x.amt]
structure Step where
  kind : Int
  pod : Int
  node : Int
abbrev Step.enc (x : Step) : List Value := [.int .i64 x.kind, .int .i64 x.pod, .int .i64 x.node]
@[go_sem] def Step.val (x : Step) : Value := .agg #[.int .i64 x.kind, .int .i64 x.pod, .int .i64 x.node]
structure Snap where
  nodes : SL Node
  pods : SL Pod
  owners : SL Owner
@[go_sem] def Snap.val (s : Snap) : Value := .agg #[.slice s.nodes.a s.nodes.l.length s.nodes.c, .slice s.pods.a s.pods.l.length s.pods.c, .slice s.owners.a s.owners.l.length s.owners.c]

/-! ### They lie in a world -/
abbrev Ints (w : World) (s : SL Int) : Prop := s.At (fun x => [.int .i64 x]) 1 w
abbrev Strs (w : World) (s : SL ByteArray) : Prop := s.At (fun x => [.string x]) 1 w
abbrev Labels (w : World) (s : SL Label) : Prop := s.At Label.enc 2 w
abbrev Terms (w : World) (s : SL Term) : Prop := s.At Term.enc 3 w
structure Node.At (w : World) (n : Node) : Prop where
  labels : Labels w n.labels
  taints : Labels w n.taints
structure Pod.At (w : World) (p : Pod) : Prop where
  labels : Labels w p.labels
  wher : Terms w p.wher
  bears : Labels w p.bears
  wth : Terms w p.wth.terms
  apart : Terms w p.apart.terms
structure Snap.At (w : World) (s : Snap) : Prop where
  nodes : s.nodes.At Node.enc 10 w
  pods : s.pods.At Pod.enc 15 w
  owners : s.owners.At Owner.enc 5 w
  node : ∀ n ∈ s.nodes.l, n.At w
  pod : ∀ p ∈ s.pods.l, p.At w
theorem Node.At.below {w W : World} {n : Node} (h : n.At w) (hb : Below w.heap.size w W) : n.At W := ⟨h.labels.below hb, h.taints.below hb⟩
theorem Pod.At.below {w W : World} {p : Pod} (h : p.At w) (hb : Below w.heap.size w W) : p.At W := ⟨h.labels.below hb, h.wher.below hb, h.bears.below hb, h.wth.below hb, h.apart.below hb⟩
theorem Snap.At.below {w W : World} {s : Snap} (h : s.At w) (hb : Below w.heap.size w W) : s.At W :=
  ⟨h.nodes.below hb, h.pods.below hb, h.owners.below hb, fun n hn => (h.node n hn).below hb, fun p hp => (h.pod p hp).below hb⟩

/-! ### Texts -/
theorem toL (s : ByteArray) : s.toList = s.data.toList := ByteArray.toList_eq s
def emp (s : ByteArray) : Bool := s.data.toList.isEmpty
def seq (a b : ByteArray) : Bool := a.data.toList == b.data.toList
def slt (a b : ByteArray) : Bool := Op.bytesLess a.data.toList b.data.toList
theorem emp_w (s : ByteArray) : s.toList.isEmpty = emp s := by rw [toL]; rfl
theorem seq_w (a b : ByteArray) : (a.toList == b.toList) = seq a b := by rw [toL, toL]; rfl
theorem slt_w (a b : ByteArray) : Op.bytesLess a.toList b.toList = slt a b := by rw [toL, toL]; rfl
theorem seq_iff (a b : ByteArray) : seq a b = true ↔ a = b := by
  unfold seq
  rw [beq_iff_eq]
  refine ⟨fun h => ?_, fun h => by rw [h]⟩
  cases a; cases b
  simp only [Array.toList_inj] at h
  rw [h]
theorem emp_false {s : ByteArray} (h : emp s = false) : ¬ s.toList = [] := fun e => by rw [← emp_w, e] at h; cases h
theorem emp_true {s : ByteArray} (h : emp s = true) : s.toList = [] := List.isEmpty_iff.1 ((emp_w s).trans h)

/-! ### Searches -/
/-- slices.IndexFunc. -/
def idxOf {α : Type} (p : α → Bool) : List α → Int
  | [] => -1
  | x :: l => if p x then 0 else (if idxOf p l < 0 then -1 else idxOf p l + 1)
theorem idxOf_range {α : Type} (p : α → Bool) (l : List α) : -1 ≤ idxOf p l ∧ idxOf p l < l.length := by
  induction l with
  | nil => simp [idxOf]
  | cons x l ih => simp only [idxOf, List.length_cons]; split <;> (try split) <;> omega
theorem idxOf_hit {α : Type} (p : α → Bool) : ∀ (l : List α) (k : Nat) (x : α), l[k]? = some x → p x = true → (∀ j y, j < k → l[j]? = some y → p y = false) → idxOf p l = k
  | [], k, x, h, _, _ => by simp at h
  | y :: l, 0, x, h, hp, _ => by simp at h; subst h; simp [idxOf, hp]
  | y :: l, k + 1, x, h, hp, hn => by
    have h0 := hn 0 y (by omega) rfl
    have ih := idxOf_hit p l k x (by simpa using h) hp (fun j z hj hz => hn (j + 1) z (by omega) (by simpa using hz))
    simp only [idxOf, h0, ih]
    rw [if_neg (by simp), if_neg (by omega)]
    omega
theorem idxOf_none {α : Type} (p : α → Bool) : ∀ (l : List α), (∀ (j : Nat) (y : α), l[j]? = some y → p y = false) → idxOf p l = -1
  | [], _ => rfl
  | y :: l, hn => by
    have h0 := hn 0 y rfl
    have ih := idxOf_none p l (fun j z hz => hn (j + 1) z (by simpa using hz))
    simp [idxOf, h0, ih]
theorem idxOf_any {α : Type} (p : α → Bool) (l : List α) : decide (idxOf p l ≥ 0) = l.any p := by
  induction l with
  | nil => rfl
  | cons x l ih =>
    simp only [idxOf, List.any_cons, ← ih]
    by_cases hp : p x = true
    · simp [hp]
    · by_cases h : idxOf p l < 0 <;> simp [hp, h] <;> omega
end Go.Proofs.YtnjjdilmaepokaaGreat
namespace Go.Proofs.YtnjjdilmaepokaaGreat
open Go.RowKit

set_option maxHeartbeats 800000 in
theorem IndexFunc_Ints (s : SL Int) (p : Int → Bool) (g : Nat) (lb : Array Value) (eg : ∀ args w, (callFunc g args).run Tryz.prog w = .ok (.enter g args) w) (w : World) (hs : s.At (fun x => [.int .i64 x]) 1 w) (hp : ∀ (G : Grw w) x, x ∈ s.l → Calls Tryz.prog g (#[.int .i64 x] ++ lb) (gr w G) (Gives (.bool (p x)) (gr w G))) : Calls Tryz.prog 73 #[s.val, .func (.func g) #[] lb] w (Gives (.int .i64 (idxOf p s.l)) w) := by
  obtain ⟨a, c, l⟩ := s
  have hl : l.length ≤ 140737488351232 := hs.big
  have hc := hide hs.cell
  have HP := hide hp
  clear hp hs
  simp only [SL.val]
  go_enter Tryz.func73, Tryz.ntmps73
  go_wp2_with fail
  go_loopg [5, 8] l.length (fun gg _ s8 wr => ∃ kk : Nat, kk ≤ l.length ∧ l.length - kk ≤ gg ∧ s8 = .int .i64 kk ∧ Hid (∃ G : Grw w, wr = gr w G) ∧ Hid (∀ j y, j < kk → l[j]? = some y → p y = false))
  case atStart => exact ⟨0, Nat.zero_le _, by omega, rfl, to_gr (Below.refl _ w), fun j y hj => absurd hj (Nat.not_lt_zero _)⟩
  case round =>
    obtain ⟨kk, hkk, hg, rfl, ⟨G, rfl⟩, A⟩ := hrel
    by_cases hlt : kk < l.length
    · have hx : l[kk]? = some l[kk] := List.getElem?_eq_getElem hlt
      obtain ⟨b, off, rfl, hb, hcell⟩ := hc.out kk l[kk] hx
      have ib : LtB b w.heap.size := ⟨hb⟩
      clear hb
      have hcall := HP.out G l[kk] (List.getElem_mem hlt)
      generalize l[kk] = x at hx hcell hcall
      have c0 : w.cell? ⟨b, off + kk, none⟩ = some (.int .i64 x) := by have h := hcell 0 _ rfl; simpa using h
      have Hx := hide hx
      have HC := hide hcall
      clear hcell hx hcall
      cases hq : p x with
      | true =>
        rw [hq] at HC
        have Hq := hide hq
        clear hq
        go_wp2_with (go_at_fn g; refine HC.out.mono ?_; rintro e w1 ⟨rfl, hb1⟩)
        go_ret
        exact ⟨by rw [idxOf_hit p l kk x Hx.out Hq.out A.out]; rfl, (gr_below w G).trans (hb1.mono (size_gr G))⟩
      | false =>
        rw [hq] at HC
        have Hq := hide hq
        clear hq
        go_wp2_with (go_at_fn g; refine HC.out.mono ?_; rintro e w1 ⟨rfl, hb1⟩)
        go_roundg (l.length - (kk + 1))
        case measure => omega
        case rel =>
          refine ⟨kk + 1, by omega, by omega, by go_num, to_gr ((gr_below w G).trans (hb1.mono (size_gr G))), ?_⟩
          intro j y hj hy
          rcases Nat.lt_or_ge j kk with h | h
          · exact A.out j y h hy
          · obtain rfl : j = kk := by omega
            have := Hx.out.symm.trans hy
            injection this with this
            subst this
            exact Hq.out
    · have A' := A.out
      have A2 := hide (idxOf_none p l (fun j y hy => A' j y (by have := (List.getElem?_eq_some_iff.1 hy).1; omega) hy))
      clear A' A
      go_wp2
      go_ret
      exact ⟨by rw [A2.out]; rfl, gr_below w G⟩

theorem ContainsFunc_Ints (s : SL Int) (p : Int → Bool) (g : Nat) (lb : Array Value) (eg : ∀ args w, (callFunc g args).run Tryz.prog w = .ok (.enter g args) w) (w : World) (hs : s.At (fun x => [.int .i64 x]) 1 w) (hp : ∀ (G : Grw w) x, x ∈ s.l → Calls Tryz.prog g (#[.int .i64 x] ++ lb) (gr w G) (Gives (.bool (p x)) (gr w G))) : Calls Tryz.prog 45 #[s.val, .func (.func g) #[] lb] w (Gives (.bool (s.l.any p)) w) := by
  have HI := hide (IndexFunc_Ints s p g lb eg w hs hp)
  clear hp hs
  obtain ⟨a, c, l⟩ := s
  simp only [SL.val] at *
  go_enter Tryz.func45, Tryz.ntmps45
  go_wp2_with (go_at_call 73; refine HI.out.mono ?_; rintro e w1 ⟨rfl, hb1⟩)
  go_ret
  exact ⟨by rw [← idxOf_any]; rfl, hb1⟩

set_option maxHeartbeats 800000 in
theorem IndexFunc_Errnos (s : SL Int) (p : Int → Bool) (g : Nat) (lb : Array Value) (eg : ∀ args w, (callFunc g args).run Tryz.prog w = .ok (.enter g args) w) (w : World) (hs : s.At (fun x => [.int .i64 x]) 1 w) (hp : ∀ (G : Grw w) x, x ∈ s.l → Calls Tryz.prog g (#[.int .i64 x] ++ lb) (gr w G) (Gives (.bool (p x)) (gr w G))) : Calls Tryz.prog 144 #[s.val, .func (.func g) #[] lb] w (Gives (.int .i64 (idxOf p s.l)) w) := by
  obtain ⟨a, c, l⟩ := s
  have hl : l.length ≤ 140737488351232 := hs.big
  have hc := hide hs.cell
  have HP := hide hp
  clear hp hs
  simp only [SL.val]
  go_enter Tryz.func144, Tryz.ntmps144
  go_wp2_with fail
  go_loopg [5, 8] l.length (fun gg _ s8 wr => ∃ kk : Nat, kk ≤ l.length ∧ l.length - kk ≤ gg ∧ s8 = .int .i64 kk ∧ Hid (∃ G : Grw w, wr = gr w G) ∧ Hid (∀ j y, j < kk → l[j]? = some y → p y = false))
  case atStart => exact ⟨0, Nat.zero_le _, by omega, rfl, to_gr (Below.refl _ w), fun j y hj => absurd hj (Nat.not_lt_zero _)⟩
  case round =>
    obtain ⟨kk, hkk, hg, rfl, ⟨G, rfl⟩, A⟩ := hrel
    by_cases hlt : kk < l.length
    · have hx : l[kk]? = some l[kk] := List.getElem?_eq_getElem hlt
      obtain ⟨b, off, rfl, hb, hcell⟩ := hc.out kk l[kk] hx
      have ib : LtB b w.heap.size := ⟨hb⟩
      clear hb
      have hcall := HP.out G l[kk] (List.getElem_mem hlt)
      generalize l[kk] = x at hx hcell hcall
      have c0 : w.cell? ⟨b, off + kk, none⟩ = some (.int .i64 x) := by have h := hcell 0 _ rfl; simpa using h
      have Hx := hide hx
      have HC := hide hcall
      clear hcell hx hcall
      cases hq : p x with
      | true =>
        rw [hq] at HC
        have Hq := hide hq
        clear hq
        go_wp2_with (go_at_fn g; refine HC.out.mono ?_; rintro e w1 ⟨rfl, hb1⟩)
        go_ret
        exact ⟨by rw [idxOf_hit p l kk x Hx.out Hq.out A.out]; rfl, (gr_below w G).trans (hb1.mono (size_gr G))⟩
      | false =>
        rw [hq] at HC
        have Hq := hide hq
        clear hq
        go_wp2_with (go_at_fn g; refine HC.out.mono ?_; rintro e w1 ⟨rfl, hb1⟩)
        go_roundg (l.length - (kk + 1))
        case measure => omega
        case rel =>
          refine ⟨kk + 1, by omega, by omega, by go_num, to_gr ((gr_below w G).trans (hb1.mono (size_gr G))), ?_⟩
          intro j y hj hy
          rcases Nat.lt_or_ge j kk with h | h
          · exact A.out j y h hy
          · obtain rfl : j = kk := by omega
            have := Hx.out.symm.trans hy
            injection this with this
            subst this
            exact Hq.out
    · have A' := A.out
      have A2 := hide (idxOf_none p l (fun j y hy => A' j y (by have := (List.getElem?_eq_some_iff.1 hy).1; omega) hy))
      clear A' A
      go_wp2
      go_ret
      exact ⟨by rw [A2.out]; rfl, gr_below w G⟩

theorem ContainsFunc_Errnos (s : SL Int) (p : Int → Bool) (g : Nat) (lb : Array Value) (eg : ∀ args w, (callFunc g args).run Tryz.prog w = .ok (.enter g args) w) (w : World) (hs : s.At (fun x => [.int .i64 x]) 1 w) (hp : ∀ (G : Grw w) x, x ∈ s.l → Calls Tryz.prog g (#[.int .i64 x] ++ lb) (gr w G) (Gives (.bool (p x)) (gr w G))) : Calls Tryz.prog 107 #[s.val, .func (.func g) #[] lb] w (Gives (.bool (s.l.any p)) w) := by
  have HI := hide (IndexFunc_Errnos s p g lb eg w hs hp)
  clear hp hs
  obtain ⟨a, c, l⟩ := s
  simp only [SL.val] at *
  go_enter Tryz.func107, Tryz.ntmps107
  go_wp2_with (go_at_call 144; refine HI.out.mono ?_; rintro e w1 ⟨rfl, hb1⟩)
  go_ret
  exact ⟨by rw [← idxOf_any]; rfl, hb1⟩

set_option maxHeartbeats 800000 in
theorem IndexFunc_Strings (s : SL ByteArray) (p : ByteArray → Bool) (g : Nat) (lb : Array Value) (eg : ∀ args w, (callFunc g args).run Tryz.prog w = .ok (.enter g args) w) (w : World) (hs : s.At (fun x => [.string x]) 1 w) (hp : ∀ (G : Grw w) x, x ∈ s.l → Calls Tryz.prog g (#[.string x] ++ lb) (gr w G) (Gives (.bool (p x)) (gr w G))) : Calls Tryz.prog 132 #[s.val, .func (.func g) #[] lb] w (Gives (.int .i64 (idxOf p s.l)) w) := by
  obtain ⟨a, c, l⟩ := s
  have hl : l.length ≤ 140737488351232 := hs.big
  have hc := hide hs.cell
  have HP := hide hp
  clear hp hs
  simp only [SL.val]
  go_enter Tryz.func132, Tryz.ntmps132
  go_wp2_with fail
  go_loopg [5, 8] l.length (fun gg _ s8 wr => ∃ kk : Nat, kk ≤ l.length ∧ l.length - kk ≤ gg ∧ s8 = .int .i64 kk ∧ Hid (∃ G : Grw w, wr = gr w G) ∧ Hid (∀ j y, j < kk → l[j]? = some y → p y = false))
  case atStart => exact ⟨0, Nat.zero_le _, by omega, rfl, to_gr (Below.refl _ w), fun j y hj => absurd hj (Nat.not_lt_zero _)⟩
  case round =>
    obtain ⟨kk, hkk, hg, rfl, ⟨G, rfl⟩, A⟩ := hrel
    by_cases hlt : kk < l.length
    · have hx : l[kk]? = some l[kk] := List.getElem?_eq_getElem hlt
      obtain ⟨b, off, rfl, hb, hcell⟩ := hc.out kk l[kk] hx
      have ib : LtB b w.heap.size := ⟨hb⟩
      clear hb
      have hcall := HP.out G l[kk] (List.getElem_mem hlt)
      generalize l[kk] = x at hx hcell hcall
      have c0 : w.cell? ⟨b, off + kk, none⟩ = some (.string x) := by have h := hcell 0 _ rfl; simpa using h
      have Hx := hide hx
      have HC := hide hcall
      clear hcell hx hcall
      cases hq : p x with
      | true =>
        rw [hq] at HC
        have Hq := hide hq
        clear hq
        go_wp2_with (go_at_fn g; refine HC.out.mono ?_; rintro e w1 ⟨rfl, hb1⟩)
        go_ret
        exact ⟨by rw [idxOf_hit p l kk x Hx.out Hq.out A.out]; rfl, (gr_below w G).trans (hb1.mono (size_gr G))⟩
      | false =>
        rw [hq] at HC
        have Hq := hide hq
        clear hq
        go_wp2_with (go_at_fn g; refine HC.out.mono ?_; rintro e w1 ⟨rfl, hb1⟩)
        go_roundg (l.length - (kk + 1))
        case measure => omega
        case rel =>
          refine ⟨kk + 1, by omega, by omega, by go_num, to_gr ((gr_below w G).trans (hb1.mono (size_gr G))), ?_⟩
          intro j y hj hy
          rcases Nat.lt_or_ge j kk with h | h
          · exact A.out j y h hy
          · obtain rfl : j = kk := by omega
            have := Hx.out.symm.trans hy
            injection this with this
            subst this
            exact Hq.out
    · have A' := A.out
      have A2 := hide (idxOf_none p l (fun j y hy => A' j y (by have := (List.getElem?_eq_some_iff.1 hy).1; omega) hy))
      clear A' A
      go_wp2
      go_ret
      exact ⟨by rw [A2.out]; rfl, gr_below w G⟩

theorem ContainsFunc_Strings (s : SL ByteArray) (p : ByteArray → Bool) (g : Nat) (lb : Array Value) (eg : ∀ args w, (callFunc g args).run Tryz.prog w = .ok (.enter g args) w) (w : World) (hs : s.At (fun x => [.string x]) 1 w) (hp : ∀ (G : Grw w) x, x ∈ s.l → Calls Tryz.prog g (#[.string x] ++ lb) (gr w G) (Gives (.bool (p x)) (gr w G))) : Calls Tryz.prog 82 #[s.val, .func (.func g) #[] lb] w (Gives (.bool (s.l.any p)) w) := by
  have HI := hide (IndexFunc_Strings s p g lb eg w hs hp)
  clear hp hs
  obtain ⟨a, c, l⟩ := s
  simp only [SL.val] at *
  go_enter Tryz.func82, Tryz.ntmps82
  go_wp2_with (go_at_call 132; refine HI.out.mono ?_; rintro e w1 ⟨rfl, hb1⟩)
  go_ret
  exact ⟨by rw [← idxOf_any]; rfl, hb1⟩

set_option maxHeartbeats 800000 in
theorem IndexFunc_Node (s : SL Node) (p : Node → Bool) (g : Nat) (lb : Array Value) (eg : ∀ args w, (callFunc g args).run Tryz.prog w = .ok (.enter g args) w) (w : World) (hs : s.At Node.enc 10 w) (hp : ∀ (G : Grw w) x, x ∈ s.l → Calls Tryz.prog g (#[Node.val x] ++ lb) (gr w G) (Gives (.bool (p x)) (gr w G))) : Calls Tryz.prog 94 #[s.val, .func (.func g) #[] lb] w (Gives (.int .i64 (idxOf p s.l)) w) := by
  obtain ⟨a, c, l⟩ := s
  have hl : l.length ≤ 140737488351232 := hs.big
  have hc := hide hs.cell
  have HP := hide hp
  clear hp hs
  simp only [SL.val]
  go_enter Tryz.func94, Tryz.ntmps94
  go_wp2_with fail
  go_loopg [5, 8] l.length (fun gg _ s8 wr => ∃ kk : Nat, kk ≤ l.length ∧ l.length - kk ≤ gg ∧ s8 = .int .i64 kk ∧ Hid (∃ G : Grw w, wr = gr w G) ∧ Hid (∀ j y, j < kk → l[j]? = some y → p y = false))
  case atStart => exact ⟨0, Nat.zero_le _, by omega, rfl, to_gr (Below.refl _ w), fun j y hj => absurd hj (Nat.not_lt_zero _)⟩
  case round =>
    obtain ⟨kk, hkk, hg, rfl, ⟨G, rfl⟩, A⟩ := hrel
    by_cases hlt : kk < l.length
    · have hx : l[kk]? = some l[kk] := List.getElem?_eq_getElem hlt
      obtain ⟨b, off, rfl, hb, hcell⟩ := hc.out kk l[kk] hx
      have ib : LtB b w.heap.size := ⟨hb⟩
      clear hb
      have hcall := HP.out G l[kk] (List.getElem_mem hlt)
      generalize l[kk] = x at hx hcell hcall
      have c0 : w.cell? ⟨b, off + kk * 10, none⟩ = some _ := hcell 0 _ rfl
      have c1 := hcell 1 _ rfl
      have c2 := hcell 2 _ rfl
      have c3 := hcell 3 _ rfl
      have c4 := hcell 4 _ rfl
      have c5 := hcell 5 _ rfl
      have c6 := hcell 6 _ rfl
      have c7 := hcell 7 _ rfl
      have c8 := hcell 8 _ rfl
      have c9 := hcell 9 _ rfl
      have Hx := hide hx
      have HC := hide hcall
      clear hcell hx hcall
      cases hq : p x with
      | true =>
        rw [hq] at HC
        have Hq := hide hq
        clear hq
        go_wp2_with (go_at_fn g; refine HC.out.mono ?_; rintro e w1 ⟨rfl, hb1⟩)
        go_ret
        exact ⟨by rw [idxOf_hit p l kk x Hx.out Hq.out A.out]; rfl, (gr_below w G).trans (hb1.mono (size_gr G))⟩
      | false =>
        rw [hq] at HC
        have Hq := hide hq
        clear hq
        go_wp2_with (go_at_fn g; refine HC.out.mono ?_; rintro e w1 ⟨rfl, hb1⟩)
        go_roundg (l.length - (kk + 1))
        case measure => omega
        case rel =>
          refine ⟨kk + 1, by omega, by omega, by go_num, to_gr ((gr_below w G).trans (hb1.mono (size_gr G))), ?_⟩
          intro j y hj hy
          rcases Nat.lt_or_ge j kk with h | h
          · exact A.out j y h hy
          · obtain rfl : j = kk := by omega
            have := Hx.out.symm.trans hy
            injection this with this
            subst this
            exact Hq.out
    · have A' := A.out
      have A2 := hide (idxOf_none p l (fun j y hy => A' j y (by have := (List.getElem?_eq_some_iff.1 hy).1; omega) hy))
      clear A' A
      go_wp2
      go_ret
      exact ⟨by rw [A2.out]; rfl, gr_below w G⟩

theorem ContainsFunc_Node (s : SL Node) (p : Node → Bool) (g : Nat) (lb : Array Value) (eg : ∀ args w, (callFunc g args).run Tryz.prog w = .ok (.enter g args) w) (w : World) (hs : s.At Node.enc 10 w) (hp : ∀ (G : Grw w) x, x ∈ s.l → Calls Tryz.prog g (#[Node.val x] ++ lb) (gr w G) (Gives (.bool (p x)) (gr w G))) : Calls Tryz.prog 58 #[s.val, .func (.func g) #[] lb] w (Gives (.bool (s.l.any p)) w) := by
  have HI := hide (IndexFunc_Node s p g lb eg w hs hp)
  clear hp hs
  obtain ⟨a, c, l⟩ := s
  simp only [SL.val] at *
  go_enter Tryz.func58, Tryz.ntmps58
  go_wp2_with (go_at_call 94; refine HI.out.mono ?_; rintro e w1 ⟨rfl, hb1⟩)
  go_ret
  exact ⟨by rw [← idxOf_any]; rfl, hb1⟩

set_option maxHeartbeats 800000 in
theorem IndexFunc_Owner (s : SL Owner) (p : Owner → Bool) (g : Nat) (lb : Array Value) (eg : ∀ args w, (callFunc g args).run Tryz.prog w = .ok (.enter g args) w) (w : World) (hs : s.At Owner.enc 5 w) (hp : ∀ (G : Grw w) x, x ∈ s.l → Calls Tryz.prog g (#[Owner.val x] ++ lb) (gr w G) (Gives (.bool (p x)) (gr w G))) : Calls Tryz.prog 97 #[s.val, .func (.func g) #[] lb] w (Gives (.int .i64 (idxOf p s.l)) w) := by
  obtain ⟨a, c, l⟩ := s
  have hl : l.length ≤ 140737488351232 := hs.big
  have hc := hide hs.cell
  have HP := hide hp
  clear hp hs
  simp only [SL.val]
  go_enter Tryz.func97, Tryz.ntmps97
  go_wp2_with fail
  go_loopg [5, 8] l.length (fun gg _ s8 wr => ∃ kk : Nat, kk ≤ l.length ∧ l.length - kk ≤ gg ∧ s8 = .int .i64 kk ∧ Hid (∃ G : Grw w, wr = gr w G) ∧ Hid (∀ j y, j < kk → l[j]? = some y → p y = false))
  case atStart => exact ⟨0, Nat.zero_le _, by omega, rfl, to_gr (Below.refl _ w), fun j y hj => absurd hj (Nat.not_lt_zero _)⟩
  case round =>
    obtain ⟨kk, hkk, hg, rfl, ⟨G, rfl⟩, A⟩ := hrel
    by_cases hlt : kk < l.length
    · have hx : l[kk]? = some l[kk] := List.getElem?_eq_getElem hlt
      obtain ⟨b, off, rfl, hb, hcell⟩ := hc.out kk l[kk] hx
      have ib : LtB b w.heap.size := ⟨hb⟩
      clear hb
      have hcall := HP.out G l[kk] (List.getElem_mem hlt)
      generalize l[kk] = x at hx hcell hcall
      have c0 : w.cell? ⟨b, off + kk * 5, none⟩ = some _ := hcell 0 _ rfl
      have c1 := hcell 1 _ rfl
      have c2 := hcell 2 _ rfl
      have c3 := hcell 3 _ rfl
      have c4 := hcell 4 _ rfl
      have Hx := hide hx
      have HC := hide hcall
      clear hcell hx hcall
      cases hq : p x with
      | true =>
        rw [hq] at HC
        have Hq := hide hq
        clear hq
        go_wp2_with (go_at_fn g; refine HC.out.mono ?_; rintro e w1 ⟨rfl, hb1⟩)
        go_ret
        exact ⟨by rw [idxOf_hit p l kk x Hx.out Hq.out A.out]; rfl, (gr_below w G).trans (hb1.mono (size_gr G))⟩
      | false =>
        rw [hq] at HC
        have Hq := hide hq
        clear hq
        go_wp2_with (go_at_fn g; refine HC.out.mono ?_; rintro e w1 ⟨rfl, hb1⟩)
        go_roundg (l.length - (kk + 1))
        case measure => omega
        case rel =>
          refine ⟨kk + 1, by omega, by omega, by go_num, to_gr ((gr_below w G).trans (hb1.mono (size_gr G))), ?_⟩
          intro j y hj hy
          rcases Nat.lt_or_ge j kk with h | h
          · exact A.out j y h hy
          · obtain rfl : j = kk := by omega
            have := Hx.out.symm.trans hy
            injection this with this
            subst this
            exact Hq.out
    · have A' := A.out
      have A2 := hide (idxOf_none p l (fun j y hy => A' j y (by have := (List.getElem?_eq_some_iff.1 hy).1; omega) hy))
      clear A' A
      go_wp2
      go_ret
      exact ⟨by rw [A2.out]; rfl, gr_below w G⟩

theorem ContainsFunc_Owner (s : SL Owner) (p : Owner → Bool) (g : Nat) (lb : Array Value) (eg : ∀ args w, (callFunc g args).run Tryz.prog w = .ok (.enter g args) w) (w : World) (hs : s.At Owner.enc 5 w) (hp : ∀ (G : Grw w) x, x ∈ s.l → Calls Tryz.prog g (#[Owner.val x] ++ lb) (gr w G) (Gives (.bool (p x)) (gr w G))) : Calls Tryz.prog 61 #[s.val, .func (.func g) #[] lb] w (Gives (.bool (s.l.any p)) w) := by
  have HI := hide (IndexFunc_Owner s p g lb eg w hs hp)
  clear hp hs
  obtain ⟨a, c, l⟩ := s
  simp only [SL.val] at *
  go_enter Tryz.func61, Tryz.ntmps61
  go_wp2_with (go_at_call 97; refine HI.out.mono ?_; rintro e w1 ⟨rfl, hb1⟩)
  go_ret
  exact ⟨by rw [← idxOf_any]; rfl, hb1⟩

set_option maxHeartbeats 800000 in
theorem IndexFunc_Pod (s : SL Pod) (p : Pod → Bool) (g : Nat) (lb : Array Value) (eg : ∀ args w, (callFunc g args).run Tryz.prog w = .ok (.enter g args) w) (w : World) (hs : s.At Pod.enc 15 w) (hp : ∀ (G : Grw w) x, x ∈ s.l → Calls Tryz.prog g (#[Pod.val x] ++ lb) (gr w G) (Gives (.bool (p x)) (gr w G))) : Calls Tryz.prog 98 #[s.val, .func (.func g) #[] lb] w (Gives (.int .i64 (idxOf p s.l)) w) := by
  obtain ⟨a, c, l⟩ := s
  have hl : l.length ≤ 140737488351232 := hs.big
  have hc := hide hs.cell
  have HP := hide hp
  clear hp hs
  simp only [SL.val]
  go_enter Tryz.func98, Tryz.ntmps98
  go_wp2_with fail
  go_loopg [5, 8] l.length (fun gg _ s8 wr => ∃ kk : Nat, kk ≤ l.length ∧ l.length - kk ≤ gg ∧ s8 = .int .i64 kk ∧ Hid (∃ G : Grw w, wr = gr w G) ∧ Hid (∀ j y, j < kk → l[j]? = some y → p y = false))
  case atStart => exact ⟨0, Nat.zero_le _, by omega, rfl, to_gr (Below.refl _ w), fun j y hj => absurd hj (Nat.not_lt_zero _)⟩
  case round =>
    obtain ⟨kk, hkk, hg, rfl, ⟨G, rfl⟩, A⟩ := hrel
    by_cases hlt : kk < l.length
    · have hx : l[kk]? = some l[kk] := List.getElem?_eq_getElem hlt
      obtain ⟨b, off, rfl, hb, hcell⟩ := hc.out kk l[kk] hx
      have ib : LtB b w.heap.size := ⟨hb⟩
      clear hb
      have hcall := HP.out G l[kk] (List.getElem_mem hlt)
      generalize l[kk] = x at hx hcell hcall
      have c0 : w.cell? ⟨b, off + kk * 15, none⟩ = some _ := hcell 0 _ rfl
      have c1 := hcell 1 _ rfl
      have c2 := hcell 2 _ rfl
      have c3 := hcell 3 _ rfl
      have c4 := hcell 4 _ rfl
      have c5 := hcell 5 _ rfl
      have c6 := hcell 6 _ rfl
      have c7 := hcell 7 _ rfl
      have c8 := hcell 8 _ rfl
      have c9 := hcell 9 _ rfl
      have c10 := hcell 10 _ rfl
      have c11 := hcell 11 _ rfl
      have c12 := hcell 12 _ rfl
      have c13 := hcell 13 _ rfl
      have c14 := hcell 14 _ rfl
      have Hx := hide hx
      have HC := hide hcall
      clear hcell hx hcall
      cases hq : p x with
      | true =>
        rw [hq] at HC
        have Hq := hide hq
        clear hq
        go_wp2_with (go_at_fn g; refine HC.out.mono ?_; rintro e w1 ⟨rfl, hb1⟩)
        go_ret
        exact ⟨by rw [idxOf_hit p l kk x Hx.out Hq.out A.out]; rfl, (gr_below w G).trans (hb1.mono (size_gr G))⟩
      | false =>
        rw [hq] at HC
        have Hq := hide hq
        clear hq
        go_wp2_with (go_at_fn g; refine HC.out.mono ?_; rintro e w1 ⟨rfl, hb1⟩)
        go_roundg (l.length - (kk + 1))
        case measure => omega
        case rel =>
          refine ⟨kk + 1, by omega, by omega, by go_num, to_gr ((gr_below w G).trans (hb1.mono (size_gr G))), ?_⟩
          intro j y hj hy
          rcases Nat.lt_or_ge j kk with h | h
          · exact A.out j y h hy
          · obtain rfl : j = kk := by omega
            have := Hx.out.symm.trans hy
            injection this with this
            subst this
            exact Hq.out
    · have A' := A.out
      have A2 := hide (idxOf_none p l (fun j y hy => A' j y (by have := (List.getElem?_eq_some_iff.1 hy).1; omega) hy))
      clear A' A
      go_wp2
      go_ret
      exact ⟨by rw [A2.out]; rfl, gr_below w G⟩

theorem ContainsFunc_Pod (s : SL Pod) (p : Pod → Bool) (g : Nat) (lb : Array Value) (eg : ∀ args w, (callFunc g args).run Tryz.prog w = .ok (.enter g args) w) (w : World) (hs : s.At Pod.enc 15 w) (hp : ∀ (G : Grw w) x, x ∈ s.l → Calls Tryz.prog g (#[Pod.val x] ++ lb) (gr w G) (Gives (.bool (p x)) (gr w G))) : Calls Tryz.prog 64 #[s.val, .func (.func g) #[] lb] w (Gives (.bool (s.l.any p)) w) := by
  have HI := hide (IndexFunc_Pod s p g lb eg w hs hp)
  clear hp hs
  obtain ⟨a, c, l⟩ := s
  simp only [SL.val] at *
  go_enter Tryz.func64, Tryz.ntmps64
  go_wp2_with (go_at_call 98; refine HI.out.mono ?_; rintro e w1 ⟨rfl, hb1⟩)
  go_ret
  exact ⟨by rw [← idxOf_any]; rfl, hb1⟩

set_option maxHeartbeats 800000 in
theorem IndexFunc_Label (s : SL Label) (p : Label → Bool) (g : Nat) (lb : Array Value) (eg : ∀ args w, (callFunc g args).run Tryz.prog w = .ok (.enter g args) w) (w : World) (hs : s.At Label.enc 2 w) (hp : ∀ (G : Grw w) x, x ∈ s.l → Calls Tryz.prog g (#[Label.val x] ++ lb) (gr w G) (Gives (.bool (p x)) (gr w G))) : Calls Tryz.prog 154 #[s.val, .func (.func g) #[] lb] w (Gives (.int .i64 (idxOf p s.l)) w) := by
  obtain ⟨a, c, l⟩ := s
  have hl : l.length ≤ 140737488351232 := hs.big
  have hc := hide hs.cell
  have HP := hide hp
  clear hp hs
  simp only [SL.val]
  go_enter Tryz.func154, Tryz.ntmps154
  go_wp2_with fail
  go_loopg [5, 8] l.length (fun gg _ s8 wr => ∃ kk : Nat, kk ≤ l.length ∧ l.length - kk ≤ gg ∧ s8 = .int .i64 kk ∧ Hid (∃ G : Grw w, wr = gr w G) ∧ Hid (∀ j y, j < kk → l[j]? = some y → p y = false))
  case atStart => exact ⟨0, Nat.zero_le _, by omega, rfl, to_gr (Below.refl _ w), fun j y hj => absurd hj (Nat.not_lt_zero _)⟩
  case round =>
    obtain ⟨kk, hkk, hg, rfl, ⟨G, rfl⟩, A⟩ := hrel
    by_cases hlt : kk < l.length
    · have hx : l[kk]? = some l[kk] := List.getElem?_eq_getElem hlt
      obtain ⟨b, off, rfl, hb, hcell⟩ := hc.out kk l[kk] hx
      have ib : LtB b w.heap.size := ⟨hb⟩
      clear hb
      have hcall := HP.out G l[kk] (List.getElem_mem hlt)
      generalize l[kk] = x at hx hcell hcall
      have c0 : w.cell? ⟨b, off + kk * 2, none⟩ = some _ := hcell 0 _ rfl
      have c1 := hcell 1 _ rfl
      have Hx := hide hx
      have HC := hide hcall
      clear hcell hx hcall
      cases hq : p x with
      | true =>
        rw [hq] at HC
        have Hq := hide hq
        clear hq
        go_wp2_with (go_at_fn g; refine HC.out.mono ?_; rintro e w1 ⟨rfl, hb1⟩)
        go_ret
        exact ⟨by rw [idxOf_hit p l kk x Hx.out Hq.out A.out]; rfl, (gr_below w G).trans (hb1.mono (size_gr G))⟩
      | false =>
        rw [hq] at HC
        have Hq := hide hq
        clear hq
        go_wp2_with (go_at_fn g; refine HC.out.mono ?_; rintro e w1 ⟨rfl, hb1⟩)
        go_roundg (l.length - (kk + 1))
        case measure => omega
        case rel =>
          refine ⟨kk + 1, by omega, by omega, by go_num, to_gr ((gr_below w G).trans (hb1.mono (size_gr G))), ?_⟩
          intro j y hj hy
          rcases Nat.lt_or_ge j kk with h | h
          · exact A.out j y h hy
          · obtain rfl : j = kk := by omega
            have := Hx.out.symm.trans hy
            injection this with this
            subst this
            exact Hq.out
    · have A' := A.out
      have A2 := hide (idxOf_none p l (fun j y hy => A' j y (by have := (List.getElem?_eq_some_iff.1 hy).1; omega) hy))
      clear A' A
      go_wp2
      go_ret
      exact ⟨by rw [A2.out]; rfl, gr_below w G⟩

theorem ContainsFunc_Label (s : SL Label) (p : Label → Bool) (g : Nat) (lb : Array Value) (eg : ∀ args w, (callFunc g args).run Tryz.prog w = .ok (.enter g args) w) (w : World) (hs : s.At Label.enc 2 w) (hp : ∀ (G : Grw w) x, x ∈ s.l → Calls Tryz.prog g (#[Label.val x] ++ lb) (gr w G) (Gives (.bool (p x)) (gr w G))) : Calls Tryz.prog 146 #[s.val, .func (.func g) #[] lb] w (Gives (.bool (s.l.any p)) w) := by
  have HI := hide (IndexFunc_Label s p g lb eg w hs hp)
  clear hp hs
  obtain ⟨a, c, l⟩ := s
  simp only [SL.val] at *
  go_enter Tryz.func146, Tryz.ntmps146
  go_wp2_with (go_at_call 154; refine HI.out.mono ?_; rintro e w1 ⟨rfl, hb1⟩)
  go_ret
  exact ⟨by rw [← idxOf_any]; rfl, hb1⟩

set_option maxHeartbeats 800000 in
theorem IndexFunc_Clause (s : SL Clause) (p : Clause → Bool) (g : Nat) (lb : Array Value) (eg : ∀ args w, (callFunc g args).run Tryz.prog w = .ok (.enter g args) w) (w : World) (hs : s.At Clause.enc 4 w) (hp : ∀ (G : Grw w) x, x ∈ s.l → Calls Tryz.prog g (#[Clause.val x] ++ lb) (gr w G) (Gives (.bool (p x)) (gr w G))) : Calls Tryz.prog 37 #[s.val, .func (.func g) #[] lb] w (Gives (.int .i64 (idxOf p s.l)) w) := by
  obtain ⟨a, c, l⟩ := s
  have hl : l.length ≤ 140737488351232 := hs.big
  have hc := hide hs.cell
  have HP := hide hp
  clear hp hs
  simp only [SL.val]
  go_enter Tryz.func37, Tryz.ntmps37
  go_wp2_with fail
  go_loopg [5, 8] l.length (fun gg _ s8 wr => ∃ kk : Nat, kk ≤ l.length ∧ l.length - kk ≤ gg ∧ s8 = .int .i64 kk ∧ Hid (∃ G : Grw w, wr = gr w G) ∧ Hid (∀ j y, j < kk → l[j]? = some y → p y = false))
  case atStart => exact ⟨0, Nat.zero_le _, by omega, rfl, to_gr (Below.refl _ w), fun j y hj => absurd hj (Nat.not_lt_zero _)⟩
  case round =>
    obtain ⟨kk, hkk, hg, rfl, ⟨G, rfl⟩, A⟩ := hrel
    by_cases hlt : kk < l.length
    · have hx : l[kk]? = some l[kk] := List.getElem?_eq_getElem hlt
      obtain ⟨b, off, rfl, hb, hcell⟩ := hc.out kk l[kk] hx
      have ib : LtB b w.heap.size := ⟨hb⟩
      clear hb
      have hcall := HP.out G l[kk] (List.getElem_mem hlt)
      generalize l[kk] = x at hx hcell hcall
      have c0 : w.cell? ⟨b, off + kk * 4, none⟩ = some _ := hcell 0 _ rfl
      have c1 := hcell 1 _ rfl
      have c2 := hcell 2 _ rfl
      have c3 := hcell 3 _ rfl
      have Hx := hide hx
      have HC := hide hcall
      clear hcell hx hcall
      cases hq : p x with
      | true =>
        rw [hq] at HC
        have Hq := hide hq
        clear hq
        go_wp2_with (go_at_fn g; refine HC.out.mono ?_; rintro e w1 ⟨rfl, hb1⟩)
        go_ret
        exact ⟨by rw [idxOf_hit p l kk x Hx.out Hq.out A.out]; rfl, (gr_below w G).trans (hb1.mono (size_gr G))⟩
      | false =>
        rw [hq] at HC
        have Hq := hide hq
        clear hq
        go_wp2_with (go_at_fn g; refine HC.out.mono ?_; rintro e w1 ⟨rfl, hb1⟩)
        go_roundg (l.length - (kk + 1))
        case measure => omega
        case rel =>
          refine ⟨kk + 1, by omega, by omega, by go_num, to_gr ((gr_below w G).trans (hb1.mono (size_gr G))), ?_⟩
          intro j y hj hy
          rcases Nat.lt_or_ge j kk with h | h
          · exact A.out j y h hy
          · obtain rfl : j = kk := by omega
            have := Hx.out.symm.trans hy
            injection this with this
            subst this
            exact Hq.out
    · have A' := A.out
      have A2 := hide (idxOf_none p l (fun j y hy => A' j y (by have := (List.getElem?_eq_some_iff.1 hy).1; omega) hy))
      clear A' A
      go_wp2
      go_ret
      exact ⟨by rw [A2.out]; rfl, gr_below w G⟩

end Go.Proofs.YtnjjdilmaepokaaGreat
namespace Go.Proofs.YtnjjdilmaepokaaGreat
open Go.RowKit

/-! ### The plain functions -/
def small (c : Int) : Bool := decide (97 ≤ c) && decide (c ≤ 122)
def inside (c : Int) : Bool := small c || (decide (48 ≤ c) && decide (c ≤ 57)) || (c == 45)
def valueB (s : ByteArray) : Bool := !(emp s) && decide (s.size ≤ 15) && decide (Lib.idxFunc (fun r => !inside (r : Int)) true s < 0)
def byteAt (s : ByteArray) (i : Nat) : Int := if h : i < s.size then ((s[i]'h).toNat : Int) else 0
def nameB (s : ByteArray) : Bool := valueB s && small (byteAt s 0)

set_option maxHeartbeats 400000 in
theorem small_ok (c : Int) (w : World) : Calls Tryz.prog 134 #[.int .i32 c] w fun e w' => e = .returned (.bool (small c)) ∧ w = w' := by
  unfold small
  by_cases h1 : 97 ≤ c <;> by_cases h2 : c ≤ 122
  all_goals
    go_enter Tryz.func134, Tryz.ntmps134
    go_wp2
    go_ret
    exact ⟨by simp [h1, h2], rfl⟩

set_option maxHeartbeats 400000 in
theorem inside_ok (c : Int) (w : World) : Calls Tryz.prog 157 #[.int .i32 c] w fun e w' => e = .returned (.bool (inside c)) ∧ w = w' := by
  unfold inside
  have H := hide (small_ok c w)
  cases hs : small c with
  | true =>
    rw [hs] at H
    have Hs := hide hs
    clear hs
    go_enter Tryz.func157, Tryz.ntmps157
    go_wp2_with (go_at_call 134; refine H.out.mono ?_; rintro e w' ⟨rfl, rfl⟩)
    go_ret
    exact ⟨by simp, rfl⟩
  | false =>
    rw [hs] at H
    have Hs := hide hs
    clear hs
    by_cases h1 : 48 ≤ c <;> by_cases h2 : c ≤ 57 <;> by_cases h3 : c = 45
    all_goals
      first
      | omega
      | have h4 := hide h3
        first
        | have h5 : (c == 45) = true := beq_iff_eq.2 h3
          clear h3
          go_enter Tryz.func157, Tryz.ntmps157
          go_wp2_with (go_at_call 134; refine H.out.mono ?_; rintro e w' ⟨rfl, rfl⟩)
          go_ret
          exact ⟨by simp [h1, h2, h5], rfl⟩
        | have h5 : (c == 45) = false := beq_eq_false_iff_ne.2 h3
          clear h3
          go_enter Tryz.func157, Tryz.ntmps157
          go_wp2_with (go_at_call 134; refine H.out.mono ?_; rintro e w' ⟨rfl, rfl⟩)
          go_ret
          exact ⟨by simp [h1, h2, h5], rfl⟩

theorem value1_pred (w : World) : PredAt Tryz.prog 156 #[] encR (fun r : Nat => !inside (r : Int)) w := fun W r hb => by
  unfold FnGives
  have H := hide (inside_ok (r : Int) W)
  simp only [encR]
  go_enter Tryz.func156, Tryz.ntmps156
  go_wp2_with (go_at_call 157; refine H.out.mono ?_; rintro e w' ⟨rfl, rfl⟩)
  go_ret
  exact ⟨rfl, 0, rfl⟩

set_option maxHeartbeats 400000 in
theorem value_ok (s : ByteArray) (w : World) : Calls Tryz.prog 133 #[.string s] w (Gives (.bool (valueB s)) w) := by
  have eg : ∀ args w, (callFunc 156 args).run Tryz.prog w = .ok (.enter 156 args) w := enters_of Tryz.func156 (by kernel_rfl) rfl
  have HI := hide (Tryz.strings_IndexFunc 156 #[] eg _ s w (value1_pred w))
  clear eg
  unfold valueB
  cases h0 : emp s with
  | true =>
    have h3 : s.toList = [] := emp_true h0
    have h1 : s.toList.isEmpty = true := (emp_w s).trans h0
    clear h0
    go_enter Tryz.func133, Tryz.ntmps133
    go_wp2_with fail
    go_ret
    exact ⟨by simp, Below.refl _ _⟩
  | false =>
    have h3 : ¬ s.toList = [] := emp_false h0
    have h1 : s.toList.isEmpty = false := (emp_w s).trans h0
    clear h0
    by_cases h2 : s.size ≤ 15
    · go_enter Tryz.func133, Tryz.ntmps133
      go_wp2_with (go_at_call 158; refine HI.out.mono ?_; rintro e w' ⟨rfl, hb⟩)
      go_ret
      exact ⟨by simp [h2], hb⟩
    · go_enter Tryz.func133, Tryz.ntmps133
      go_wp2_with fail
      go_ret
      exact ⟨by simp [h2], Below.refl _ _⟩

theorem value_size {s : ByteArray} (h : valueB s = true) : 0 < s.size := by
  unfold valueB at h
  simp only [Bool.and_eq_true, Bool.not_eq_true'] at h
  rcases Nat.eq_zero_or_pos s.size with h0 | h0
  · have : s = ByteArray.empty := by simpa using h0
    subst this
    exact absurd h.1.1 (by decide)
  · exact h0

set_option maxHeartbeats 400000 in
theorem name_ok (s : ByteArray) (w : World) : Calls Tryz.prog 84 #[.string s] w (Gives (.bool (nameB s)) w) := by
  have HV := hide (value_ok s w)
  unfold nameB
  cases hv : valueB s with
  | false =>
    rw [hv] at HV
    clear hv
    go_enter Tryz.func84, Tryz.ntmps84
    go_wp2_with (go_at_call 133; refine HV.out.mono ?_; rintro e w' ⟨rfl, hb⟩)
    go_ret
    exact ⟨by simp, hb⟩
  | true =>
    have h0 := value_size hv
    rw [hv] at HV
    clear hv
    have hx : ∃ c : Nat, (∀ h : 0 < s.size, ((s[0]'h).toNat : Int) = c) ∧ byteAt s 0 = (c : Int) ∧ c < 256 := ⟨(s[0]'h0).toNat, fun _ => rfl, by simp [byteAt, h0], (s[0]'h0).toNat_lt⟩
    obtain ⟨c, hc, hb0, hlt⟩ := hx
    rw [hb0]
    clear hb0
    go_enter Tryz.func84, Tryz.ntmps84
    go_wp2_with (first | (go_at_call 133; refine HV.out.mono ?_; rintro e w' ⟨rfl, hb⟩) | (go_at_call 134; refine (small_ok _ _).mono ?_; rintro e w1 ⟨rfl, rfl⟩))
    go_ret
    exact ⟨by simp, hb⟩

theorem dle6 (n : Nat) : decide ((n : Int) ≤ 6) = decide (n ≤ 6) := by rw [decide_eq_decide]; omega
def valued (k : Int) : Bool := k == 1 || k == 2
set_option maxHeartbeats 400000 in
theorem valued_ok (k : Int) (w : World) : Calls Tryz.prog 138 #[.int .i64 k] w fun e w' => e = .returned (.bool (valued k)) ∧ w = w' := by
  unfold valued
  cases h : (k == 1)
  all_goals
    go_enter Tryz.func138, Tryz.ntmps138
    go_wp2
    go_ret
    exact ⟨by simp, rfl⟩
def arg (b : Bool) : Int := if b then 0 else 2
theorem arg_ok (b : Bool) (w : World) : Calls Tryz.prog 139 #[.bool b] w fun e w' => e = .returned (.int .i64 (arg b)) ∧ w = w' := by
  unfold arg
  cases b
  all_goals
    go_enter Tryz.func139, Tryz.ntmps139
    go_wp2
    go_ret
    exact ⟨rfl, rfl⟩
def starB (s : ByteArray) : Bool := (s.data.toList == [42]) || valueB s
theorem star_ok (s : ByteArray) (w : World) : Calls Tryz.prog 140 #[.string s] w (Gives (.bool (starB s)) w) := by
  unfold starB
  rw [← toL]
  have HV := hide (value_ok s w)
  cases h : (s.toList == [42])
  · go_enter Tryz.func140, Tryz.ntmps140
    go_wp2_with (go_at_call 133; refine HV.out.mono ?_; rintro e w' ⟨rfl, hb⟩)
    go_ret
    exact ⟨rfl, hb⟩
  · go_enter Tryz.func140, Tryz.ntmps140
    go_wp2_with fail
    go_ret
    exact ⟨rfl, Below.refl _ _⟩
def byKeyB (a b : Label) : Bool := slt a.key b.key
theorem byKey_ok (a b : Label) (w : World) : Calls Tryz.prog 137 #[a.val, b.val] w (Gives (.bool (byKeyB a b)) w) := by
  simp only [Label.val]
  go_enter Tryz.func137, Tryz.ntmps137
  go_wp2
  go_ret
  exact ⟨by unfold byKeyB; rw [← slt_w]; rfl, b_alloc (b_alloc (Below.refl _ _) _) _⟩
def orL : List Int → Int
  | [] => 0
  | x :: l => if x = 0 then orL l else x
theorem Or_ok (a b : Int) (k : Nat) (w : World) (h0 : w.cell? ⟨k, 0, none⟩ = some (.int .i64 a)) (h1 : w.cell? ⟨k, 1, none⟩ = some (.int .i64 b)) : Calls Tryz.prog 168 #[.slice (some ⟨k, 0, none⟩) 2 2] w fun e w' => e = .returned (.int .i64 (orL [a, b])) ∧ w = w' := by
  cases ha : (a == 0)
  · have ha' : (a != 0) = true := by simpa using ha
    go_enter Tryz.func168, Tryz.ntmps168
    go_wp2_with fail
    refine wp_loop_rounds 2 ?_
    rw [rounds_succ]
    go_wp2_with fail
    go_ret
    exact ⟨by have h : ¬ a = 0 := by simpa using ha
              simp [orL, h], rfl⟩
  · have ha' : (a != 0) = false := by simpa using ha
    cases hb : (b == 0)
    · have hb' : (b != 0) = true := by simpa using hb
      go_enter Tryz.func168, Tryz.ntmps168
      go_wp2_with fail
      refine wp_loop_rounds 3 ?_
      rw [rounds_succ]
      go_wp2_with fail
      rw [rounds_succ]
      go_wp2_with fail
      go_ret
      exact ⟨by have h : a = 0 := by simpa using ha
                have h' : ¬ b = 0 := by simpa using hb
                simp [orL, h, h'], rfl⟩
    · have hb' : (b != 0) = false := by simpa using hb
      go_enter Tryz.func168, Tryz.ntmps168
      go_wp2_with fail
      refine wp_loop_rounds 4 ?_
      rw [rounds_succ]
      go_wp2_with fail
      rw [rounds_succ]
      go_wp2_with fail
      rw [rounds_succ]
      go_wp2_with fail
      go_ret
      exact ⟨by have h : a = 0 := by simpa using ha
                have h' : b = 0 := by simpa using hb
                simp [orL, h, h'], rfl⟩

def cmpB (a b : ByteArray) : Int := Lib.compareBytes a.data.toList b.data.toList
def compareB (a b : Label) : Int := orL [cmpB a.key b.key, cmpB a.value b.value]
theorem cmp_call (a b : ByteArray) {w : World} (g : Grw w) : Calls Tryz.prog 169 #[.string a, .string b] (gr w g) fun e w'' => e = .returned (.int .i64 (cmpB a b)) ∧ ∃ g' : Grw w, w'' = gr w g' :=
  (Tryz.strings_Compare a b (gr w g)).mono fun _ _ ⟨he, hw⟩ => ⟨he, g, hw⟩
set_option maxHeartbeats 400000 in
theorem compare_ok (a b : Label) (w : World) : Calls Tryz.prog 160 #[a.val, b.val] w (Gives (.int .i64 (compareB a b)) w) := by
  simp only [Label.val]
  go_enter Tryz.func160, Tryz.ntmps160
  go_wp2_with fail
  refine wp_region_gr_tail 10 (by kernel_rfl) (by kernel_rfl) ?_
  repeat (quiet_step ((go_at_call 169; exact cmp_call _ _ _)))
  refine wpQuiet_nil ?_
  intro g
  go_wp2_with (go_at_call 168; refine (Or_ok (cmpB a.key b.key) (cmpB a.value b.value) _ _ (by go_simp) (by go_simp)).mono ?_; rintro e w1 ⟨rfl, rfl⟩)
  go_ret
  exact ⟨rfl, b_alloc (b_gr (b_alloc (b_alloc (Below.refl _ _) _) _) _) _⟩
def byBothB (a b : Label) : Bool := decide (compareB a b < 0)
theorem byBoth_ok (a b : Label) (w : World) : Calls Tryz.prog 141 #[a.val, b.val] w (Gives (.bool (byBothB a b)) w) := by
  have H := hide (fun w => compare_ok a b w)
  simp only [Label.val] at *
  go_enter Tryz.func141, Tryz.ntmps141
  go_wp2_with (go_at_call 160; refine (H.out _).mono ?_; rintro e w1 ⟨rfl, hb⟩)
  go_ret
  exact ⟨rfl, b_then (b_alloc (b_alloc (Below.refl _ _) _) _) hb⟩

/-! ### check -/
def labelBad (value : ByteArray → Bool) (rise : Label → Label → Bool) (l : List Label) (i : Nat) : Bool :=
  match l[i]? with
  | none => false
  | some x => !nameB x.key || !value x.value || (decide (0 < i) && !rise (l.getD (i - 1) x) x)
def labelsBad (value : ByteArray → Bool) (rise : Label → Label → Bool) (l : List Label) : Bool := (List.range l.length).any (labelBad value rise l)
def checkL (value : ByteArray → Bool) (rise : Label → Label → Bool) (l : List Label) : Int := if labelsBad value rise l then 2 else arg (decide (l.length ≤ 6))
theorem range_any_hit {n k : Nat} {p : Nat → Bool} (hk : k < n) (h : p k = true) : (List.range n).any p = true := List.any_eq_true.2 ⟨k, List.mem_range.2 hk, h⟩
theorem range_any_none {n : Nat} {p : Nat → Bool} (h : ∀ k, k < n → p k = false) : (List.range n).any p = false := by
  rw [List.any_eq_false]
  intro k hk
  rw [h k (List.mem_range.1 hk)]
  exact Bool.false_ne_true

set_option maxHeartbeats 1000000 in
theorem check_ok (s : SL Label) (value : ByteArray → Bool) (rise : Label → Label → Bool) (g1 g2 : Nat)
    (eg1 : ∀ args w, (callFunc g1 args).run Tryz.prog w = .ok (.enter g1 args) w) (eg2 : ∀ args w, (callFunc g2 args).run Tryz.prog w = .ok (.enter g2 args) w)
    (h1 : ∀ x W, Calls Tryz.prog g1 #[.string x] W (Gives (.bool (value x)) W)) (h2 : ∀ a b W, Calls Tryz.prog g2 #[Label.val a, Label.val b] W (Gives (.bool (rise a b)) W))
    (w : World) (hs : Labels w s) :
    Calls Tryz.prog 136 #[s.val, .func (.func g1) #[] #[], .func (.func g2) #[] #[]] w (Gives (.int .i64 (checkL value rise s.l)) w) := by
  obtain ⟨a, c, l⟩ := s
  have hl : l.length ≤ 140737488351232 := hs.big
  have hc := hide hs.cell
  have H1 := hide h1
  have H2 := hide h2
  clear hs h1 h2
  simp only [SL.val]
  go_enter Tryz.func136, Tryz.ntmps136
  go_wp2_with fail
  go_loopg [11] l.length (fun gg s11 wr => ∃ kk : Nat, kk ≤ l.length ∧ l.length - kk ≤ gg ∧ s11 = .int .i64 kk ∧ Hid (∃ G : Grw w, wr = gr w G) ∧ Hid (∀ j, j < kk → labelBad value rise l j = false))
  case atStart => exact ⟨0, Nat.zero_le _, by omega, rfl, to_gr (Below.refl _ w), fun j hj => absurd hj (Nat.not_lt_zero _)⟩
  case round =>
    obtain ⟨kk, hkk, hg, rfl, ⟨G, rfl⟩, A⟩ := hrel
    by_cases hlt : kk < l.length
    · have hx : l[kk]? = some l[kk] := List.getElem?_eq_getElem hlt
      obtain ⟨b, off, rfl, hb, hcell⟩ := hc.out kk l[kk] hx
      have ib : LtB b w.heap.size := ⟨hb⟩
      clear hb
      generalize l[kk] = x at hx hcell
      have c0 : w.cell? ⟨b, off + kk * 2, none⟩ = some _ := hcell 0 _ rfl
      have c1 := hcell 1 _ rfl
      clear hcell
      have Bd : labelBad value rise l kk = (!nameB x.key || !value x.value || (decide (0 < kk) && !rise (l.getD (kk - 1) x) x)) := by unfold labelBad; rw [hx]
      have HBd := hide Bd
      clear Bd hx
      have HN := hide (fun W => name_ok x.key W)
      have HV := hide (fun W => H1.out x.value W)
      cases hn : nameB x.key with
      | false =>
        rw [hn] at HN
        have Hn := hide hn
        clear hn
        go_wp2_with fail
        refine wp_region_gr (by kernel_rfl) (by kernel_rfl) ?_
        repeat (go_big_quiet_step ((first | (go_at_call 84; exact quiet_call (HN.out _)))))
        refine wpQuiet_nil ?_
        intro g
        go_wp2_with fail
        go_ret
        exact ⟨by rw [checkL, labelsBad, if_pos (range_any_hit hlt (by rw [HBd.out, Hn.out]; rfl))]; rfl, b_gr (b_alloc (gr_below w G) _) _⟩
      | true =>
        rw [hn] at HN
        have Hn := hide hn
        clear hn
        cases hv : value x.value with
        | false =>
          rw [hv] at HV
          have Hv := hide hv
          clear hv
          go_wp2_with fail
          refine wp_region_gr (by kernel_rfl) (by kernel_rfl) ?_
          repeat (go_big_quiet_step ((first | (go_at_call 84; exact quiet_call (HN.out _)) | (go_at_fn g1; exact quiet_call (HV.out _)))))
          refine wpQuiet_nil ?_
          intro g
          go_wp2_with fail
          go_ret
          exact ⟨by rw [checkL, labelsBad, if_pos (range_any_hit hlt (by rw [HBd.out, Hn.out, Hv.out]; rfl))]; rfl, b_gr (b_alloc (gr_below w G) _) _⟩
        | true =>
          rw [hv] at HV
          have Hv := hide hv
          clear hv
          by_cases hk : 0 < kk
          · obtain ⟨j, rfl⟩ : ∃ j, kk = j + 1 := ⟨kk - 1, by omega⟩
            obtain ⟨y, hy⟩ : ∃ y, l[j]? = some y := ⟨_, List.getElem?_eq_getElem (by omega)⟩
            obtain ⟨b', off', he, _, hcell'⟩ := hc.out j y hy
            injection he with he
            injection he with he1 he2
            subst he1 he2
            have d0 : w.cell? ⟨b, off + j * 2, none⟩ = some _ := hcell' 0 _ rfl
            have d1 := hcell' 1 _ rfl
            clear hcell'
            have hgd : l.getD (j + 1 - 1) x = y := by rw [List.getD_eq_getElem?_getD, Nat.add_sub_cancel, hy]; rfl
            rw [hgd] at HBd
            have HR := hide (fun W => H2.out y x W)
            clear hgd hy
            have hk1 : decide (((j : Int) + 1) > 0) = true := by simp
            cases hr : rise y x with
            | false =>
              rw [hr] at HR
              have Hr := hide hr
              clear hr
              go_wp2_with fail
              refine wp_region_gr (by kernel_rfl) (by kernel_rfl) ?_
              repeat (go_big_quiet_step ((first | (go_at_call 84; exact quiet_call (HN.out _)) | (go_at_fn g1; exact quiet_call (HV.out _)) | (go_at_fn g2; exact quiet_call (HR.out _)))))
              refine wpQuiet_nil ?_
              intro g
              go_wp2_with fail
              go_ret
              exact ⟨by rw [checkL, labelsBad, if_pos (range_any_hit hlt (by rw [HBd.out, Hn.out, Hv.out, Hr.out]; simp [hk]))]; rfl, b_gr (b_alloc (gr_below w G) _) _⟩
            | true =>
              rw [hr] at HR
              have Hr := hide hr
              clear hr
              go_wp2_with fail
              refine wp_region_gr (by kernel_rfl) (by kernel_rfl) ?_
              repeat (go_big_quiet_step ((first | (go_at_call 84; exact quiet_call (HN.out _)) | (go_at_fn g1; exact quiet_call (HV.out _)) | (go_at_fn g2; exact quiet_call (HR.out _)))))
              refine wpQuiet_nil ?_
              intro g
              go_wp2_with fail
              go_roundg (l.length - (j + 1 + 1))
              case measure => omega
              case rel => exact ⟨j + 1 + 1, by omega, by omega, by go_num, to_gr (b_gr (b_alloc (gr_below w G) _) _), lt_succ_all A.out (by rw [HBd.out, Hn.out, Hv.out, Hr.out]; simp)⟩
          · have hk1 : decide ((kk : Int) > 0) = false := by simp; omega
            go_wp2_with fail
            refine wp_region_gr (by kernel_rfl) (by kernel_rfl) ?_
            repeat (go_big_quiet_step ((first | (go_at_call 84; exact quiet_call (HN.out _)) | (go_at_fn g1; exact quiet_call (HV.out _)))))
            refine wpQuiet_nil ?_
            intro g
            go_wp2_with fail
            go_roundg (l.length - (kk + 1))
            case measure => omega
            case rel => exact ⟨kk + 1, by omega, by omega, by go_num, to_gr (b_gr (b_alloc (gr_below w G) _) _), lt_succ_all A.out (by rw [HBd.out, Hn.out, Hv.out]; simp [hk])⟩
    · have A' := hide (range_any_none (n := l.length) (p := labelBad value rise l) (fun k h => A.out k (by omega)))
      clear A
      go_wp2_with (go_at_call 139; refine (arg_ok _ _).mono ?_; rintro e w1 ⟨rfl, rfl⟩)
      go_ret
      exact ⟨by rw [checkL, labelsBad, A'.out, ← dle6]; rfl, gr_below w G⟩

def labelCheck (l : List Label) : Int := checkL valueB byKeyB l
def bearsCheck (l : List Label) : Int := checkL starB byBothB l
theorem labelCheck_ok (s : SL Label) (w : World) (hs : Labels w s) : Calls Tryz.prog 96 #[s.val] w (Gives (.int .i64 (labelCheck s.l)) w) := by
  have H := hide (check_ok s valueB byKeyB _ _ (enters_of Tryz.func133 (by kernel_rfl) rfl) (enters_of Tryz.func137 (by kernel_rfl) rfl) value_ok byKey_ok w hs)
  obtain ⟨a, c, l⟩ := s
  clear hs
  simp only [SL.val] at *
  go_enter Tryz.func96, Tryz.ntmps96
  go_wp2_with (go_at_call 136; refine H.out.mono ?_; rintro e w1 ⟨rfl, hb⟩)
  go_ret
  exact ⟨rfl, hb⟩
theorem bearsCheck_ok (s : SL Label) (w : World) (hs : Labels w s) : Calls Tryz.prog 102 #[s.val] w (Gives (.int .i64 (bearsCheck s.l)) w) := by
  have H := hide (check_ok s starB byBothB _ _ (enters_of Tryz.func140 (by kernel_rfl) rfl) (enters_of Tryz.func141 (by kernel_rfl) rfl) star_ok byBoth_ok w hs)
  obtain ⟨a, c, l⟩ := s
  clear hs
  simp only [SL.val] at *
  go_enter Tryz.func102, Tryz.ntmps102
  go_wp2_with (go_at_call 136; refine H.out.mono ?_; rintro e w1 ⟨rfl, hb⟩)
  go_ret
  exact ⟨rfl, hb⟩
end Go.Proofs.YtnjjdilmaepokaaGreat
namespace Go.Proofs.YtnjjdilmaepokaaGreat
open Go.RowKit
theorem any_hit {α : Type} {l : List α} {k : Nat} {x : α} {p : α → Bool} (hx : l[k]? = some x) (hp : p x = true) : l.any p = true := List.any_eq_true.2 ⟨x, List.mem_of_getElem? hx, hp⟩
theorem any_none {α : Type} {l : List α} {p : α → Bool} (h : ∀ (j : Nat) (y : α), j < l.length → l[j]? = some y → p y = false) : l.any p = false := by
  rw [List.any_eq_false]
  intro x hx
  obtain ⟨j, hj⟩ := List.getElem?_of_mem hx
  rw [h j x (List.getElem?_eq_some_iff.1 hj).1 hj]
  exact Bool.false_ne_true
theorem el_succ {α : Type} {l : List α} {k : Nat} {x : α} {p : α → Bool} (h : ∀ (j : Nat) (y : α), j < k → l[j]? = some y → p y = false) (hx : l[k]? = some x) (hp : p x = false) : ∀ (j : Nat) (y : α), j < k + 1 → l[j]? = some y → p y = false := fun j y hj hy => by
  rcases Nat.lt_or_ge j k with h' | h'
  · exact h j y h' hy
  · obtain rfl : j = k := by omega
    have := hx.symm.trans hy
    injection this with this
    subst this
    exact hp

def termBad (t : Term) : Bool := decide (t.kind < 1) || decide (t.kind > 4) || !nameB t.key || (valued t.kind != valueB t.value) || (!valued t.kind && !emp t.value)
def termsCheck (l : List Term) : Int := if l.any termBad then 2 else arg (decide (l.length ≤ 6))
set_option maxHeartbeats 1000000 in
theorem termsCheck_ok (s : SL Term) (w : World) (hs : Terms w s) : Calls Tryz.prog 101 #[s.val] w (Gives (.int .i64 (termsCheck s.l)) w) := by
  obtain ⟨a, c, l⟩ := s
  have hl : l.length ≤ 140737488351232 := hs.big
  have hc := hide hs.cell
  clear hs
  simp only [SL.val]
  go_enter Tryz.func101, Tryz.ntmps101
  go_wp2_with fail
  go_loopg [7] l.length (fun gg s_ wr => ∃ kk : Nat, kk ≤ l.length ∧ l.length - kk ≤ gg ∧ s_ = .int .i64 kk ∧ Hid (∃ G : Grw w, wr = gr w G) ∧ Hid (∀ j y, j < kk → l[j]? = some y → termBad y = false))
  case atStart => exact ⟨0, Nat.zero_le _, by omega, rfl, to_gr (Below.refl _ w), fun j y hj => absurd hj (Nat.not_lt_zero _)⟩
  case round =>
    obtain ⟨kk, hkk, hg, rfl, ⟨G, rfl⟩, A⟩ := hrel
    by_cases hlt : kk < l.length
    · have hx : l[kk]? = some l[kk] := List.getElem?_eq_getElem hlt
      obtain ⟨b, off, rfl, hb, hcell⟩ := hc.out kk l[kk] hx
      have ib : LtB b w.heap.size := ⟨hb⟩
      have hm := hide (List.getElem_mem hlt)
      generalize l[kk] = x at hx hcell hm
      have c0 : w.cell? ⟨b, off + kk * 3, none⟩ = some _ := hcell 0 _ rfl
      have c1 := hcell 1 _ rfl
      have c2 := hcell 2 _ rfl
      have Hx := hide hx
      clear hcell hx hb
      have HN := hide (fun W => name_ok x.key W)
      have HV := hide (fun W => value_ok x.value W)
      have HD := hide (fun W => valued_ok x.kind W)
      by_cases h1 : x.kind < 1
      · have e1 := decide_eq_true h1
        go_wp2_with fail
        refine wp_region_gr (by kernel_rfl) (by kernel_rfl) ?_
        repeat (go_big_quiet_step ((first | fail)))
        refine wpQuiet_nil ?_
        intro g
        go_wp2_with fail
        go_ret
        exact ⟨by rw [termsCheck, if_pos (any_hit Hx.out (by simp [termBad, h1]))]; rfl, b_gr (b_alloc (gr_below w G) _) _⟩
      have e1 := decide_eq_false h1
      by_cases h2 : x.kind > 4
      · have e2 := decide_eq_true h2
        go_wp2_with fail
        refine wp_region_gr (by kernel_rfl) (by kernel_rfl) ?_
        repeat (go_big_quiet_step ((first | fail)))
        refine wpQuiet_nil ?_
        intro g
        go_wp2_with fail
        go_ret
        exact ⟨by rw [termsCheck, if_pos (any_hit Hx.out (by simp [termBad, h2]))]; rfl, b_gr (b_alloc (gr_below w G) _) _⟩
      have e2 := decide_eq_false h2
      cases hn : nameB x.key with
      | false =>
        rw [hn] at HN
        have Hn := hide hn
        clear hn
        go_wp2_with fail
        refine wp_region_gr (by kernel_rfl) (by kernel_rfl) ?_
        repeat (go_big_quiet_step ((first | (go_at_call 84; exact quiet_call (HN.out _)))))
        refine wpQuiet_nil ?_
        intro g
        go_wp2_with fail
        go_ret
        exact ⟨by rw [termsCheck, if_pos (any_hit Hx.out (by simp [termBad, Hn.out]))]; rfl, b_gr (b_alloc (gr_below w G) _) _⟩
      | true =>
        rw [hn] at HN
        have Hn := hide hn
        clear hn
        cases hd : valued x.kind <;> cases hv : valueB x.value
        all_goals
          rw [hd] at HD
          rw [hv] at HV
          have Hd := hide hd
          have Hv := hide hv
          clear hd hv
        · cases he : emp x.value with
          | false =>
            have h3 : ¬ x.value.toList = [] := emp_false he
            have h4 : x.value.toList.isEmpty = false := (emp_w _).trans he
            have He := hide he
            clear he
            go_wp2_with fail
            refine wp_region_gr (by kernel_rfl) (by kernel_rfl) ?_
            repeat (go_big_quiet_step ((first | (go_at_call 84; exact quiet_call (HN.out _)) | (go_at_call 138; exact quiet_same (HD.out _)) | (go_at_call 133; exact quiet_call (HV.out _)))))
            refine wpQuiet_nil ?_
            intro g
            go_wp2_with fail
            go_ret
            exact ⟨by rw [termsCheck, if_pos (any_hit Hx.out (by simp [termBad, Hd.out, He.out]))]; rfl, b_gr (b_alloc (gr_below w G) _) _⟩
          | true =>
            have h3 : x.value.toList = [] := emp_true he
            have h4 : x.value.toList.isEmpty = true := (emp_w _).trans he
            have He := hide he
            clear he
            go_wp2_with fail
            refine wp_region_gr (by kernel_rfl) (by kernel_rfl) ?_
            repeat (go_big_quiet_step ((first | (go_at_call 84; exact quiet_call (HN.out _)) | (go_at_call 138; exact quiet_same (HD.out _)) | (go_at_call 133; exact quiet_call (HV.out _)))))
            refine wpQuiet_nil ?_
            intro g
            go_wp2_with fail
            go_roundg (l.length - (kk + 1))
            case measure => omega
            case rel => exact ⟨kk + 1, by omega, by omega, by go_num, to_gr (b_gr (b_alloc (gr_below w G) _) _), el_succ A.out Hx.out (by simp [termBad, h1, h2, Hn.out, Hd.out, Hv.out, He.out])⟩
        · go_wp2_with fail
          refine wp_region_gr (by kernel_rfl) (by kernel_rfl) ?_
          repeat (go_big_quiet_step ((first | (go_at_call 84; exact quiet_call (HN.out _)) | (go_at_call 138; exact quiet_same (HD.out _)) | (go_at_call 133; exact quiet_call (HV.out _)))))
          refine wpQuiet_nil ?_
          intro g
          go_wp2_with fail
          go_ret
          exact ⟨by rw [termsCheck, if_pos (any_hit Hx.out (by simp [termBad, Hd.out, Hv.out]))]; rfl, b_gr (b_alloc (gr_below w G) _) _⟩
        · go_wp2_with fail
          refine wp_region_gr (by kernel_rfl) (by kernel_rfl) ?_
          repeat (go_big_quiet_step ((first | (go_at_call 84; exact quiet_call (HN.out _)) | (go_at_call 138; exact quiet_same (HD.out _)) | (go_at_call 133; exact quiet_call (HV.out _)))))
          refine wpQuiet_nil ?_
          intro g
          go_wp2_with fail
          go_ret
          exact ⟨by rw [termsCheck, if_pos (any_hit Hx.out (by simp [termBad, Hd.out, Hv.out]))]; rfl, b_gr (b_alloc (gr_below w G) _) _⟩
        · go_wp2_with fail
          refine wp_region_gr (by kernel_rfl) (by kernel_rfl) ?_
          repeat (go_big_quiet_step ((first | (go_at_call 84; exact quiet_call (HN.out _)) | (go_at_call 138; exact quiet_same (HD.out _)) | (go_at_call 133; exact quiet_call (HV.out _)))))
          refine wpQuiet_nil ?_
          intro g
          go_wp2_with fail
          go_roundg (l.length - (kk + 1))
          case measure => omega
          case rel => exact ⟨kk + 1, by omega, by omega, by go_num, to_gr (b_gr (b_alloc (gr_below w G) _) _), el_succ A.out Hx.out (by simp [termBad, h1, h2, Hn.out, Hd.out, Hv.out])⟩
    · have A' := hide (any_none (l := l) (p := termBad) (fun j y _ hy => A.out j y (by omega) hy))
      clear A
      go_wp2_with (go_at_call 139; refine (arg_ok _ _).mono ?_; rintro e w1 ⟨rfl, rfl⟩)
      go_ret
      exact ⟨by rw [termsCheck, A'.out, ← dle6]; rfl, gr_below w G⟩

/-! ### Get, Holds, Bears -/
def getIdx (l : List Label) (key : ByteArray) : Int := idxOf (fun x => seq x.key key) l
def getL : List Label → ByteArray → Option ByteArray
  | [], _ => none
  | x :: l, key => if seq x.key key then some x.value else getL l key
theorem get1_ok (x : Label) (key : ByteArray) (k : Nat) (w : World) [LtB k w.heap.size] (hk : w.cell? ⟨k, 0, none⟩ = some (.string key)) : Calls Tryz.prog 162 #[x.val, .pointer (some ⟨k, 0, none⟩)] w (Gives (.bool (seq x.key key)) w) := by
  simp only [Label.val]
  go_enter Tryz.func162, Tryz.ntmps162
  go_wp2
  go_ret
  exact ⟨by rw [← seq_w]; rfl, b_alloc (Below.refl _ _) _⟩
theorem getIdx_none {l : List Label} {key : ByteArray} (h : getIdx l key < 0) : getL l key = none := by
  induction l with
  | nil => rfl
  | cons x l ih =>
    unfold getIdx at *
    simp only [idxOf, getL] at *
    split at h
    · omega
    · rename_i hx
      rw [if_neg hx]
      apply ih
      split at h <;> omega
theorem getIdx_some {l : List Label} {key : ByteArray} (h : ¬ getIdx l key < 0) : ∃ (k : Nat) (x : Label), getIdx l key = k ∧ l[k]? = some x ∧ getL l key = some x.value := by
  induction l with
  | nil => exact absurd (show (-1 : Int) < 0 by decide) h
  | cons x l ih =>
    unfold getIdx at *
    simp only [idxOf, getL] at *
    by_cases hx : seq x.key key = true
    · exact ⟨0, x, by simp [hx], rfl, by simp [hx]⟩
    · rw [if_neg hx] at h ⊢
      rw [if_neg hx]
      by_cases h' : idxOf (fun x => seq x.key key) l < 0
      · rw [if_pos h'] at h; omega
      · obtain ⟨k, y, hk, hy, hg⟩ := ih h'
        exact ⟨k + 1, y, by rw [if_neg h', hk]; rfl, by simpa using hy, hg⟩
def getVal (o : Option ByteArray) : Value := .tuple #[.string (o.getD ⟨#[]⟩), .bool o.isSome]
set_option maxHeartbeats 400000 in
theorem get_ok (s : SL Label) (key : ByteArray) (w : World) (hs : Labels w s) : Calls Tryz.prog 145 #[s.val, .string key] w (Gives (getVal (getL s.l key)) w) := by
  have HI := hide (IndexFunc_Label s (fun x => seq x.key key) 162 #[.pointer (some ⟨w.heap.size, 0, none⟩)] (enters_of Tryz.func162 (by kernel_rfl) rfl) (w.alloc (.cells #[.string key] 9)) (hs.below (b_alloc (Below.refl _ _) _)) (fun G x _ => get1_ok x key w.heap.size _ (by go_simp)))
  change Hid (Calls _ _ _ _ (Gives (.int .i64 (getIdx s.l key)) _)) at HI
  have hr := idxOf_range (fun x => seq x.key key) s.l
  change -1 ≤ getIdx s.l key ∧ getIdx s.l key < s.l.length at hr
  obtain ⟨a, c, l⟩ := s
  have hl : l.length ≤ 140737488351232 := hs.big
  have hc := hide hs.cell
  clear hs
  simp only [SL.val] at *
  by_cases h : getIdx l key < 0
  · have hn := hide (getIdx_none h)
    go_enter Tryz.func145, Tryz.ntmps145
    go_wp2_with (go_at_call 154; refine HI.out.mono ?_; rintro e w1 ⟨rfl, hb⟩)
    go_ret2
    exact ⟨by rw [hn.out]; rfl, b_then (b_alloc (Below.refl _ _) _) hb⟩
  · obtain ⟨k, x, hk, hx, hg⟩ := getIdx_some h
    rw [hk] at HI
    obtain ⟨b, off, rfl, hb0, hcell⟩ := hc.out k x hx
    have ib : LtB b w.heap.size := ⟨hb0⟩
    have c1 := hcell 1 _ rfl
    have hkl : k < l.length := (List.getElem?_eq_some_iff.1 hx).1
    have Hg := hide hg
    clear hb0 hcell hk hg hx h hr
    go_enter Tryz.func145, Tryz.ntmps145
    go_wp2_with (go_at_call 154; refine (calls_gr HI.out).mono ?_; rintro e w1 ⟨rfl, g, rfl⟩)
    go_ret2
    exact ⟨by rw [Hg.out]; rfl, b_gr (b_alloc (Below.refl _ _) _) _⟩

def termHolds (l : List Label) (t : Term) : Bool :=
  let o := getL l t.key
  let holds := o.isSome && (!valued t.kind || seq (o.getD ⟨#[]⟩) t.value)
  let opposite := t.kind == 2 || (t.kind != 1 && t.kind != 3)
  !(holds == opposite)
def holdsB (ts : List Term) (l : List Label) : Bool := ts.all (termHolds l)
theorem termHolds_eq (l : List Label) (t : Term) {is vd q k2 k1 k3 : Bool} (h1 : (getL l t.key).isSome = is) (h2 : valued t.kind = vd) (h3 : seq ((getL l t.key).getD ⟨#[]⟩) t.value = q) (h4 : (t.kind == 2) = k2) (h5 : (t.kind != 1) = k1) (h6 : (t.kind != 3) = k3) :
    termHolds l t = !((is && (!vd || q)) == (k2 || (k1 && k3))) := by subst h1 h2 h3 h4 h5 h6; rfl
theorem all_any {α : Type} (p : α → Bool) (l : List α) : l.all p = !(l.any fun x => !p x) := by
  induction l with
  | nil => rfl
  | cons x l ih => simp [ih]
set_option maxHeartbeats 2000000 in
theorem holds_ok (ts : SL Term) (ls : SL Label) (w : World) (hs : Terms w ts) (hl' : Labels w ls) : Calls Tryz.prog 115 #[ts.val, ls.val] w (Gives (.bool (holdsB ts.l ls.l)) w) := by
  have HG := hide (fun (key : ByteArray) (G : Grw w) (o : Obj) => get_ok ls key ((gr w G).alloc o) (hl'.below (b_alloc (gr_below w G) _)))
  obtain ⟨a, c, l⟩ := ts
  have hl : l.length ≤ 140737488351232 := hs.big
  have hc := hide hs.cell
  clear hs hl'
  simp only [SL.val] at *
  go_enter Tryz.func115, Tryz.ntmps115
  go_wp2_with fail
  go_loopg [13] l.length (fun gg s_ wr => ∃ kk : Nat, kk ≤ l.length ∧ l.length - kk ≤ gg ∧ s_ = .int .i64 kk ∧ Hid (∃ G : Grw w, wr = gr w G) ∧ Hid (∀ j y, j < kk → l[j]? = some y → (fun t => !termHolds ls.l t) y = false))
  case atStart => exact ⟨0, Nat.zero_le _, by omega, rfl, to_gr (Below.refl _ w), fun j y hj => absurd hj (Nat.not_lt_zero _)⟩
  case round =>
    obtain ⟨kk, hkk, hg, rfl, ⟨G, rfl⟩, A⟩ := hrel
    by_cases hlt : kk < l.length
    · have hx : l[kk]? = some l[kk] := List.getElem?_eq_getElem hlt
      obtain ⟨b, off, rfl, hb, hcell⟩ := hc.out kk l[kk] hx
      have ib : LtB b w.heap.size := ⟨hb⟩
      have hm := hide (List.getElem_mem hlt)
      generalize l[kk] = x at hx hcell hm
      have c0 : w.cell? ⟨b, off + kk * 3, none⟩ = some _ := hcell 0 _ rfl
      have c1 := hcell 1 _ rfl
      have c2 := hcell 2 _ rfl
      have Hx := hide hx
      clear hcell hx hb
      have HG' := hide (HG.out x.key G (.cells #[.int .i64 x.kind, .string x.key, .string x.value] 38))
      clear HG
      have HD := hide (fun W => valued_ok x.kind W)
      unfold getVal at HG'
      have e1 : (((getL ls.l x.key).getD ⟨#[]⟩).toList == x.value.toList) = seq ((getL ls.l x.key).getD ⟨#[]⟩) x.value := seq_w _ _
      generalize h1 : (getL ls.l x.key).isSome = is at HG'
      generalize h3 : seq ((getL ls.l x.key).getD ⟨#[]⟩) x.value = q at e1
      generalize h2 : valued x.kind = vd at HD
      generalize h4 : (x.kind == 2) = k2
      generalize h5 : (x.kind != 1) = k1
      generalize h6 : (x.kind != 3) = k3
      have HT := hide (termHolds_eq ls.l x h1 h2 h3 h4 h5 h6)
      clear h1 h2 h3
      generalize (getL ls.l x.key).getD ⟨#[]⟩ = v at HG' e1
      have hI : (is = false) ∨ (is = true ∧ vd = false) ∨ (is = true ∧ vd = true ∧ q = false) ∨ (is = true ∧ vd = true ∧ q = true) := by cases is <;> cases vd <;> cases q <;> simp
      have hO : (k2 = true) ∨ (k2 = false ∧ k1 = false) ∨ (k2 = false ∧ k1 = true ∧ k3 = false) ∨ (k2 = false ∧ k1 = true ∧ k3 = true) := by cases k2 <;> cases k1 <;> cases k3 <;> simp
      rcases hI with rfl | ⟨rfl, rfl⟩ | ⟨rfl, rfl, rfl⟩ | ⟨rfl, rfl, rfl⟩ <;> rcases hO with rfl | ⟨rfl, rfl⟩ | ⟨rfl, rfl, rfl⟩ | ⟨rfl, rfl, rfl⟩
      all_goals
        go_wp2_with (first | (go_at_call 145; refine (calls_gr HG'.out).mono ?_; rintro e w1 ⟨rfl, g, rfl⟩) | (go_at_call 138; refine (HD.out _).mono ?_; rintro e w1 ⟨rfl, rfl⟩))
        first
        | (go_ret
           exact ⟨by rw [holdsB, all_any, any_hit Hx.out (by show (!termHolds ls.l x) = true; rw [HT.out]; simp)]; rfl, b_gr (b_alloc (gr_below w G) _) _⟩)
        | (go_roundg (l.length - (kk + 1)); (case measure => omega); (case rel => exact ⟨kk + 1, by omega, by omega, by go_num, to_gr (b_gr (b_alloc (gr_below w G) _) _), el_succ A.out Hx.out (by show (!termHolds ls.l x) = false; rw [HT.out]; simp)⟩))
    · have A' := hide (any_none (l := l) (p := fun t => !termHolds ls.l t) (fun j y _ hy => A.out j y (by omega) hy))
      clear A
      go_wp2_with fail
      go_ret
      exact ⟨by rw [holdsB, all_any, A'.out]; rfl, gr_below w G⟩

/-! ### Bears -/
def bearOne (t b : Label) : Bool := seq b.key t.key && (seq b.value t.value || (b.value.data.toList == [42]))
def bearsB (bears taints : List Label) : Bool := taints.all fun t => bears.any (bearOne t)
set_option maxHeartbeats 400000 in
theorem bears1_ok (x t : Label) (k : Nat) (w : World) [LtB k w.heap.size] (hk : w.cell? ⟨k, 0, none⟩ = some (.string t.key)) (hk1 : w.cell? ⟨k, 1, none⟩ = some (.string t.value)) : Calls Tryz.prog 147 #[x.val, .pointer (some ⟨k, 0, none⟩)] w (Gives (.bool (bearOne t x)) w) := by
  unfold bearOne
  rw [← toL x.value]
  have e1 : (x.key.toList == t.key.toList) = seq x.key t.key := seq_w _ _
  have e2 : (x.value.toList == t.value.toList) = seq x.value t.value := seq_w _ _
  simp only [Label.val]
  cases h1 : seq x.key t.key <;> cases h2 : seq x.value t.value <;> cases h3 : (x.value.toList == [42])
  all_goals
    rw [h1] at e1
    rw [h2] at e2
    go_enter Tryz.func147, Tryz.ntmps147
    go_wp2
    go_ret
    exact ⟨rfl, b_alloc (Below.refl _ _) _⟩
set_option maxHeartbeats 1000000 in
theorem bears_ok (bs ts : SL Label) (w : World) (hb' : Labels w bs) (hs : Labels w ts) : Calls Tryz.prog 119 #[bs.val, ts.val] w (Gives (.bool (bearsB bs.l ts.l)) w) := by
  have HB := hide (fun (t : Label) (G : Grw w) => ContainsFunc_Label bs (bearOne t) 147 #[.pointer (some ⟨(gr w G).heap.size, 0, none⟩)] (enters_of Tryz.func147 (by kernel_rfl) rfl) ((gr w G).alloc (.cells #[.string t.key, .string t.value] 29)) (hb'.below (b_alloc (gr_below w G) _)) (fun G' x _ => bears1_ok x t (gr w G).heap.size _ (by go_simp) (by go_simp)))
  obtain ⟨a, c, l⟩ := ts
  have hl : l.length ≤ 140737488351232 := hs.big
  have hc := hide hs.cell
  clear hs hb'
  simp only [SL.val] at *
  go_enter Tryz.func119, Tryz.ntmps119
  go_wp2_with fail
  go_loopg [9] l.length (fun gg s_ wr => ∃ kk : Nat, kk ≤ l.length ∧ l.length - kk ≤ gg ∧ s_ = .int .i64 kk ∧ Hid (∃ G : Grw w, wr = gr w G) ∧ Hid (∀ j y, j < kk → l[j]? = some y → (fun t => !bs.l.any (bearOne t)) y = false))
  case atStart => exact ⟨0, Nat.zero_le _, by omega, rfl, to_gr (Below.refl _ w), fun j y hj => absurd hj (Nat.not_lt_zero _)⟩
  case round =>
    obtain ⟨kk, hkk, hg, rfl, ⟨G, rfl⟩, A⟩ := hrel
    by_cases hlt : kk < l.length
    · have hx : l[kk]? = some l[kk] := List.getElem?_eq_getElem hlt
      obtain ⟨b, off, rfl, hb, hcell⟩ := hc.out kk l[kk] hx
      have ib : LtB b w.heap.size := ⟨hb⟩
      have hm := hide (List.getElem_mem hlt)
      generalize l[kk] = x at hx hcell hm
      have c0 : w.cell? ⟨b, off + kk * 2, none⟩ = some _ := hcell 0 _ rfl
      have c1 := hcell 1 _ rfl
      have Hx := hide hx
      clear hcell hx hb
      have HB' := hide (HB.out x G)
      clear HB
      cases hq : bs.l.any (bearOne x)
      all_goals
        rw [hq] at HB'
        have Hq := hide hq
        clear hq
        go_wp2_with (go_at_call 146; refine (calls_gr HB'.out).mono ?_; rintro e w1 ⟨rfl, g, rfl⟩)
      · go_ret
        exact ⟨by rw [bearsB, all_any, any_hit Hx.out (by rw [Hq.out]; rfl)]; rfl, b_gr (b_alloc (gr_below w G) _) _⟩
      · go_roundg (l.length - (kk + 1))
        case measure => omega
        case rel => exact ⟨kk + 1, by omega, by omega, by go_num, to_gr (b_gr (b_alloc (gr_below w G) _) _), el_succ A.out Hx.out (by rw [Hq.out]; rfl)⟩
    · have A' := hide (any_none (l := l) (p := fun t => !bs.l.any (bearOne t)) (fun j y _ hy => A.out j y (by omega) hy))
      clear A
      go_wp2_with fail
      go_ret
      exact ⟨by rw [bearsB, all_any, A'.out]; rfl, gr_below w G⟩
end Go.Proofs.YtnjjdilmaepokaaGreat
namespace Go.Proofs.YtnjjdilmaepokaaGreat
open Go.RowKit
def maxQty : Int := 1099511627776
theorem below_ok (n : Int) (w : World) : Calls Tryz.prog 161 #[.int .i64 n] w (Gives (.bool (decide (n < 0))) w) := by
  go_enter Tryz.func161, Tryz.ntmps161
  go_wp2
  go_ret
  exact ⟨rfl, Below.refl _ _⟩
theorem above_ok (n : Int) (w : World) : Calls Tryz.prog 143 #[.int .i64 n] w fun e w' => e = .returned (.bool (decide (n > maxQty))) ∧ w = w' := by
  unfold maxQty
  go_enter Tryz.func143, Tryz.ntmps143
  go_wp2
  go_ret
  exact ⟨rfl, rfl⟩
def checkedL (xs : List Int) : Int := if xs.any (fun n => decide (n < 0)) then 2 else if xs.any (fun n => decide (n > maxQty)) then 10 else 0
set_option maxHeartbeats 400000 in
theorem checked_ok (s : SL Int) (w : World) (hs : Ints w s) : Calls Tryz.prog 142 #[s.val] w (Gives (.int .i64 (checkedL s.l)) w) := by
  have H1 := hide (ContainsFunc_Ints s (fun n => decide (n < 0)) 161 #[] (enters_of Tryz.func161 (by kernel_rfl) rfl) w hs (fun G x _ => below_ok x _))
  have H2 := hide (fun g : Grw w => ContainsFunc_Ints s (fun n => decide (n > maxQty)) 143 #[] (enters_of Tryz.func143 (by kernel_rfl) rfl) (gr w g) (hs.below (gr_below w g)) (fun G x _ => (above_ok x _).mono fun _ _ h => Gives.of_same h))
  unfold checkedL
  obtain ⟨a, c, l⟩ := s
  clear hs
  simp only [SL.val] at *
  generalize h1 : l.any (fun n => decide (n < 0)) = b1 at *
  generalize h2 : l.any (fun n => decide (n > maxQty)) = b2 at *
  clear h1 h2
  cases b1
  · cases b2
    all_goals
      go_enter Tryz.func142, Tryz.ntmps142
      go_wp2_with fail
      refine (calls_gr H1.out).mono ?_
      rintro e w1 ⟨rfl, g, rfl⟩
      go_wp2_with fail
      refine (calls_gr (H2.out g)).mono ?_
      rintro e w1 ⟨rfl, g', rfl⟩
      go_wp2_with fail
      go_ret
      exact ⟨rfl, b_gr (gr_below w _) _⟩
  · go_enter Tryz.func142, Tryz.ntmps142
    go_wp2_with fail
    refine (calls_gr H1.out).mono ?_
    rintro e w1 ⟨rfl, g, rfl⟩
    go_wp2_with fail
    go_ret
    exact ⟨rfl, gr_below w _⟩
def addFrom (n : Int) : List Int → Int × Int
  | [] => (n, 0)
  | x :: l => if n + x > maxQty then (0, 10) else addFrom (n + x) l
def addL (xs : List Int) : Int × Int := if checkedL xs = 0 then addFrom 0 xs else (0, checkedL xs)
def pairI (p : Int × Int) : Value := .tuple #[.int .i64 p.1, .int .i64 p.2]
theorem checkedL_zero {xs : List Int} (h : checkedL xs = 0) : ∀ x ∈ xs, 0 ≤ x ∧ x ≤ maxQty := by
  unfold checkedL at h
  split at h
  · cases h
  · rename_i h1
    split at h
    · cases h
    · rename_i h2
      intro x hx
      simp only [List.any_eq_true, decide_eq_true_eq, not_exists, not_and] at h1 h2
      have := h1 x hx
      have := h2 x hx
      omega
/-- The sum of the first k, if none went too far. -/
def sumOf (l : List Int) (k : Nat) : Int := (l.take k).sum
theorem sumOf_succ {l : List Int} {k : Nat} {x : Int} (h : l[k]? = some x) : sumOf l (k + 1) = sumOf l k + x := by
  unfold sumOf
  rw [List.take_add_one, h]
  simp
theorem addFrom_hit (l : List Int) (n : Int) (k : Nat) (x : Int) (hx : l[k]? = some x) (hno : ∀ j y, j < k → l[j]? = some y → ¬ n + sumOf l (j + 1) > maxQty) (hk : n + sumOf l (k + 1) > maxQty) : addFrom n l = (0, 10) := by
  induction l generalizing n k with
  | nil => simp at hx
  | cons y l ih =>
    simp only [addFrom]
    by_cases h : n + y > maxQty
    · rw [if_pos h]
    · rw [if_neg h]
      cases k with
      | zero => exact absurd hk (by simpa [sumOf] using h)
      | succ k =>
        refine ih (n + y) k (by simpa using hx) (fun j z hj hz => ?_) ?_
        · have := hno (j + 1) z (by omega) (by simpa using hz)
          simp only [sumOf, List.take_succ_cons, List.sum_cons] at this ⊢
          omega
        · simp only [sumOf, List.take_succ_cons, List.sum_cons] at hk ⊢
          omega
theorem addFrom_none (l : List Int) (n : Int) (hno : ∀ j y, l[j]? = some y → ¬ n + sumOf l (j + 1) > maxQty) : addFrom n l = (n + l.sum, 0) := by
  induction l generalizing n with
  | nil => simp [addFrom]
  | cons y l ih =>
    simp only [addFrom]
    have h0 := hno 0 y rfl
    rw [if_neg (by simpa [sumOf] using h0), ih (n + y) (fun j z hz => ?_)]
    · simp [Int.add_assoc]
    · have := hno (j + 1) z (by simpa using hz)
      simp only [sumOf, List.take_succ_cons, List.sum_cons] at this ⊢
      omega
set_option maxHeartbeats 1000000 in
theorem add_ok (s : SL Int) (w : World) (hs : Ints w s) : Calls Tryz.prog 106 #[s.val] w (Gives (pairI (addL s.l)) w) := by
  have HK := hide (checked_ok s w hs)
  obtain ⟨a, c, l⟩ := s
  have hl : l.length ≤ 140737488351232 := hs.big
  have hc := hide hs.cell
  clear hs
  simp only [SL.val] at *
  unfold addL
  by_cases h0 : checkedL l = 0
  · have hb := hide (checkedL_zero h0)
    rw [if_pos h0]
    rw [h0] at HK
    clear h0
    go_enter Tryz.func106, Tryz.ntmps106
    go_wp2_with (go_at_call 142; refine (calls_gr HK.out).mono ?_; rintro e w1 ⟨rfl, g0, rfl⟩)
    go_loopg [2, 14] l.length (fun gg s2 s14 wr => ∃ (kk : Nat) (n : Int), kk ≤ l.length ∧ l.length - kk ≤ gg ∧ s14 = .int .i64 kk ∧ s2 = .int .i64 n ∧ 0 ≤ n ∧ n ≤ 1099511627776 ∧ Hid (n = sumOf l kk) ∧ wr = gr w g0 ∧ Hid (∀ j y, j < kk → l[j]? = some y → ¬ 0 + sumOf l (j + 1) > maxQty))
    case atStart => exact ⟨0, 0, Nat.zero_le _, by omega, rfl, rfl, by omega, by omega, by simp [sumOf, Hid], rfl, fun j y hj => absurd hj (Nat.not_lt_zero _)⟩
    case round =>
      obtain ⟨kk, n, hkk, hg, rfl, rfl, hn0, hn1, HS, rfl, A⟩ := hrel
      by_cases hlt : kk < l.length
      · have hx : l[kk]? = some l[kk] := List.getElem?_eq_getElem hlt
        obtain ⟨b, off, rfl, hb0, hcell⟩ := hc.out kk l[kk] hx
        have ib : LtB b w.heap.size := ⟨hb0⟩
        have hm := hb.out l[kk] (List.getElem_mem hlt)
        unfold maxQty at hm
        generalize l[kk] = x at hx hcell hm
        have c0 : w.cell? ⟨b, off + kk, none⟩ = some (.int .i64 x) := by have h := hcell 0 _ rfl; simpa using h
        have Hx := hide hx
        obtain ⟨hx0, hx1⟩ := hm
        clear hcell hx hb0
        have HA := hide (fun W => above_ok (n + x) W)
        have hS1 : sumOf l (kk + 1) = n + x := by rw [sumOf_succ Hx.out, HS.out]
        have HS1 := hide hS1
        clear hS1
        by_cases ha : n + x > maxQty
        · have HR := hide (addFrom_hit l 0 kk x Hx.out A.out (by rw [HS1.out]; omega))
          rw [decide_eq_true ha] at HA
          clear ha
          go_wp2_with (go_at_call 143; refine (HA.out _).mono ?_; rintro e w1 ⟨rfl, rfl⟩)
          go_ret2
          exact ⟨by rw [HR.out]; rfl, gr_below w g0⟩
        · rw [decide_eq_false ha] at HA
          have Ha := hide ha
          have ha' : n + x ≤ 1099511627776 := by unfold maxQty at ha; omega
          clear ha
          go_wp2_with (go_at_call 143; refine (HA.out _).mono ?_; rintro e w1 ⟨rfl, rfl⟩)
          go_roundg (l.length - (kk + 1))
          case measure => omega
          case rel =>
            refine ⟨kk + 1, n + x, by omega, by omega, by go_num, rfl, by omega, by omega, HS1.out.symm, rfl, ?_⟩
            intro j y hj hy
            rcases Nat.lt_or_ge j kk with h | h
            · exact A.out j y h hy
            · obtain rfl : j = kk := by omega
              rw [HS1.out]
              have := Ha.out
              omega
      · obtain rfl : kk = l.length := by omega
        have A' := A.out
        have HR := hide (addFrom_none l 0 (fun j y hy => A' j y ((List.getElem?_eq_some_iff.1 hy).1) hy))
        clear A' A
        have HS' : Hid (n = l.sum) := by have := HS.out; simpa [sumOf, Hid] using this
        clear HS
        go_wp2_with fail
        go_ret2
        exact ⟨by rw [HR.out, HS'.out]; simp [pairI], gr_below w g0⟩
  · rw [if_neg h0]
    have hb0 : (checkedL l != 0) = true := by simpa using h0
    clear h0
    go_enter Tryz.func106, Tryz.ntmps106
    go_wp2_with (go_at_call 142; refine (calls_gr HK.out).mono ?_; rintro e w1 ⟨rfl, g0, rfl⟩)
    go_ret2
    exact ⟨rfl, gr_below w g0⟩
end Go.Proofs.YtnjjdilmaepokaaGreat
namespace Go.Proofs.YtnjjdilmaepokaaGreat
open Go.RowKit
/-- Block g is just the cells cs of element type t, none frozen. -/
def Blk (w : World) (g : Nat) (t : TypeId) (cs : Array Value) : Prop := w.heap[g]? = some (.cells cs t (0, 0))
section
variable {w w' : World} {g : Nat} {t : TypeId} {cs : Array Value}
theorem Blk.lt (h : Blk w g t cs) : g < w.heap.size := by
  rcases Nat.lt_or_ge g w.heap.size with hlt | hge
  · exact hlt
  · unfold Blk at h; rw [Array.getElem?_eq_none hge] at h; cases h
theorem Blk.ltb (h : Blk w g t cs) : LtB g w.heap.size := ⟨h.lt⟩
theorem Blk.cell (h : Blk w g t cs) (i : Nat) : w.cell? ⟨g, i, none⟩ = cs[i]? := cell_of_row w g i cs t (0, 0) h
theorem Blk.frozen (h : Blk w g t cs) (i : Nat) : w.frozen? ⟨g, i, none⟩ = false := by
  unfold Blk at h
  simp [World.frozen?, h]
theorem Blk.new (w : World) (t : TypeId) (cs : Array Value) : Blk (w.alloc (.cells cs t)) w.heap.size t cs := heap_alloc_new w _
theorem Blk.at_ (w : World) (t : TypeId) (cs : Array Value) (n : Nat) (hn : n = w.heap.size) : Blk (w.alloc (.cells cs t)) n t cs := hn ▸ Blk.new w t cs
theorem Blk.drew (h : Blk w g t cs) : Blk w.drew g t cs := h
theorem Blk.drewN (h : Blk w g t cs) (n : Nat) : Blk (w.drewN n) g t cs := h
theorem Blk.alloc (h : Blk w g t cs) (o : Obj) : Blk (w.alloc o) g t cs := (Below.heap_alloc w o g h.lt).trans h
theorem Blk.set_ (h : Blk w g t cs) (i : Nat) (u : Value) : Blk (w.setCell ⟨g, i, none⟩ u) g t (cs.setIfInBounds i u) := by
  unfold Blk at h ⊢
  simp [World.setCell, Array.getElem?_modify, h]
theorem Blk.far (h : Blk w g t cs) {p : Addr} (hp : g ≠ p.block) (u : Value) : Blk (w.setCell p u) g t cs := (Below.heap_setCell w p u g hp).trans h
theorem Blk.below {B : Nat} (h : Blk w g t cs) (hb : Below B w w') (hg : g < B) : Blk w' g t cs := (hb.block g hg).trans h
theorem Blk.gr (h : Blk w g t cs) (G : Grw w) : Blk (gr w G) g t cs := (heap_gr G g h.lt).trans h
end
end Go.Proofs.YtnjjdilmaepokaaGreat
namespace Go.Proofs.YtnjjdilmaepokaaGreat
open Go.RowKit
theorem vec_cells {v : Vec} {B : Nat} {w : World} (h : Blk w B 32 #[.int .i64 v.a, .int .i64 v.b, .int .i64 v.c, .int .i64 v.d, .int .i64 v.e]) : ∀ j, j < v.l.length → w.cell? ⟨B, 0 + j, none⟩ = some (.int .i64 (v.l.getD j 0)) := by
  intro j hj
  rw [h.cell]
  unfold Vec.l at *
  match j, hj with
  | 0, _ => rfl
  | 1, _ => rfl
  | 2, _ => rfl
  | 3, _ => rfl
  | 4, _ => rfl
theorem vmax_ok {v : Vec} {B : Nat} {w : World} (h : Blk w B 32 #[.int .i64 v.a, .int .i64 v.b, .int .i64 v.c, .int .i64 v.d, .int .i64 v.e]) : Calls Tryz.prog 80 #[.slice (some ⟨B, 0, none⟩) 5 5] w (Gives (.int .i64 (Lib.maxOf v.l)) w) :=
  (Tryz.slices_Max_int B 0 5 5 v.l w (by omega) (by simp [Vec.l]) (by omega) (vec_cells h)).mono fun _ _ ⟨he, hw⟩ => ⟨by rw [he, List.take_of_length_le (by simp [Vec.l])], hw ▸ Below.refl _ _⟩
theorem vmin_ok {v : Vec} {B : Nat} {w : World} (h : Blk w B 32 #[.int .i64 v.a, .int .i64 v.b, .int .i64 v.c, .int .i64 v.d, .int .i64 v.e]) : Calls Tryz.prog 81 #[.slice (some ⟨B, 0, none⟩) 5 5] w (Gives (.int .i64 (Lib.minOf v.l)) w) :=
  (Tryz.slices_Min_int B 0 5 5 v.l w (by omega) (by simp [Vec.l]) (by omega) (vec_cells h)).mono fun _ _ ⟨he, hw⟩ => ⟨by rw [he, List.take_of_length_le (by simp [Vec.l])], hw ▸ Below.refl _ _⟩
def vecCheck (v : Vec) : Int := if Lib.minOf v.l < 0 then 2 else if Lib.maxOf v.l > maxQty then 10 else 0
set_option maxHeartbeats 400000 in
theorem vecCheck_ok (v : Vec) (w : World) : Calls Tryz.prog 95 #[v.val] w (Gives (.int .i64 (vecCheck v)) w) := by
  unfold vecCheck maxQty
  have HB := hide (Blk.new w 32 #[.int .i64 v.a, .int .i64 v.b, .int .i64 v.c, .int .i64 v.d, .int .i64 v.e])
  have HX := hide (fun g => vmax_ok (HB.out.gr g))
  have HM := hide (fun g => vmin_ok (HB.out.gr g))
  clear HB
  generalize Lib.maxOf v.l = mx at *
  generalize Lib.minOf v.l = mn at *
  simp only [Vec.val]
  by_cases h1 : mn < 0
  · rw [if_pos h1]
    have e1 := decide_eq_true h1
    go_enter Tryz.func95, Tryz.ntmps95
    go_wp2_with fail
    refine wp_region_gr (by kernel_rfl) (by kernel_rfl) ?_
    repeat (go_big_quiet_step ((first | (go_at_call 80; exact quiet_call (HX.out _)) | (go_at_call 81; exact quiet_call (HM.out _)))))
    refine wpQuiet_nil ?_
    intro g
    go_wp2_with fail
    go_ret
    exact ⟨rfl, b_gr (b_alloc (Below.refl _ _) _) _⟩
  · rw [if_neg h1]
    have e1 := decide_eq_false h1
    by_cases h2 : mx > 1099511627776
    · rw [if_pos h2]
      have e2 := decide_eq_true h2
      go_enter Tryz.func95, Tryz.ntmps95
      go_wp2_with fail
      refine wp_region_gr (by kernel_rfl) (by kernel_rfl) ?_
      repeat (go_big_quiet_step ((first | (go_at_call 80; exact quiet_call (HX.out _)) | (go_at_call 81; exact quiet_call (HM.out _)))))
      refine wpQuiet_nil ?_
      intro g
      go_wp2_with fail
      go_ret
      exact ⟨rfl, b_gr (b_alloc (Below.refl _ _) _) _⟩
    · rw [if_neg h2]
      have e2 := decide_eq_false h2
      go_enter Tryz.func95, Tryz.ntmps95
      go_wp2_with fail
      refine wp_region_gr (by kernel_rfl) (by kernel_rfl) ?_
      repeat (go_big_quiet_step ((first | (go_at_call 80; exact quiet_call (HX.out _)) | (go_at_call 81; exact quiet_call (HM.out _)))))
      refine wpQuiet_nil ?_
      intro g
      go_wp2_with fail
      go_ret
      exact ⟨rfl, b_gr (b_alloc (Below.refl _ _) _) _⟩
def eachE (f : Nat → Int × Int) : Int := ((List.range 5).map fun i => (f i).2).find? (· ≠ 0) |>.getD 0
def eachV (f : Nat → Int × Int) : Vec := if eachE f = 0 then ⟨(f 0).1, (f 1).1, (f 2).1, (f 3).1, (f 4).1⟩ else ⟨0, 0, 0, 0, 0⟩
theorem eachE_hit (f : Nat → Int × Int) (k : Nat) (hk : k < 5) (h : (f k).2 ≠ 0) (hn : ∀ j, j < k → (f j).2 = 0) : eachE f = (f k).2 := by
  unfold eachE
  match k, hk with
  | 0, _ => simp [List.range_succ, h]
  | 1, _ => simp [List.range_succ, h, hn 0]
  | 2, _ => simp [List.range_succ, h, hn 0, hn 1]
  | 3, _ => simp [List.range_succ, h, hn 0, hn 1, hn 2]
  | 4, _ => simp [List.range_succ, h, hn 0, hn 1, hn 2, hn 3]
theorem eachE_none (f : Nat → Int × Int) (hn : ∀ j, j < 5 → (f j).2 = 0) : eachE f = 0 := by
  unfold eachE
  simp [List.range_succ, hn 0, hn 1, hn 2, hn 3, hn 4]
set_option maxHeartbeats 1000000 in
theorem each_ok (g : Nat) (lb : Array Value) (eg : ∀ args w, (callFunc g args).run Tryz.prog w = .ok (.enter g args) w) (f : Nat → Int × Int) (w : World)
    (hf : ∀ (i : Nat) W, i < 5 → Below w.heap.size w W → Calls Tryz.prog g (#[.int .i64 (i : Int)] ++ lb) W (Gives (pairI (f i)) W)) :
    Calls Tryz.prog 104 #[.func (.func g) #[] lb] w (Gives (.tuple #[(eachV f).val, .int .i64 (eachE f)]) w) := by
  have HF := hide hf
  clear hf
  go_enter Tryz.func104, Tryz.ntmps104
  go_wp2_with fail
  go_loopg [3, 5] 5 (fun gg s3 s5 wr => ∃ (kk : Nat) (c0 c1 c2 c3 c4 : Int), kk ≤ 5 ∧ 5 - kk ≤ gg ∧ s5 = .int .i64 kk ∧ s3 = .int .i64 0 ∧ Hid (Below w.heap.size w wr) ∧ Hid (Blk wr w.heap.size 32 #[.int .i64 c0, .int .i64 c1, .int .i64 c2, .int .i64 c3, .int .i64 c4]) ∧ Hid ((0 < kk → c0 = (f 0).1) ∧ (1 < kk → c1 = (f 1).1) ∧ (2 < kk → c2 = (f 2).1) ∧ (3 < kk → c3 = (f 3).1) ∧ (4 < kk → c4 = (f 4).1)) ∧ Hid (∀ j, j < kk → (f j).2 = 0))
  case atStart => exact ⟨0, 0, 0, 0, 0, 0, Nat.zero_le _, by omega, rfl, rfl, b_alloc (Below.refl _ w) _, Blk.new _ _ _, by simp [Hid], fun j hj => absurd hj (Nat.not_lt_zero _)⟩
  case round =>
    obtain ⟨kk, c0, c1, c2, c3, c4, hkk, hg, rfl, rfl, HB, HK, HC, A⟩ := hrel
    have ib : LtB w.heap.size wr.heap.size := HK.out.ltb
    have d0 : wr.cell? ⟨w.heap.size, 0, none⟩ = some (.int .i64 c0) := (HK.out.cell 0).trans rfl
    have z0 := HK.out.frozen 0
    have d1 : wr.cell? ⟨w.heap.size, 1, none⟩ = some (.int .i64 c1) := (HK.out.cell 1).trans rfl
    have z1 := HK.out.frozen 1
    have d2 : wr.cell? ⟨w.heap.size, 2, none⟩ = some (.int .i64 c2) := (HK.out.cell 2).trans rfl
    have z2 := HK.out.frozen 2
    have d3 : wr.cell? ⟨w.heap.size, 3, none⟩ = some (.int .i64 c3) := (HK.out.cell 3).trans rfl
    have z3 := HK.out.frozen 3
    have d4 : wr.cell? ⟨w.heap.size, 4, none⟩ = some (.int .i64 c4) := (HK.out.cell 4).trans rfl
    have z4 := HK.out.frozen 4
    rcases (by omega : kk = 0 ∨ kk = 1 ∨ kk = 2 ∨ kk = 3 ∨ kk = 4 ∨ kk = 5) with rfl | rfl | rfl | rfl | rfl | rfl
    · have HG : Hid (Calls Tryz.prog g (#[.int .i64 0] ++ lb) wr (Gives (pairI (f 0)) wr)) := HF.out 0 wr (by omega) HB.out
      unfold pairI at HG
      by_cases he : (f 0).2 = 0
      · have hb : ((f 0).2 != 0) = false := by simpa using he
        have He := hide he
        clear he
        go_wp2_with (go_at_fn g; refine (calls_gr HG.out).mono ?_; rintro e w1 ⟨rfl, g1, rfl⟩)
        have He' := He.out
        go_roundg (5 - (0 + 1))
        case measure => omega
        case rel => exact ⟨1, (f 0).1, c1, c2, c3, c4, by omega, by omega, by go_num, by rw [He'], b_set (b_gr HB.out g1) (Nat.le_refl _) _, (HK.out.gr g1).set_ 0 _, ⟨fun q => by first | rfl | exact HC.out.1 (by omega) | omega, fun q => by first | rfl | exact HC.out.2.1 (by omega) | omega, fun q => by first | rfl | exact HC.out.2.2.1 (by omega) | omega, fun q => by first | rfl | exact HC.out.2.2.2.1 (by omega) | omega, fun q => by first | rfl | exact HC.out.2.2.2.2 (by omega) | omega⟩, lt_succ_all A.out He'⟩
      · have hb : ((f 0).2 != 0) = true := by simpa using he
        have HE := hide (eachE_hit f 0 (by omega) he A.out)
        have HV := hide (show eachV f = ⟨0, 0, 0, 0, 0⟩ from if_neg (by rw [HE.out]; exact he))
        clear he
        go_wp2_with (go_at_fn g; refine (calls_gr HG.out).mono ?_; rintro e w1 ⟨rfl, g1, rfl⟩)
        refine bodyPost_ret (v := .tuple #[.agg #[.int .i64 0, .int .i64 0, .int .i64 0, .int .i64 0, .int .i64 0], .int .i64 (f 0).2]) (by simp [results, Tryz.results104, go_sem, d0, d1, d2, d3, d4]) rfl ⟨by rw [HE.out, HV.out]; rfl, ?_⟩
        exact b_set (b_set (b_set (b_set (b_set (b_set (b_gr HB.out g1) (Nat.le_refl _) _) (Nat.le_refl _) _) (Nat.le_refl _) _) (Nat.le_refl _) _) (Nat.le_refl _) _) (Nat.le_refl _) _
    · have HG : Hid (Calls Tryz.prog g (#[.int .i64 1] ++ lb) wr (Gives (pairI (f 1)) wr)) := HF.out 1 wr (by omega) HB.out
      unfold pairI at HG
      by_cases he : (f 1).2 = 0
      · have hb : ((f 1).2 != 0) = false := by simpa using he
        have He := hide he
        clear he
        go_wp2_with (go_at_fn g; refine (calls_gr HG.out).mono ?_; rintro e w1 ⟨rfl, g1, rfl⟩)
        have He' := He.out
        go_roundg (5 - (1 + 1))
        case measure => omega
        case rel => exact ⟨2, c0, (f 1).1, c2, c3, c4, by omega, by omega, by go_num, by rw [He'], b_set (b_gr HB.out g1) (Nat.le_refl _) _, (HK.out.gr g1).set_ 1 _, ⟨fun q => by first | rfl | exact HC.out.1 (by omega) | omega, fun q => by first | rfl | exact HC.out.2.1 (by omega) | omega, fun q => by first | rfl | exact HC.out.2.2.1 (by omega) | omega, fun q => by first | rfl | exact HC.out.2.2.2.1 (by omega) | omega, fun q => by first | rfl | exact HC.out.2.2.2.2 (by omega) | omega⟩, lt_succ_all A.out He'⟩
      · have hb : ((f 1).2 != 0) = true := by simpa using he
        have HE := hide (eachE_hit f 1 (by omega) he A.out)
        have HV := hide (show eachV f = ⟨0, 0, 0, 0, 0⟩ from if_neg (by rw [HE.out]; exact he))
        clear he
        go_wp2_with (go_at_fn g; refine (calls_gr HG.out).mono ?_; rintro e w1 ⟨rfl, g1, rfl⟩)
        refine bodyPost_ret (v := .tuple #[.agg #[.int .i64 0, .int .i64 0, .int .i64 0, .int .i64 0, .int .i64 0], .int .i64 (f 1).2]) (by simp [results, Tryz.results104, go_sem, d0, d1, d2, d3, d4]) rfl ⟨by rw [HE.out, HV.out]; rfl, ?_⟩
        exact b_set (b_set (b_set (b_set (b_set (b_set (b_gr HB.out g1) (Nat.le_refl _) _) (Nat.le_refl _) _) (Nat.le_refl _) _) (Nat.le_refl _) _) (Nat.le_refl _) _) (Nat.le_refl _) _
    · have HG : Hid (Calls Tryz.prog g (#[.int .i64 2] ++ lb) wr (Gives (pairI (f 2)) wr)) := HF.out 2 wr (by omega) HB.out
      unfold pairI at HG
      by_cases he : (f 2).2 = 0
      · have hb : ((f 2).2 != 0) = false := by simpa using he
        have He := hide he
        clear he
        go_wp2_with (go_at_fn g; refine (calls_gr HG.out).mono ?_; rintro e w1 ⟨rfl, g1, rfl⟩)
        have He' := He.out
        go_roundg (5 - (2 + 1))
        case measure => omega
        case rel => exact ⟨3, c0, c1, (f 2).1, c3, c4, by omega, by omega, by go_num, by rw [He'], b_set (b_gr HB.out g1) (Nat.le_refl _) _, (HK.out.gr g1).set_ 2 _, ⟨fun q => by first | rfl | exact HC.out.1 (by omega) | omega, fun q => by first | rfl | exact HC.out.2.1 (by omega) | omega, fun q => by first | rfl | exact HC.out.2.2.1 (by omega) | omega, fun q => by first | rfl | exact HC.out.2.2.2.1 (by omega) | omega, fun q => by first | rfl | exact HC.out.2.2.2.2 (by omega) | omega⟩, lt_succ_all A.out He'⟩
      · have hb : ((f 2).2 != 0) = true := by simpa using he
        have HE := hide (eachE_hit f 2 (by omega) he A.out)
        have HV := hide (show eachV f = ⟨0, 0, 0, 0, 0⟩ from if_neg (by rw [HE.out]; exact he))
        clear he
        go_wp2_with (go_at_fn g; refine (calls_gr HG.out).mono ?_; rintro e w1 ⟨rfl, g1, rfl⟩)
        refine bodyPost_ret (v := .tuple #[.agg #[.int .i64 0, .int .i64 0, .int .i64 0, .int .i64 0, .int .i64 0], .int .i64 (f 2).2]) (by simp [results, Tryz.results104, go_sem, d0, d1, d2, d3, d4]) rfl ⟨by rw [HE.out, HV.out]; rfl, ?_⟩
        exact b_set (b_set (b_set (b_set (b_set (b_set (b_gr HB.out g1) (Nat.le_refl _) _) (Nat.le_refl _) _) (Nat.le_refl _) _) (Nat.le_refl _) _) (Nat.le_refl _) _) (Nat.le_refl _) _
    · have HG : Hid (Calls Tryz.prog g (#[.int .i64 3] ++ lb) wr (Gives (pairI (f 3)) wr)) := HF.out 3 wr (by omega) HB.out
      unfold pairI at HG
      by_cases he : (f 3).2 = 0
      · have hb : ((f 3).2 != 0) = false := by simpa using he
        have He := hide he
        clear he
        go_wp2_with (go_at_fn g; refine (calls_gr HG.out).mono ?_; rintro e w1 ⟨rfl, g1, rfl⟩)
        have He' := He.out
        go_roundg (5 - (3 + 1))
        case measure => omega
        case rel => exact ⟨4, c0, c1, c2, (f 3).1, c4, by omega, by omega, by go_num, by rw [He'], b_set (b_gr HB.out g1) (Nat.le_refl _) _, (HK.out.gr g1).set_ 3 _, ⟨fun q => by first | rfl | exact HC.out.1 (by omega) | omega, fun q => by first | rfl | exact HC.out.2.1 (by omega) | omega, fun q => by first | rfl | exact HC.out.2.2.1 (by omega) | omega, fun q => by first | rfl | exact HC.out.2.2.2.1 (by omega) | omega, fun q => by first | rfl | exact HC.out.2.2.2.2 (by omega) | omega⟩, lt_succ_all A.out He'⟩
      · have hb : ((f 3).2 != 0) = true := by simpa using he
        have HE := hide (eachE_hit f 3 (by omega) he A.out)
        have HV := hide (show eachV f = ⟨0, 0, 0, 0, 0⟩ from if_neg (by rw [HE.out]; exact he))
        clear he
        go_wp2_with (go_at_fn g; refine (calls_gr HG.out).mono ?_; rintro e w1 ⟨rfl, g1, rfl⟩)
        refine bodyPost_ret (v := .tuple #[.agg #[.int .i64 0, .int .i64 0, .int .i64 0, .int .i64 0, .int .i64 0], .int .i64 (f 3).2]) (by simp [results, Tryz.results104, go_sem, d0, d1, d2, d3, d4]) rfl ⟨by rw [HE.out, HV.out]; rfl, ?_⟩
        exact b_set (b_set (b_set (b_set (b_set (b_set (b_gr HB.out g1) (Nat.le_refl _) _) (Nat.le_refl _) _) (Nat.le_refl _) _) (Nat.le_refl _) _) (Nat.le_refl _) _) (Nat.le_refl _) _
    · have HG : Hid (Calls Tryz.prog g (#[.int .i64 4] ++ lb) wr (Gives (pairI (f 4)) wr)) := HF.out 4 wr (by omega) HB.out
      unfold pairI at HG
      by_cases he : (f 4).2 = 0
      · have hb : ((f 4).2 != 0) = false := by simpa using he
        have He := hide he
        clear he
        go_wp2_with (go_at_fn g; refine (calls_gr HG.out).mono ?_; rintro e w1 ⟨rfl, g1, rfl⟩)
        have He' := He.out
        go_roundg (5 - (4 + 1))
        case measure => omega
        case rel => exact ⟨5, c0, c1, c2, c3, (f 4).1, by omega, by omega, by go_num, by rw [He'], b_set (b_gr HB.out g1) (Nat.le_refl _) _, (HK.out.gr g1).set_ 4 _, ⟨fun q => by first | rfl | exact HC.out.1 (by omega) | omega, fun q => by first | rfl | exact HC.out.2.1 (by omega) | omega, fun q => by first | rfl | exact HC.out.2.2.1 (by omega) | omega, fun q => by first | rfl | exact HC.out.2.2.2.1 (by omega) | omega, fun q => by first | rfl | exact HC.out.2.2.2.2 (by omega) | omega⟩, lt_succ_all A.out He'⟩
      · have hb : ((f 4).2 != 0) = true := by simpa using he
        have HE := hide (eachE_hit f 4 (by omega) he A.out)
        have HV := hide (show eachV f = ⟨0, 0, 0, 0, 0⟩ from if_neg (by rw [HE.out]; exact he))
        clear he
        go_wp2_with (go_at_fn g; refine (calls_gr HG.out).mono ?_; rintro e w1 ⟨rfl, g1, rfl⟩)
        refine bodyPost_ret (v := .tuple #[.agg #[.int .i64 0, .int .i64 0, .int .i64 0, .int .i64 0, .int .i64 0], .int .i64 (f 4).2]) (by simp [results, Tryz.results104, go_sem, d0, d1, d2, d3, d4]) rfl ⟨by rw [HE.out, HV.out]; rfl, ?_⟩
        exact b_set (b_set (b_set (b_set (b_set (b_set (b_gr HB.out g1) (Nat.le_refl _) _) (Nat.le_refl _) _) (Nat.le_refl _) _) (Nat.le_refl _) _) (Nat.le_refl _) _) (Nat.le_refl _) _
    · have HE := hide (eachE_none f A.out)
      have HV := hide (show eachV f = ⟨(f 0).1, (f 1).1, (f 2).1, (f 3).1, (f 4).1⟩ from if_pos HE.out)
      obtain ⟨q0, q1, q2, q3, q4⟩ := HC.out
      obtain rfl := q0 (by omega)
      obtain rfl := q1 (by omega)
      obtain rfl := q2 (by omega)
      obtain rfl := q3 (by omega)
      obtain rfl := q4 (by omega)
      clear q0 q1 q2 q3 q4
      go_wp2_with fail
      refine bodyPost_ret (v := .tuple #[.agg #[.int .i64 (f 0).1, .int .i64 (f 1).1, .int .i64 (f 2).1, .int .i64 (f 3).1, .int .i64 (f 4).1], .int .i64 0]) (by simp [results, Tryz.results104, go_sem, d0, d1, d2, d3, d4]) rfl ⟨by rw [HE.out, HV.out], ?_⟩
      exact b_set (b_set (b_set (b_set (b_set HB.out (Nat.le_refl _) _) (Nat.le_refl _) _) (Nat.le_refl _) _) (Nat.le_refl _) _) (Nat.le_refl _) _
end Go.Proofs.YtnjjdilmaepokaaGreat
namespace Go.Proofs.YtnjjdilmaepokaaGreat
open Go.RowKit
theorem flat_at {α : Type} {enc : α → List Value} {k : Nat} (hk : ∀ x, (enc x).length = k) : ∀ (xs : List α) (i : Nat) (x : α) (j : Nat) (v : Value), xs[i]? = some x → (enc x)[j]? = some v → (xs.flatMap enc)[i * k + j]? = some v := by
  intro xs
  induction xs with
  | nil => intro i x j v hx; simp at hx
  | cons y xs ih =>
    intro i x j v hx hv
    have hj : j < k := by rw [← hk x]; exact (List.getElem?_eq_some_iff.1 hv).1
    rw [List.flatMap_cons]
    cases i with
    | zero =>
      simp only [List.getElem?_cons_zero, Option.some.injEq] at hx
      subst hx
      rw [Nat.zero_mul, Nat.zero_add, List.getElem?_append_left (by rw [hk]; exact hj)]
      exact hv
    | succ i =>
      rw [List.getElem?_append_right (by rw [hk, Nat.succ_mul]; omega), hk, show (i + 1) * k + j - k = i * k + j by rw [Nat.succ_mul]; omega]
      exact ih i x j v (by simpa using hx) hv
theorem flat_len {α : Type} {enc : α → List Value} {k : Nat} (hk : ∀ x, (enc x).length = k) (xs : List α) : (xs.flatMap enc).length = xs.length * k := by
  induction xs with
  | nil => simp
  | cons y xs ih => rw [List.flatMap_cons, List.length_append, ih, hk, List.length_cons, Nat.succ_mul]; omega
theorem sl_of_row {α : Type} {enc : α → List Value} {k : Nat} {E : TypeId} {base : Nat} {v : Value} {xs : List α} {w : World} (hk : ∀ x, (enc x).length = k)
    (h : w.ownsRow base E k v xs.length (xs.flatMap enc)) (hb : xs.length ≤ 140737488351232) : ∃ s : SL α, s.l = xs ∧ v = s.val ∧ s.At enc k w := by
  rcases h.2 with ⟨rfl, h0⟩ | ⟨g, cap, cur, rfl, _, hh, hnc, hcap, hsz, ht⟩
  · have : xs = [] := List.eq_nil_of_length_eq_zero h0
    subst this
    exact ⟨⟨none, 0, []⟩, rfl, rfl, SL.At.nil _ _ _⟩
  · refine ⟨⟨some ⟨g, 0, none⟩, cap, xs⟩, rfl, rfl, hnc, hb, hcap, fun i x hx => ⟨g, 0, rfl, (Array.getElem?_eq_some_iff.1 hh).1, fun j u hu => ?_⟩⟩
    have hf := flat_at hk xs i x j u hx hu
    rw [Nat.zero_add, cell_of_row w g (i * k + j) cur E (0, 0) hh, ← Array.getElem?_toList]
    rw [← ht] at hf
    rw [List.getElem?_take] at hf
    split at hf
    · exact hf
    · cases hf
/-- The end of a call that hands back a slice: it reads as `xs`. -/
def GivesSL {α : Type} (enc : α → List Value) (k : Nat) (xs : List α) (w : World) (e : Ending) (w' : World) : Prop := ∃ s : SL α, s.l = xs ∧ e = .returned s.val ∧ s.At enc k w' ∧ Below w.heap.size w w'
theorem gives_row {α : Type} {enc : α → List Value} {k : Nat} {E : TypeId} {base : Nat} {v : Value} {xs : List α} {w w' : World} (hk : ∀ x, (enc x).length = k)
    (h : w'.ownsRow base E k v xs.length (xs.flatMap enc)) (hb : xs.length ≤ 140737488351232) (hB : Below w.heap.size w w') : GivesSL enc k xs w (.returned v) w' := by
  obtain ⟨s, h1, rfl, h3⟩ := sl_of_row hk h hb
  exact ⟨s, h1, rfl, h3, hB⟩
/-- The cells of a block that was just laid, at an address that grows. -/
theorem cells_new (w : World) (cs : List Value) (t : TypeId) : ∀ j u, cs[j]? = some u → (w.alloc (.cells cs.toArray t)).cell? ((⟨w.heap.size, 0, none⟩ : Addr).add j) = some u := by
  intro j u hj
  have h : ((⟨w.heap.size, 0, none⟩ : Addr).add j) = ⟨w.heap.size, j, none⟩ := by unfold Addr.add; split <;> simp_all
  rw [h, (Blk.new w t cs.toArray).cell j]
  simpa using hj
theorem cells_at (w : World) (cs : List Value) (t : TypeId) (n : Nat) (hn : n = w.heap.size) : ∀ j u, cs[j]? = some u → (w.alloc (.cells cs.toArray t)).cell? ((⟨n, 0, none⟩ : Addr).add j) = some u := by
  subst hn
  exact cells_new w cs t
theorem grown_below {w W W' : World} {v : Value} (h : Below w.heap.size w W) (hg : W.grownBy W' v.ownBlock) (hv : ∀ k, v.ownBlock = some k → w.heap.size ≤ k) : Below w.heap.size w W' := h.grown hg h.size hv
theorem own_ge {w : World} {base : Nat} {e : TypeId} {size n : Nat} {v : Value} {xs : List Value} (h : w.ownsRow base e size v n xs) (k : Nat) (hk : v.ownBlock = some k) : base ≤ k := by
  rcases h.2 with ⟨rfl, _⟩ | ⟨g, cap, cur, rfl, hb, _⟩
  · simp [Value.ownBlock] at hk
  · have : g = k := by simpa [Value.ownBlock] using hk
    omega
theorem own_below {w w' : World} {base : Nat} {e : TypeId} {size n : Nat} {v : Value} {xs : List Value} (h : w.ownsRow base e size v n xs) (hb : Below w.heap.size w w') : w'.ownsRow base e size v n xs :=
  h.kept (show w.grownBy w' none from ⟨hb.os, hb.tape, hb.output, hb.size, fun i hi _ => hb.block i hi⟩) (by cases v.ownBlock <;> simp)
theorem own_gr {w : World} {base : Nat} {e : TypeId} {size n : Nat} {v : Value} {xs : List Value} (h : w.ownsRow base e size v n xs) (g : Grw w) : (gr w g).ownsRow base e size v n xs := own_below h (gr_below w g)
theorem take_succ_map {α β : Type} (f : α → β) {l : List α} {k : Nat} {x : α} (h : l[k]? = some x) : (l.take (k + 1)).map f = (l.take k).map f ++ [f x] := by rw [List.take_add_one, h]; simp
theorem flat_snoc {α : Type} (enc : α → List Value) (l : List α) (x : α) : (l ++ [x]).flatMap enc = l.flatMap enc ++ enc x := by simp
end Go.Proofs.YtnjjdilmaepokaaGreat
