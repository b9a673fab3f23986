/- Arguments, opened: what the row reads is a cluster, a placement, steps that lie in memory. Conditions: the row's own (what is read, and its weights).
   The rows' arguments: a cluster, a placement, as the row reads them. Conditions: the row's own. -/
import Derived.Test.YtnjjdilmaepokaaGreatMA
import Derived.Test.YtnjjdilmaepokaaGreatProg
import Derived.OpenShut
import Derived.SizedLaws
import Derived.DataReads
import Derived.ChangeOld
import Derived.Test.YtnjjdilmaepokaaGreatRows
import Derived.Carry
import Derived.ChangeShapes
set_option linter.unusedVariables false
set_option linter.unusedSimpArgs false
namespace Go.Proofs.YtnjjdilmaepokaaGreat
open Go.RowKit Go.ChangeShapes Go.WideShapes
section
variable {H : Type} {encT : TypeId × Value → H} {P : Program} {w : World} {base : Nat} {spare : Nat → Bool} {held : Bool}
/-- Every weight is within the reach. -/
def Light (P : Program) (t : TypeId) (x : DataW H × List MemPlace) : Prop := ∀ n ∈ x.1.weights P t, n ≤ 140737488351232
/-- What reads at type t is `enc a` of some a of which Q says. -/
def Opens {α : Type} (P : Program) (w : World) (base : Nat) (spare : Nat → Bool) (held : Bool) (encT : TypeId × Value → H) (t : TypeId) (enc : α → List Value) (Q : α → Prop) : Prop :=
  ∀ fuel cs x, DataW.trod encT P w base spare held fuel t cs = some x → Light P t x → ∃ a, cs = enc a ∧ Q a
theorem weights_all {e : TypeId} : ∀ {l : List (DataW H)} {d : DataW H}, d ∈ l → ∀ n ∈ d.weights P e, n ∈ DataW.weightsAll P e l
  | d0 :: l, d, hd, n, hn => by
    simp only [DataW.weightsAll, List.mem_append]
    rcases List.mem_cons.1 hd with rfl | hd
    · exact .inl hn
    · exact .inr (weights_all hd n hn)
  | [], _, hd, _, _ => by simp at hd
theorem open_sl {α : Type} {t E : TypeId} {enc : α → List Value} {k : Nat} {Q : α → Prop} (ht : P.underlying t = some (.slice E)) (hk : P.cellsOf E = k) (hk0 : 0 < k) (hb : 0 < P.bytesOf E) (hE : Opens P w base spare held encT E enc Q) :
    Opens P w base spare held encT t (fun s : SL α => [s.val]) (fun s => s.At enc k w ∧ ∀ a ∈ s.l, Q a) := by
  intro fuel cs x h hw
  rcases DataW.trod_slice ht h with ⟨rfl, rfl⟩ | ⟨a, len, cap, elems, rest, m, rfl, rfl, rfl, hba, hlc, hcm, hel, hcells, _, _⟩
  · exact ⟨⟨none, 0, []⟩, rfl, SL.At.nil _ _ _, fun a ha => by simp at ha⟩
  · have hx : ∀ i : Fin len, ∃ y, Q y ∧ w.cells? base (a.add (i * k)) k = some (enc y) := fun i => by
      have h1 := hcells i i.2
      have hi : i < elems.length := by rw [hel]; exact i.2
      rw [List.getElem?_eq_getElem hi, hk] at h1
      obtain ⟨cs', h2, h3⟩ := Option.bind_eq_some_iff.1 h1
      have hl : Light P E elems[i] := fun n hn => hw n (by
        simp only [DataW.weights, ht, List.mem_cons, List.mem_append]
        exact .inr (.inl (weights_all (List.mem_map.2 ⟨elems[i], List.getElem_mem hi, rfl⟩) n hn)))
      obtain ⟨y, rfl, hq⟩ := hE _ _ _ h3 hl
      exact ⟨y, hq, h2⟩
    have hlen : len ≤ 140737488351232 := by
      have h1 := hw ((elems.length + rest.length) * P.bytesOf E) (by simp [DataW.weights, ht])
      have h2 : elems.length * 1 ≤ (elems.length + rest.length) * P.bytesOf E := Nat.mul_le_mul (by omega) hb
      omega
    have hcell : ∀ (i : Fin len) j v, (enc (hx i).choose)[j]? = some v → w.cell? ((a.add (i * k)).add j) = some v := fun i j v hv => by
      obtain ⟨_, h2, h3⟩ := World.cells?_some (hx i).choose_spec.2
      rw [h3 j (by have := (List.getElem?_eq_some_iff.1 hv).1; omega)]
      exact hv
    refine ⟨⟨some a, cap, List.ofFn fun i => (hx i).choose⟩, by simp [SL.val], ⟨by simp; exact hlc, by simp; exact hlen, by unfold maxLen at hcm; exact hcm, fun i y hy => ?_⟩, fun y hy => ?_⟩
    · have hi : i < len := by have := (List.getElem?_eq_some_iff.1 hy).1; simpa using this
      have hy' : (hx ⟨i, hi⟩).choose = y := by
        rw [List.getElem?_ofFn] at hy
        simp [hi] at hy
        exact hy
      obtain ⟨b, off, spot⟩ := a
      obtain ⟨h1, h2, h3⟩ := World.cells?_some (hx ⟨0, by omega⟩).choose_spec.2
      have h0 := h3 0 hk0
      have hv0 : ∃ v, (enc (hx ⟨0, by omega⟩).choose)[0]? = some v := ⟨_, List.getElem?_eq_getElem (by omega)⟩
      obtain ⟨v0, hv0⟩ := hv0
      rw [hv0] at h0
      have hspot : spot = none := by simpa [Addr.add] using World.cell?_spot h0
      subst hspot
      have hlt : b < w.heap.size := by simpa [Addr.add] using World.block_lt_of_cell? w _ h0
      refine ⟨b, off, rfl, hlt, fun j v hv => ?_⟩
      have := hcell ⟨i, hi⟩ j v (by rw [hy']; exact hv)
      rw [← this]
      congr 1
      rw [add_plain, add_plain]
    · obtain ⟨i, rfl⟩ := List.mem_ofFn.1 hy
      exact (hx i).choose_spec.1
theorem open_str {t : TypeId} (ht : P.underlying t = some .string) : Opens P w base spare held encT t (fun s : ByteArray => [.string s]) (fun _ => True) := fun fuel cs x h _ => by
  obtain ⟨s, rfl, _⟩ := DataW.trod_string ht h
  exact ⟨s, rfl, trivial⟩
theorem open_i64 {t : TypeId} (ht : P.underlying t = some (.int .i64)) : Opens P w base spare held encT t (fun n : Int => [.int .i64 n]) (fun n => (Lit.int .i64 n).wf = true) := fun fuel cs x h _ => by
  obtain ⟨s, rfl, _, hw⟩ := DataW.trod_int ht h
  exact ⟨s, rfl, hw⟩
theorem open_bl {t : TypeId} (ht : P.underlying t = some .bool) : Opens P w base spare held encT t (fun b : Bool => [.bool b]) (fun _ => True) := fun fuel cs x h _ => by
  obtain ⟨s, rfl, _⟩ := DataW.trod_bool ht h
  exact ⟨s, rfl, trivial⟩
/-- A struct's field. -/
theorem field_at {t : TypeId} {fs : Array Field} (ht : P.underlying t = some (.struct fs)) {fuel : Nat} {cs : List Value} {x : DataW H × List MemPlace} (h : DataW.trod encT P w base spare held fuel t cs = some x) (hw : Light P t x) {α : Type} {enc : α → List Value} {Q : α → Prop} (i : Nat) {f : Field} (hf : fs[i]? = some f)
    {T : TypeId} (hT : f.type = T) {off k : Nat} (ho : f.offset = off) (hk : P.cellsOf T = k) (hE : Opens P w base spare held encT T enc Q) : ∃ a, (cs.drop off).take k = enc a ∧ Q a := by
  obtain ⟨xs, n, rfl, rfl, hl, hn, hx⟩ := DataW.trod_struct ht h
  subst hT ho hk
  have hi : i < xs.length := by rw [hn]; exact (Array.getElem?_eq_some_iff.1 hf).1
  have h1 := hx i f hf
  rw [List.getElem?_eq_getElem hi] at h1
  refine hE _ _ _ h1 (fun m hm => hw m ?_)
  simp only [DataW.weights, ht]
  exact DataW.weights_mem_each (j := i) (by rw [List.getElem?_map, Array.getElem?_toList, hf]; rfl) (by rw [List.getElem?_map, List.getElem?_eq_getElem hi]; rfl) m hm
theorem struct_len {t : TypeId} {fs : Array Field} (ht : P.underlying t = some (.struct fs)) {fuel : Nat} {cs : List Value} {x : DataW H × List MemPlace} (h : DataW.trod encT P w base spare held fuel t cs = some x) {k : Nat} (hk : P.cellsOf t = k) : cs.length = k := by
  obtain ⟨xs, n, rfl, rfl, hl, hn, hx⟩ := DataW.trod_struct ht h
  exact hl.trans hk
end
section
variable {H : Type} {encT : TypeId × Value → H} {w : World} {base : Nat} {spare : Nat → Bool} {held : Bool}
def Near.enc2 (n : Near) : List Value := [.string n.topo, n.terms.val]
theorem open_vec : Opens Tryz.prog w base spare held encT 32 Vec.enc (fun _ => True) := by
  intro fuel cs x h _
  obtain ⟨xs, n, rfl, rfl, hl, hn, hx⟩ := DataW.trod_array Tryz.underlying32 h
  have hl5 : cs.length = 5 := hl.trans (by kernel_rfl)
  rcases cs with _ | ⟨c0, _ | ⟨c1, _ | ⟨c2, _ | ⟨c3, _ | ⟨c4, _ | ⟨c5, cs⟩⟩⟩⟩⟩⟩ <;> simp only [List.length_cons, List.length_nil] at hl5 <;> try omega
  have hc : Tryz.prog.cellsOf 3 = 1 := by kernel_rfl
  have g : ∀ i, i < 5 → ∃ m : Int, (([c0, c1, c2, c3, c4].drop i).take 1) = [.int .i64 m] := fun i hi => by
    have h1 := hx i hi
    rw [List.getElem?_eq_getElem (by omega), hc, Nat.mul_one] at h1
    obtain ⟨m, hm, _⟩ := DataW.trod_int Tryz.underlying3 h1
    exact ⟨m, hm⟩
  obtain ⟨a, ha⟩ := g 0 (by omega)
  obtain ⟨b, hb⟩ := g 1 (by omega)
  obtain ⟨c, hc'⟩ := g 2 (by omega)
  obtain ⟨d, hd⟩ := g 3 (by omega)
  obtain ⟨e, he⟩ := g 4 (by omega)
  simp at ha hb hc' hd he
  subst ha hb hc' hd he
  exact ⟨⟨a, b, c, d, e⟩, rfl, trivial⟩
theorem open_label : Opens Tryz.prog w base spare held encT 29 Label.enc (fun _ => True) := by
  intro fuel cs x h hw
  have hl := struct_len Tryz.underlying29 h (k := 2) (by kernel_rfl)
  obtain ⟨a, h0, q0⟩ := field_at Tryz.underlying29 h hw 0 rfl rfl rfl (k := 1) (by kernel_rfl) (open_str Tryz.underlying9)
  obtain ⟨b, h1, q1⟩ := field_at Tryz.underlying29 h hw 1 rfl rfl rfl (k := 1) (by kernel_rfl) (open_str Tryz.underlying9)
  rcases cs with _ | ⟨c0, _ | ⟨c1, _ | ⟨c2, cs⟩⟩⟩ <;> simp only [List.length_cons, List.length_nil] at hl <;> try omega
  simp [Near.enc2, SL.val, Vec.enc] at h0 h1
  exact ⟨⟨a, b⟩, by simp [Label.enc, SL.val, h0, h1], trivial⟩
theorem open_term : Opens Tryz.prog w base spare held encT 38 Term.enc (fun _ => True) := by
  intro fuel cs x h hw
  have hl := struct_len Tryz.underlying38 h (k := 3) (by kernel_rfl)
  obtain ⟨k, h0, q0⟩ := field_at Tryz.underlying38 h hw 0 rfl rfl rfl (k := 1) (by kernel_rfl) (open_i64 Tryz.underlying3)
  obtain ⟨a, h1, q1⟩ := field_at Tryz.underlying38 h hw 1 rfl rfl rfl (k := 1) (by kernel_rfl) (open_str Tryz.underlying9)
  obtain ⟨b, h2, q2⟩ := field_at Tryz.underlying38 h hw 2 rfl rfl rfl (k := 1) (by kernel_rfl) (open_str Tryz.underlying9)
  rcases cs with _ | ⟨c0, _ | ⟨c1, _ | ⟨c2, _ | ⟨c3, cs⟩⟩⟩⟩ <;> simp only [List.length_cons, List.length_nil] at hl <;> try omega
  simp [Near.enc2, SL.val, Vec.enc] at h0 h1 h2
  exact ⟨⟨k, a, b⟩, by simp [Term.enc, SL.val, h0, h1, h2], trivial⟩
theorem open_labels : Opens Tryz.prog w base spare held encT 30 (fun s : SL Label => [s.val]) (fun s => s.At Label.enc 2 w ∧ ∀ a ∈ s.l, True) := open_sl Tryz.underlying30 (by kernel_rfl) (by omega) (by rw [show Tryz.prog.bytesOf 29 = 32 from by kernel_rfl]; omega) open_label
theorem open_terms : Opens Tryz.prog w base spare held encT 39 (fun s : SL Term => [s.val]) (fun s => s.At Term.enc 3 w ∧ ∀ a ∈ s.l, True) := open_sl Tryz.underlying39 (by kernel_rfl) (by omega) (by rw [show Tryz.prog.bytesOf 38 = 40 from by kernel_rfl]; omega) open_term
theorem open_near : Opens Tryz.prog w base spare held encT 41 Near.enc2 (fun n : Near => Terms w n.terms) := by
  intro fuel cs x h hw
  have hl := struct_len Tryz.underlying41 h (k := 2) (by kernel_rfl)
  obtain ⟨a, h0, q0⟩ := field_at Tryz.underlying41 h hw 0 rfl rfl rfl (k := 1) (by kernel_rfl) (open_str Tryz.underlying9)
  obtain ⟨ts, h1, q1⟩ := field_at Tryz.underlying41 h hw 1 rfl rfl rfl (k := 1) (by kernel_rfl) open_terms
  rcases cs with _ | ⟨c0, _ | ⟨c1, _ | ⟨c2, cs⟩⟩⟩ <;> simp only [List.length_cons, List.length_nil] at hl <;> try omega
  simp [Near.enc2, SL.val, Vec.enc] at h0 h1
  exact ⟨⟨a, ts⟩, by simp [Near.enc2, SL.val, h0, h1], q1.1⟩
theorem open_node : Opens Tryz.prog w base spare held encT 34 Node.enc (fun n : Node => n.At w) := by
  intro fuel cs x h hw
  have hl := struct_len Tryz.underlying34 h (k := 10) (by kernel_rfl)
  obtain ⟨nm, h0, q0⟩ := field_at Tryz.underlying34 h hw 0 rfl rfl rfl (k := 1) (by kernel_rfl) (open_str Tryz.underlying9)
  obtain ⟨v, h1, q1⟩ := field_at Tryz.underlying34 h hw 1 rfl rfl rfl (k := 5) (by kernel_rfl) open_vec
  obtain ⟨ls, h2, q2⟩ := field_at Tryz.underlying34 h hw 2 rfl rfl rfl (k := 1) (by kernel_rfl) open_labels
  obtain ⟨ts, h3, q3⟩ := field_at Tryz.underlying34 h hw 3 rfl rfl rfl (k := 1) (by kernel_rfl) open_labels
  obtain ⟨co, h4, q4⟩ := field_at Tryz.underlying34 h hw 4 rfl rfl rfl (k := 1) (by kernel_rfl) (open_bl Tryz.underlying4)
  obtain ⟨lo, h5, q5⟩ := field_at Tryz.underlying34 h hw 5 rfl rfl rfl (k := 1) (by kernel_rfl) (open_bl Tryz.underlying4)
  rcases cs with _ | ⟨c0, _ | ⟨c1, _ | ⟨c2, _ | ⟨c3, _ | ⟨c4, _ | ⟨c5, _ | ⟨c6, _ | ⟨c7, _ | ⟨c8, _ | ⟨c9, _ | ⟨c10, cs⟩⟩⟩⟩⟩⟩⟩⟩⟩⟩⟩ <;> simp only [List.length_cons, List.length_nil] at hl <;> try omega
  simp [Near.enc2, SL.val, Vec.enc] at h0 h1 h2 h3 h4 h5
  exact ⟨⟨nm, v, ls, ts, co, lo⟩, by simp [Node.enc, SL.val, h0, h1, h2, h3, h4, h5], ⟨q2.1, q3.1⟩⟩
theorem open_pod : Opens Tryz.prog w base spare held encT 43 Pod.enc (fun p : Pod => p.At w) := by
  intro fuel cs x h hw
  have hl := struct_len Tryz.underlying43 h (k := 15) (by kernel_rfl)
  obtain ⟨nm, h0, q0⟩ := field_at Tryz.underlying43 h hw 0 rfl rfl rfl (k := 1) (by kernel_rfl) (open_str Tryz.underlying9)
  obtain ⟨ow, h1, q1⟩ := field_at Tryz.underlying43 h hw 1 rfl rfl rfl (k := 1) (by kernel_rfl) (open_str Tryz.underlying9)
  obtain ⟨v, h2, q2⟩ := field_at Tryz.underlying43 h hw 2 rfl rfl rfl (k := 5) (by kernel_rfl) open_vec
  obtain ⟨ls, h3, q3⟩ := field_at Tryz.underlying43 h hw 3 rfl rfl rfl (k := 1) (by kernel_rfl) open_labels
  obtain ⟨wh, h4, q4⟩ := field_at Tryz.underlying43 h hw 4 rfl rfl rfl (k := 1) (by kernel_rfl) open_terms
  obtain ⟨be, h5, q5⟩ := field_at Tryz.underlying43 h hw 5 rfl rfl rfl (k := 1) (by kernel_rfl) open_labels
  obtain ⟨wt, h6, q6⟩ := field_at Tryz.underlying43 h hw 6 rfl rfl rfl (k := 2) (by kernel_rfl) open_near
  obtain ⟨ap, h7, q7⟩ := field_at Tryz.underlying43 h hw 7 rfl rfl rfl (k := 2) (by kernel_rfl) open_near
  obtain ⟨on, h8, q8⟩ := field_at Tryz.underlying43 h hw 8 rfl rfl rfl (k := 1) (by kernel_rfl) (open_str Tryz.underlying9)
  rcases cs with _ | ⟨c0, _ | ⟨c1, _ | ⟨c2, _ | ⟨c3, _ | ⟨c4, _ | ⟨c5, _ | ⟨c6, _ | ⟨c7, _ | ⟨c8, _ | ⟨c9, _ | ⟨c10, _ | ⟨c11, _ | ⟨c12, _ | ⟨c13, _ | ⟨c14, _ | ⟨c15, cs⟩⟩⟩⟩⟩⟩⟩⟩⟩⟩⟩⟩⟩⟩⟩⟩ <;> simp only [List.length_cons, List.length_nil] at hl <;> try omega
  simp [Near.enc2, SL.val, Vec.enc] at h0 h1 h2 h3 h4 h5 h6 h7 h8
  exact ⟨⟨nm, ow, v, ls, wh, be, wt, ap, on⟩, by simp [Pod.enc, SL.val, h0, h1, h2, h3, h4, h5, h6, h7, h8], ⟨q3.1, q4.1, q5.1, q6, q7⟩⟩
theorem open_owner : Opens Tryz.prog w base spare held encT 36 Owner.enc (fun _ => True) := by
  intro fuel cs x h hw
  have hl := struct_len Tryz.underlying36 h (k := 5) (by kernel_rfl)
  obtain ⟨nm, h0, q0⟩ := field_at Tryz.underlying36 h hw 0 rfl rfl rfl (k := 1) (by kernel_rfl) (open_str Tryz.underlying9)
  obtain ⟨mi, h1, q1⟩ := field_at Tryz.underlying36 h hw 1 rfl rfl rfl (k := 1) (by kernel_rfl) (open_i64 Tryz.underlying3)
  obtain ⟨to, h2, q2⟩ := field_at Tryz.underlying36 h hw 2 rfl rfl rfl (k := 1) (by kernel_rfl) (open_str Tryz.underlying9)
  obtain ⟨sk, h3, q3⟩ := field_at Tryz.underlying36 h hw 3 rfl rfl rfl (k := 1) (by kernel_rfl) (open_i64 Tryz.underlying3)
  obtain ⟨si, h4, q4⟩ := field_at Tryz.underlying36 h hw 4 rfl rfl rfl (k := 1) (by kernel_rfl) (open_bl Tryz.underlying4)
  rcases cs with _ | ⟨c0, _ | ⟨c1, _ | ⟨c2, _ | ⟨c3, _ | ⟨c4, _ | ⟨c5, cs⟩⟩⟩⟩⟩⟩ <;> simp only [List.length_cons, List.length_nil] at hl <;> try omega
  simp [Near.enc2, SL.val, Vec.enc] at h0 h1 h2 h3 h4
  exact ⟨⟨nm, mi, to, sk, si⟩, by simp [Owner.enc, SL.val, h0, h1, h2, h3, h4], trivial⟩
theorem open_nodes : Opens Tryz.prog w base spare held encT 22 (fun s : SL Node => [s.val]) (fun s => s.At Node.enc 10 w ∧ ∀ a ∈ s.l, a.At w) := open_sl Tryz.underlying22 (by kernel_rfl) (by omega) (by rw [show Tryz.prog.bytesOf 34 = 112 from by kernel_rfl]; omega) open_node
theorem open_pods : Opens Tryz.prog w base spare held encT 23 (fun s : SL Pod => [s.val]) (fun s => s.At Pod.enc 15 w ∧ ∀ a ∈ s.l, a.At w) := open_sl Tryz.underlying23 (by kernel_rfl) (by omega) (by rw [show Tryz.prog.bytesOf 43 = 240 from by kernel_rfl]; omega) open_pod
theorem open_owners : Opens Tryz.prog w base spare held encT 24 (fun s : SL Owner => [s.val]) (fun s => s.At Owner.enc 5 w ∧ ∀ a ∈ s.l, True) := open_sl Tryz.underlying24 (by kernel_rfl) (by omega) (by rw [show Tryz.prog.bytesOf 36 = 56 from by kernel_rfl]; omega) open_owner
theorem open_snap : Opens Tryz.prog w base spare held encT 26 (fun s : Snap => [s.nodes.val, s.pods.val, s.owners.val]) (fun s => s.At w) := by
  intro fuel cs x h hw
  have hl := struct_len Tryz.underlying26 h (k := 3) (by kernel_rfl)
  obtain ⟨ns, h0, q0⟩ := field_at Tryz.underlying26 h hw 0 rfl rfl rfl (k := 1) (by kernel_rfl) open_nodes
  obtain ⟨ps, h1, q1⟩ := field_at Tryz.underlying26 h hw 1 rfl rfl rfl (k := 1) (by kernel_rfl) open_pods
  obtain ⟨os, h2, q2⟩ := field_at Tryz.underlying26 h hw 2 rfl rfl rfl (k := 1) (by kernel_rfl) open_owners
  rcases cs with _ | ⟨c0, _ | ⟨c1, _ | ⟨c2, _ | ⟨c3, cs⟩⟩⟩⟩ <;> simp only [List.length_cons, List.length_nil] at hl <;> try omega
  simp at h0 h1 h2
  exact ⟨⟨ns, ps, os⟩, by simp [h0, h1, h2], ⟨q0.1, q1.1, q2.1, q0.2, q1.2⟩⟩
theorem open_ints : Opens Tryz.prog w base spare held encT 44 (fun s : SL Int => [s.val]) (fun s => Ints w s ∧ ∀ a ∈ s.l, (Lit.int .i64 a).wf = true) := open_sl Tryz.underlying44 (by kernel_rfl) (by omega) (by rw [show Tryz.prog.bytesOf 3 = 8 from by kernel_rfl]; omega) (open_i64 Tryz.underlying3)
end
end Go.Proofs.YtnjjdilmaepokaaGreat
namespace Go.Proofs.YtnjjdilmaepokaaGreat
open Go.RowKit Go.ChangeShapes Go.WideShapes
theorem laidOut : laidOutB Tryz.prog = true := by kernel_rfl
section
variable {H : Type} {encT : TypeId × Value → H} {W : World} {base : Nat} {sp : Nat → Bool} {held : Bool} {v : Value} {d : DataW H} {p : List MemPlace}
theorem light {P : Program} {ts : List TypeId} {ds : List (DataW H)} (h : (DataW.weightsEach P ts ds).all (· ≤ reachBytes) = true) {j : Nat} {t : TypeId} (ht : ts[j]? = some t) (hd : ds[j]? = some d) : ∀ n ∈ d.weights P t, n ≤ 140737488351232 := fun n hn => by
  have := List.all_eq_true.1 h n (DataW.weights_mem_each ht hd n hn)
  exact of_decide_eq_true (show decide (n ≤ 140737488351232) = true from this)
set_option maxRecDepth 100000 in
theorem arg_snap (hv : Value.okWide Tryz.prog W .any base 26 v) (h : DataW.Trod encT Tryz.prog W 0 sp held 26 v d p) (hw : ∀ n ∈ d.weights Tryz.prog 26, n ≤ 140737488351232) : ∃ s : Snap, v = s.val ∧ s.At W := by
  obtain ⟨cs, rfl, _⟩ := okWide_struct Tryz.underlying26 hv
  obtain ⟨fuel, hf⟩ := h
  obtain ⟨s, h1, h2⟩ := open_snap fuel _ _ hf hw
  refine ⟨s, ?_, h2⟩
  have h3 : cs = #[s.nodes.val, s.pods.val, s.owners.val] := by
    have h4 : cs.toList = [s.nodes.val, s.pods.val, s.owners.val] := h1
    rw [← Array.toArray_toList (xs := cs), h4]
  rw [h3]
  rfl
set_option maxRecDepth 100000 in
theorem arg_ints (hv : Value.okWide Tryz.prog W .any base 44 v) (h : DataW.Trod encT Tryz.prog W 0 sp held 44 v d p) (hw : ∀ n ∈ d.weights Tryz.prog 44, n ≤ 140737488351232) :
    ∃ s : SL Int, v = s.val ∧ Ints W s ∧ ∀ x ∈ s.l, -9223372036854775808 ≤ x ∧ x ≤ 9223372036854775807 := by
  obtain ⟨a, n, c, rfl⟩ := okWide_slice Tryz.underlying44 hv
  obtain ⟨fuel, hf⟩ := h
  obtain ⟨s, h1, h2, h3⟩ := open_ints fuel _ _ hf hw
  have h4 : [Value.slice a n c] = [s.val] := h1
  exact ⟨s, by simpa using h4, h2, fun x hx => bounds_i64 (h3 x hx)⟩
end
end Go.Proofs.YtnjjdilmaepokaaGreat
