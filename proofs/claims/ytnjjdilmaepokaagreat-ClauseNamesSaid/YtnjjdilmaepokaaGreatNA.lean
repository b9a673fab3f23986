/- ClauseNames: each kind; both ends. No conditions.
   ClauseNames returns true. No conditions.
   ClauseNames returns true. No conditions. -/
import Derived.Test.YtnjjdilmaepokaaGreatMF
import Derived.Test.YtnjjdilmaepokaaGreatRows
import Derived.WalkKit
import Derived.ProofKit
import Derived.OpenShut
set_option linter.unusedVariables false
set_option linter.unusedSimpArgs false
namespace Go.Proofs.YtnjjdilmaepokaaGreat
open Go.RowKit Go.Maps
theorem calls_with {P : Program} {f : FuncId} {args : Array Value} {W : World} {Q : Ending → World → Prop} {R : World → Prop} (h : R W) (k : R W → Calls P f args W Q) : Calls P f args W Q := k h
theorem Blk.cast {W : World} {g : Nat} {t : TypeId} {cs cs' : Array Value} (h : Blk W g t cs) (e : cs = cs') : Blk W g t cs' := e ▸ h
theorem take_setIf (cs : Array Value) (i n : Nat) (u : Value) : (cs.setIfInBounds i u).toList.take n = (cs.toList.take n).set i u := by rw [Array.toList_setIfInBounds, List.take_set]
def gpu : ByteArray := B [103, 112, 117]
def app : ByteArray := B [97, 112, 112]
def namesNs (b1 b2 a1 : Nat) : List Node := [⟨B [97], ⟨15, 0, 0, 0, 0⟩, ⟨some ⟨b1, 0, none⟩, 1, [⟨zone, B [120]⟩]⟩, ⟨some ⟨a1, 0, none⟩, 2, [⟨gpu, B [120]⟩, ⟨B [111, 108, 100], B [121]⟩]⟩, false, false⟩, chapNode [98] ⟨some ⟨b2, 0, none⟩, 1, [⟨zone, B [121]⟩]⟩, chapNode [99] noL]
def appNear (a5 : Nat) : Near := ⟨zone, ⟨some ⟨a5, 0, none⟩, 1, [⟨1, app, B [120]⟩]⟩⟩
def namesPs (a2 a3 a4 a5 : Nat) : List Pod := [⟨B [112], B [111], ⟨10, 0, 0, 0, 0⟩, ⟨some ⟨a4, 0, none⟩, 1, [⟨app, B [120]⟩]⟩, ⟨some ⟨a2, 0, none⟩, 1, [⟨1, zone, B [121]⟩]⟩, ⟨some ⟨a3, 0, none⟩, 1, [⟨gpu, B [42]⟩]⟩, appNear a5, noNear, B []⟩,
  ⟨B [113], B [111], ⟨10, 0, 0, 0, 0⟩, noL, noT, noL, appNear a5, appNear a5, B []⟩, chapPod [114]]
def namesO : Owner := ⟨B [111], 3, zone, 1, true⟩
def namesS (bn b1 b2 bp cp bo a1 a2 a3 a4 a5 : Nat) : Snap := ⟨⟨some ⟨bn, 0, none⟩, 3, namesNs b1 b2 a1⟩, ⟨some ⟨bp, 0, none⟩, cp, namesPs a2 a3 a4 a5⟩, ⟨some ⟨bo, 0, none⟩, 1, [namesO]⟩⟩
structure NamesAt (bn b1 b2 bp cp bo a1 a2 a3 a4 a5 : Nat) (W : World) : Prop where
  n : Blk W bn 34 ((namesNs b1 b2 a1).flatMap Node.enc).toArray
  l1 : Blk W b1 29 #[.string zone, .string (B [120])]
  l2 : Blk W b2 29 #[.string zone, .string (B [121])]
  o : Blk W bo 36 namesO.enc.toArray
  p : ∃ cur, Blk W bp 43 cur ∧ cur.toList.take 45 = (namesPs a2 a3 a4 a5).flatMap Pod.enc
  cp : 3 ≤ cp ∧ cp ≤ maxLen
  t1 : Blk W a1 29 #[.string gpu, .string (B [120]), .string (B [111, 108, 100]), .string (B [121])]
  t2 : Blk W a2 38 #[.int .i64 1, .string zone, .string (B [121])]
  t3 : Blk W a3 29 #[.string gpu, .string (B [42])]
  t4 : Blk W a4 29 #[.string app, .string (B [120])]
  t5 : Blk W a5 38 #[.int .i64 1, .string app, .string (B [120])]
theorem names_at {bn b1 b2 bp cp bo a1 a2 a3 a4 a5 : Nat} {W : World} (h : NamesAt bn b1 b2 bp cp bo a1 a2 a3 a4 a5 W) : (namesS bn b1 b2 bp cp bo a1 a2 a3 a4 a5).At W := by
  obtain ⟨cur, hp, ht⟩ := h.p
  have hc := h.cp
  unfold maxLen at hc
  have hl : ∀ (b : Nat) (k v : ByteArray), Blk W b 29 #[.string k, .string v] → Labels W ⟨some ⟨b, 0, none⟩, 1, [⟨k, v⟩]⟩ := fun b k v hb => at_blk hb rfl (fun _ => rfl) (by simp) (by simp) (by simp)
  have hT : ∀ (b : Nat) (k v : ByteArray), Blk W b 38 #[.int .i64 1, .string k, .string v] → Terms W ⟨some ⟨b, 0, none⟩, 1, [⟨1, k, v⟩]⟩ := fun b k v hb => at_blk hb rfl (fun _ => rfl) (by simp) (by simp) (by simp)
  have h2 : Labels W ⟨some ⟨a1, 0, none⟩, 2, [⟨gpu, B [120]⟩, ⟨B [111, 108, 100], B [121]⟩]⟩ := at_blk h.t1 rfl (fun _ => rfl) (by simp) (by simp) (by simp)
  refine ⟨at_blk h.n rfl (fun _ => rfl) (by simp [namesNs]) (by simp [namesNs]) (by simp), at_row hp (fun _ => rfl) ht hc.1 hc.2 (by simp [namesPs]), at_blk h.o rfl (fun _ => rfl) (by simp) (by simp) (by simp), ?_, ?_⟩
  · intro n hn
    simp only [namesS, namesNs, List.mem_cons, List.not_mem_nil, or_false] at hn
    rcases hn with rfl | rfl | rfl
    · exact ⟨hl _ _ _ h.l1, h2⟩
    · exact ⟨hl _ _ _ h.l2, SL.At.nil _ _ _⟩
    · exact ⟨SL.At.nil _ _ _, SL.At.nil _ _ _⟩
  · intro p hp
    simp only [namesS, namesPs, List.mem_cons, List.not_mem_nil, or_false] at hp
    rcases hp with rfl | rfl | rfl
    · exact ⟨hl _ _ _ h.t4, hT _ _ _ h.t2, hl _ _ _ h.t3, hT _ _ _ h.t5, SL.At.nil _ _ _⟩
    · exact ⟨SL.At.nil _ _ _, SL.At.nil _ _ _, SL.At.nil _ _ _, hT _ _ _ h.t5, hT _ _ _ h.t5⟩
    · exact ⟨SL.At.nil _ _ _, SL.At.nil _ _ _, SL.At.nil _ _ _, SL.At.nil _ _ _, SL.At.nil _ _ _⟩
set_option maxRecDepth 100000 in
set_option maxHeartbeats 8000000 in
theorem names08_ok (w : World) : Calls Tryz.prog 3 #[] w (Gives (.bool true) w) := by
  have HC := hide (fun W => chapter08_ok W)
  have HW := hide (fun W => works08_ok W)
  go_enter Tryz.func3, Tryz.ntmps3
  go_wp2_with fail
  refine (HC.out _).mono ?_
  rintro e W ⟨bn, b1, b2, bp, cp, bo, rfl, hch, hBw⟩
  obtain ⟨cur, hp, hps, hpt⟩ := hch.p
  have e1 : bn ≠ bo := hch.n.ne_ hch.o (by decide)
  have e2 : bn ≠ bp := hch.n.ne_ hp (by decide)
  have e3 : bo ≠ bp := hch.o.ne_ hp (by decide)
  have e4 : b1 ≠ bn := hch.l1.ne_ hch.n (by decide)
  have e5 : b1 ≠ bo := hch.l1.ne_ hch.o (by decide)
  have e6 : b1 ≠ bp := hch.l1.ne_ hp (by decide)
  have e7 : b2 ≠ bn := hch.l2.ne_ hch.n (by decide)
  have e8 : b2 ≠ bo := hch.l2.ne_ hch.o (by decide)
  have e9 : b2 ≠ bp := hch.l2.ne_ hp (by decide)
  have ln : LtB bn W.heap.size := hch.n.ltb
  have lo : LtB bo W.heap.size := hch.o.ltb
  have lp : LtB bp W.heap.size := hp.ltb
  have n1 : bn ≠ W.heap.size := by have := ln.h; omega
  have n2 : bo ≠ W.heap.size := by have := lo.h; omega
  have n3 : bp ≠ W.heap.size := by have := lp.h; omega
  have fn := hch.n.frozen 7
  have fo := hch.o.frozen 4
  have fp : ∀ i, W.frozen? ⟨bp, i, none⟩ = false := fun i => hp.frozen i
  have cn : W.cell? ⟨bn, 7, none⟩ = some (.slice none 0 0) := hch.n.cell 7
  have co : W.cell? ⟨bo, 4, none⟩ = some (.bool false) := hch.o.cell 4
  have cpp : ∀ i v, (chapPs.flatMap Pod.enc)[i]? = some v → W.cell? ⟨bp, i, none⟩ = some v := fun i v hv => by
    rw [hp.cell, ← Array.getElem?_toList]
    rw [← hpt, List.getElem?_take] at hv
    split at hv
    · exact hv
    · cases hv
  have p7 := cpp 7 _ rfl
  have p8 := cpp 8 _ rfl
  have p9 := cpp 9 _ rfl
  have p10 := cpp 10 _ rfl
  have p11 := cpp 11 _ rfl
  have p25 := cpp 25 _ rfl
  have p26 := cpp 26 _ rfl
  have p27 := cpp 27 _ rfl
  have p28 := cpp 28 _ rfl
  have Hch := hide hch
  have HBw := hide hBw
  have Hp := hide hp
  have Hpt := hide hpt
  have E4 := hide e4
  have E5 := hide e5
  have E6 := hide e6
  have E7 := hide e7
  have E8 := hide e8
  have E9 := hide e9
  clear hch hBw hp hps hpt cpp HC e4 e5 e6 e7 e8 e9
  simp only [Snap.val, chapS, chapNs, chapPs, List.length_cons, List.length_nil]
  go_wp2_with fail
  refine calls_with (R := fun V => Below w.heap.size w V ∧ Blk V W.heap.size 26 #[.slice (some ⟨bn, 0, none⟩) 3 3, .slice (some ⟨bp, 0, none⟩) 3 cp, .slice (some ⟨bo, 0, none⟩) 1 1] ∧ Blk V (W.heap.size + 1 + 1 + 1 + 1 + 1 + 1) 3 ([0, 0, 0].map (Value.int .i64)).toArray ∧ NamesAt bn b1 b2 bp cp bo (W.heap.size + 1) (W.heap.size + 1 + 1) (W.heap.size + 1 + 1 + 1) (W.heap.size + 1 + 1 + 1 + 1) (W.heap.size + 1 + 1 + 1 + 1 + 1) V) ?_ ?_
  · have hb := HBw.out
    have H4 := E4.out
    have H5 := E5.out
    have H6 := E6.out
    have H7 := E7.out
    have H8 := E8.out
    have H9 := E9.out
    have g1 := Hch.out.hn
    have g2 := Hch.out.ho
    have g3 := Hch.out.hp
    refine ⟨?_, ?_, ?_, ⟨?_, ?_, ?_, ?_, ?_, Hch.out.cp, ?_, ?_, ?_, ?_, ?_⟩⟩
    · repeat' (with_reducible (first | refine b_alloc ?_ _ | refine b_set ?_ ?_ _ | exact hb))
      all_goals (simp only; omega)
    · repeat' (with_reducible (first | refine Blk.at_ _ _ _ _ ?_ | refine Blk.alloc ?_ _))
      all_goals (simp [World.setCell])
    · refine Blk.cast (cs := #[.int .i64 0, .int .i64 0, .int .i64 0]) ?_ rfl
      repeat' (with_reducible (first | refine Blk.at_ _ _ _ _ ?_ | refine Blk.alloc ?_ _))
      all_goals (simp [World.setCell])
    · refine Blk.cast (cs := ((chapNs b1 b2).flatMap Node.enc).toArray.setIfInBounds 7 (.slice (some ⟨(W.heap.size + 1), 0, none⟩) 2 2)) ?_ rfl
      repeat' (with_reducible (first | refine Blk.alloc ?_ _ | refine Blk.set_ ?_ _ _ | refine Blk.far ?_ ?_ _ | exact Hch.out.n))
      all_goals (simp only; omega)
    · repeat' (with_reducible (first | refine Blk.alloc ?_ _ | refine Blk.far ?_ ?_ _ | exact Hch.out.l1))
      all_goals (simp only; omega)
    · repeat' (with_reducible (first | refine Blk.alloc ?_ _ | refine Blk.far ?_ ?_ _ | exact Hch.out.l2))
      all_goals (simp only; omega)
    · refine Blk.cast (cs := (chapO 3).enc.toArray.setIfInBounds 4 (.bool true)) ?_ rfl
      repeat' (with_reducible (first | refine Blk.alloc ?_ _ | refine Blk.set_ ?_ _ _ | refine Blk.far ?_ ?_ _ | exact Hch.out.o))
      all_goals (simp only; omega)
    · refine ⟨(((((((((cur.setIfInBounds 8 (.slice (some ⟨(W.heap.size + 1 + 1), 0, none⟩) 1 1)).setIfInBounds 9 (.slice (some ⟨(W.heap.size + 1 + 1 + 1), 0, none⟩) 1 1)).setIfInBounds 7 (.slice (some ⟨(W.heap.size + 1 + 1 + 1 + 1), 0, none⟩) 1 1)).setIfInBounds 10 (.string ⟨#[122, 111, 110, 101]⟩)).setIfInBounds 11 (.slice (some ⟨(W.heap.size + 1 + 1 + 1 + 1 + 1), 0, none⟩) 1 1)).setIfInBounds 25 (.string ⟨#[122, 111, 110, 101]⟩)).setIfInBounds 26 (.slice (some ⟨(W.heap.size + 1 + 1 + 1 + 1 + 1), 0, none⟩) 1 1)).setIfInBounds 27 (.string ⟨#[122, 111, 110, 101]⟩)).setIfInBounds 28 (.slice (some ⟨(W.heap.size + 1 + 1 + 1 + 1 + 1), 0, none⟩) 1 1)), ?_, ?_⟩
      · repeat' (with_reducible (first | refine Blk.alloc ?_ _ | refine Blk.set_ ?_ _ _ | refine Blk.far ?_ ?_ _ | exact Hp.out))
        all_goals (simp only; omega)
      · simp only [take_setIf]
        rw [Hpt.out]
        rfl
    · refine Blk.cast (cs := #[.string ⟨#[103, 112, 117]⟩, .string ⟨#[120]⟩, .string ⟨#[111, 108, 100]⟩, .string ⟨#[121]⟩]) ?_ rfl
      repeat' (with_reducible (first | refine Blk.at_ _ _ _ _ ?_ | refine Blk.alloc ?_ _))
      all_goals (simp [World.setCell])
    · refine Blk.cast (cs := #[.int .i64 1, .string ⟨#[122, 111, 110, 101]⟩, .string ⟨#[121]⟩]) ?_ rfl
      repeat' (with_reducible (first | refine Blk.at_ _ _ _ _ ?_ | refine Blk.alloc ?_ _))
      all_goals (simp [World.setCell])
    · refine Blk.cast (cs := #[.string ⟨#[103, 112, 117]⟩, .string ⟨#[42]⟩]) ?_ rfl
      repeat' (with_reducible (first | refine Blk.at_ _ _ _ _ ?_ | refine Blk.alloc ?_ _))
      all_goals (simp [World.setCell])
    · refine Blk.cast (cs := #[.string ⟨#[97, 112, 112]⟩, .string ⟨#[120]⟩]) ?_ rfl
      repeat' (with_reducible (first | refine Blk.at_ _ _ _ _ ?_ | refine Blk.alloc ?_ _))
      all_goals (simp [World.setCell])
    · refine Blk.cast (cs := #[.int .i64 1, .string ⟨#[97, 112, 112]⟩, .string ⟨#[120]⟩]) ?_ rfl
      repeat' (with_reducible (first | refine Blk.at_ _ _ _ _ ?_ | refine Blk.alloc ?_ _))
      all_goals (simp [World.setCell])
  intro hV
  revert hV
  clear p7 p8 p9 p10 p11 p25 p26 p27 p28 fp fn fo cn co
  generalize (World.alloc _ _) = V
  intro hV
  obtain ⟨hBV, hS, hp0, hN⟩ := hV
  have hAt := names_at hN
  have s0 := hS.cell 0
  have s1 := hS.cell 1
  have s2 := hS.cell 2
  have iS := hS.ltb
  simp at s0 s1 s2
  have HBV := hide hBV
  have Hp0 := hide hp0
  clear hBV hS hp0 hN Hch HBw Hp Hpt E4 E5 E6 E7 E8 E9
  have A0 := hide (fun P V' (hW : Below V.heap.size V V') (hb : Blk V' P 3 ([0, 0, 0].map (Value.int .i64)).toArray) => byB_ok (s := (namesS bn b1 b2 bp cp bo (W.heap.size + 1) (W.heap.size + 1 + 1) (W.heap.size + 1 + 1 + 1) (W.heap.size + 1 + 1 + 1 + 1) (W.heap.size + 1 + 1 + 1 + 1 + 1))) (c := ⟨1, 0, 0, 15⟩) (b := true) (hAt.below hW) (ints_blk hb (by simp)) (by kernel_rfl))
  have A1 := hide (fun P V' (hW : Below V.heap.size V V') (hb : Blk V' P 3 ([0, 0, 0].map (Value.int .i64)).toArray) => byB_ok (s := (namesS bn b1 b2 bp cp bo (W.heap.size + 1) (W.heap.size + 1 + 1) (W.heap.size + 1 + 1 + 1) (W.heap.size + 1 + 1 + 1 + 1) (W.heap.size + 1 + 1 + 1 + 1 + 1))) (c := ⟨1, 1, 0, 0⟩) (b := true) (hAt.below hW) (ints_blk hb (by simp)) (by kernel_rfl))
  have A2 := hide (fun P V' (hW : Below V.heap.size V V') (hb : Blk V' P 3 ([0, 0, 0].map (Value.int .i64)).toArray) => byB_ok (s := (namesS bn b1 b2 bp cp bo (W.heap.size + 1) (W.heap.size + 1 + 1) (W.heap.size + 1 + 1 + 1) (W.heap.size + 1 + 1 + 1 + 1) (W.heap.size + 1 + 1 + 1 + 1 + 1))) (c := ⟨2, 0, 0, 1⟩) (b := true) (hAt.below hW) (ints_blk hb (by simp)) (by kernel_rfl))
  have A3 := hide (fun P V' (hW : Below V.heap.size V V') (hb : Blk V' P 3 ([0, 0, 0].map (Value.int .i64)).toArray) => byB_ok (s := (namesS bn b1 b2 bp cp bo (W.heap.size + 1) (W.heap.size + 1 + 1) (W.heap.size + 1 + 1 + 1) (W.heap.size + 1 + 1 + 1 + 1) (W.heap.size + 1 + 1 + 1 + 1 + 1))) (c := ⟨3, 0, 0, 1⟩) (b := true) (hAt.below hW) (ints_blk hb (by simp)) (by kernel_rfl))
  have A4 := hide (fun P V' (hW : Below V.heap.size V V') (hb : Blk V' P 3 ([0, 0, 0].map (Value.int .i64)).toArray) => byB_ok (s := (namesS bn b1 b2 bp cp bo (W.heap.size + 1) (W.heap.size + 1 + 1) (W.heap.size + 1 + 1 + 1) (W.heap.size + 1 + 1 + 1 + 1) (W.heap.size + 1 + 1 + 1 + 1 + 1))) (c := ⟨3, 1, 0, 2⟩) (b := true) (hAt.below hW) (ints_blk hb (by simp)) (by kernel_rfl))
  have A5 := hide (fun P V' (hW : Below V.heap.size V V') (hb : Blk V' P 3 ([0, 0, 0].map (Value.int .i64)).toArray) => byB_ok (s := (namesS bn b1 b2 bp cp bo (W.heap.size + 1) (W.heap.size + 1 + 1) (W.heap.size + 1 + 1 + 1) (W.heap.size + 1 + 1 + 1 + 1) (W.heap.size + 1 + 1 + 1 + 1 + 1))) (c := ⟨4, 0, 0, 0⟩) (b := true) (hAt.below hW) (ints_blk hb (by simp)) (by kernel_rfl))
  have A6 := hide (fun P V' (hW : Below V.heap.size V V') (hb : Blk V' P 3 ([0, 0, 0].map (Value.int .i64)).toArray) => byB_ok (s := (namesS bn b1 b2 bp cp bo (W.heap.size + 1) (W.heap.size + 1 + 1) (W.heap.size + 1 + 1 + 1) (W.heap.size + 1 + 1 + 1 + 1) (W.heap.size + 1 + 1 + 1 + 1 + 1))) (c := ⟨4, 1, 0, 0⟩) (b := true) (hAt.below hW) (ints_blk hb (by simp)) (by kernel_rfl))
  have A7 := hide (fun P V' (hW : Below V.heap.size V V') (hb : Blk V' P 3 ([0, 0, 0].map (Value.int .i64)).toArray) => byB_ok (s := (namesS bn b1 b2 bp cp bo (W.heap.size + 1) (W.heap.size + 1 + 1) (W.heap.size + 1 + 1 + 1) (W.heap.size + 1 + 1 + 1 + 1) (W.heap.size + 1 + 1 + 1 + 1 + 1))) (c := ⟨5, 1, 0, 1⟩) (b := true) (hAt.below hW) (ints_blk hb (by simp)) (by kernel_rfl))
  have A8 := hide (fun P V' (hW : Below V.heap.size V V') (hb : Blk V' P 3 ([0, 0, 0].map (Value.int .i64)).toArray) => byB_ok (s := (namesS bn b1 b2 bp cp bo (W.heap.size + 1) (W.heap.size + 1 + 1) (W.heap.size + 1 + 1 + 1) (W.heap.size + 1 + 1 + 1 + 1) (W.heap.size + 1 + 1 + 1 + 1 + 1))) (c := ⟨6, 2, 0, 2⟩) (b := true) (hAt.below hW) (ints_blk hb (by simp)) (by kernel_rfl))
  have A9 := hide (fun P V' (hW : Below V.heap.size V V') (hb : Blk V' P 3 ([0, 0, 0].map (Value.int .i64)).toArray) => byB_ok (s := (namesS bn b1 b2 bp cp bo (W.heap.size + 1) (W.heap.size + 1 + 1) (W.heap.size + 1 + 1 + 1) (W.heap.size + 1 + 1 + 1 + 1) (W.heap.size + 1 + 1 + 1 + 1 + 1))) (c := ⟨7, 0, 0, 2⟩) (b := true) (hAt.below hW) (ints_blk hb (by simp)) (by kernel_rfl))
  have A10 := hide (fun P V' (hW : Below V.heap.size V V') (hb : Blk V' P 3 ([0, 0, 0].map (Value.int .i64)).toArray) => byB_ok (s := (namesS bn b1 b2 bp cp bo (W.heap.size + 1) (W.heap.size + 1 + 1) (W.heap.size + 1 + 1 + 1) (W.heap.size + 1 + 1 + 1 + 1) (W.heap.size + 1 + 1 + 1 + 1 + 1))) (c := ⟨8, 0, 0, 0⟩) (b := true) (hAt.below hW) (ints_blk hb (by simp)) (by kernel_rfl))
  have C0 := hide (fun P V' (hW : Below V.heap.size V V') (hb : Blk V' P 3 ([2, 1, -1].map (Value.int .i64)).toArray) => byB_ok (s := (namesS bn b1 b2 bp cp bo (W.heap.size + 1) (W.heap.size + 1 + 1) (W.heap.size + 1 + 1 + 1) (W.heap.size + 1 + 1 + 1 + 1) (W.heap.size + 1 + 1 + 1 + 1 + 1))) (c := ⟨4, 0, 0, 1⟩) (b := true) (hAt.below hW) (ints_blk hb (by simp)) (by kernel_rfl))
  have C1 := hide (fun P V' (hW : Below V.heap.size V V') (hb : Blk V' P 3 ([2, 1, -1].map (Value.int .i64)).toArray) => byB_ok (s := (namesS bn b1 b2 bp cp bo (W.heap.size + 1) (W.heap.size + 1 + 1) (W.heap.size + 1 + 1 + 1) (W.heap.size + 1 + 1 + 1 + 1) (W.heap.size + 1 + 1 + 1 + 1 + 1))) (c := ⟨4, 1, 0, 1⟩) (b := true) (hAt.below hW) (ints_blk hb (by simp)) (by kernel_rfl))
  have C2 := hide (fun P V' (hW : Below V.heap.size V V') (hb : Blk V' P 3 ([2, 1, -1].map (Value.int .i64)).toArray) => byB_ok (s := (namesS bn b1 b2 bp cp bo (W.heap.size + 1) (W.heap.size + 1 + 1) (W.heap.size + 1 + 1 + 1) (W.heap.size + 1 + 1 + 1 + 1) (W.heap.size + 1 + 1 + 1 + 1 + 1))) (c := ⟨5, 1, 0, 0⟩) (b := true) (hAt.below hW) (ints_blk hb (by simp)) (by kernel_rfl))
  have C3 := hide (fun P V' (hW : Below V.heap.size V V') (hb : Blk V' P 3 ([2, 1, -1].map (Value.int .i64)).toArray) => byB_ok (s := (namesS bn b1 b2 bp cp bo (W.heap.size + 1) (W.heap.size + 1 + 1) (W.heap.size + 1 + 1 + 1) (W.heap.size + 1 + 1 + 1 + 1) (W.heap.size + 1 + 1 + 1 + 1 + 1))) (c := ⟨7, 0, 0, 0⟩) (b := true) (hAt.below hW) (ints_blk hb (by simp)) (by kernel_rfl))
  have C4 := hide (fun P V' (hW : Below V.heap.size V V') (hb : Blk V' P 3 ([2, 1, -1].map (Value.int .i64)).toArray) => byB_ok (s := (namesS bn b1 b2 bp cp bo (W.heap.size + 1) (W.heap.size + 1 + 1) (W.heap.size + 1 + 1 + 1) (W.heap.size + 1 + 1 + 1 + 1) (W.heap.size + 1 + 1 + 1 + 1 + 1))) (c := ⟨8, 0, 0, 1⟩) (b := true) (hAt.below hW) (ints_blk hb (by simp)) (by kernel_rfl))
  have D0 := hide (fun P V' (hW : Below V.heap.size V V') (hb : Blk V' P 3 ([0].map (Value.int .i64)).toArray) => (clauseAll_ok (namesS bn b1 b2 bp cp bo (W.heap.size + 1) (W.heap.size + 1 + 1) (W.heap.size + 1 + 1 + 1) (W.heap.size + 1 + 1 + 1 + 1) (W.heap.size + 1 + 1 + 1 + 1 + 1)) ⟨some ⟨P, 0, none⟩, 1, [0]⟩ V' (hAt.below hW) (ints_blk hb (by simp))).mono (fun e w' h => (show GivesCs [] 2 V' e w' from h)))
  have E0 := hide (fun P V' (hW : Below V.heap.size V V') (hb : Blk V' P 3 ([0, 0, 0].map (Value.int .i64)).toArray) => ofB_ok (s := (namesS bn b1 b2 bp cp bo (W.heap.size + 1) (W.heap.size + 1 + 1) (W.heap.size + 1 + 1 + 1) (W.heap.size + 1 + 1 + 1 + 1) (W.heap.size + 1 + 1 + 1 + 1 + 1))) (k := 8) (a := 0) (b := 1) (r := (0, false)) (hAt.below hW) (ints_blk hb (by simp)) (by kernel_rfl))
  have E1 := hide (fun P V' (hW : Below V.heap.size V V') (hb : Blk V' P 3 ([0, 0, 0].map (Value.int .i64)).toArray) => ofB_ok (s := (namesS bn b1 b2 bp cp bo (W.heap.size + 1) (W.heap.size + 1 + 1) (W.heap.size + 1 + 1 + 1) (W.heap.size + 1 + 1 + 1 + 1) (W.heap.size + 1 + 1 + 1 + 1 + 1))) (k := 1) (a := 0) (b := 5) (r := (0, false)) (hAt.below hW) (ints_blk hb (by simp)) (by kernel_rfl))
  have E2 := hide (fun P V' (hW : Below V.heap.size V V') (hb : Blk V' P 3 ([0, 0, 0].map (Value.int .i64)).toArray) => ofB_ok (s := (namesS bn b1 b2 bp cp bo (W.heap.size + 1) (W.heap.size + 1 + 1) (W.heap.size + 1 + 1 + 1) (W.heap.size + 1 + 1 + 1 + 1) (W.heap.size + 1 + 1 + 1 + 1 + 1))) (k := 9) (a := 0) (b := 0) (r := (0, false)) (hAt.below hW) (ints_blk hb (by simp)) (by kernel_rfl))
  have F0 := hide (fun P V' (hW : Below V.heap.size V V') (hb : Blk V' P 3 ([2, 1, -1].map (Value.int .i64)).toArray) => podB_ok (s := (namesS bn b1 b2 bp cp bo (W.heap.size + 1) (W.heap.size + 1 + 1) (W.heap.size + 1 + 1 + 1) (W.heap.size + 1 + 1 + 1 + 1) (W.heap.size + 1 + 1 + 1 + 1 + 1))) (i := 2) (l := []) (hAt.below hW) (ints_blk hb (by simp)) (by kernel_rfl))
  have F1 := hide (fun P V' (hW : Below V.heap.size V V') (hb : Blk V' P 3 ([2, 1, -1].map (Value.int .i64)).toArray) => podB_ok (s := (namesS bn b1 b2 bp cp bo (W.heap.size + 1) (W.heap.size + 1 + 1) (W.heap.size + 1 + 1 + 1) (W.heap.size + 1 + 1 + 1 + 1) (W.heap.size + 1 + 1 + 1 + 1 + 1))) (i := -1) (l := []) (hAt.below hW) (ints_blk hb (by simp)) (by kernel_rfl))
  have F2 := hide (fun P V' (hW : Below V.heap.size V V') (hb : Blk V' P 3 ([2, 1, -1].map (Value.int .i64)).toArray) => podB_ok (s := (namesS bn b1 b2 bp cp bo (W.heap.size + 1) (W.heap.size + 1 + 1) (W.heap.size + 1 + 1 + 1) (W.heap.size + 1 + 1 + 1 + 1) (W.heap.size + 1 + 1 + 1 + 1 + 1))) (i := 3) (l := []) (hAt.below hW) (ints_blk hb (by simp)) (by kernel_rfl))
  clear hAt
  simp only [Snap.val, SL.val, Clause.val, pairB, namesS, namesNs, namesPs, List.length_cons, List.length_nil] at *
  refine (calls_gr (A0.out _ _ (by repeat' (first | exact Below.refl _ _ | assumption | refine b_gr ?_ _ | refine b_alloc ?_ _ | refine b_drew ?_)) (by repeat' (first | exact Hq.out | exact Hp0.out | exact Blk.new _ _ _ | exact Blk.at_ _ _ _ _ (by simp) | apply Blk.gr | apply Blk.alloc)))).mono ?_
  rintro e x0 ⟨rfl, g0, rfl⟩
  clear A0
  go_wp2_with fail
  refine (quiet_call (A1.out _ _ (by repeat' (first | exact Below.refl _ _ | assumption | refine b_gr ?_ _ | refine b_alloc ?_ _ | refine b_drew ?_)) (by repeat' (first | exact Hq.out | exact Hp0.out | exact Blk.new _ _ _ | exact Blk.at_ _ _ _ _ (by simp) | apply Blk.gr | apply Blk.alloc)))).mono ?_
  rintro e x1 ⟨rfl, g1, rfl⟩
  clear A1
  go_wp2_with fail
  refine (quiet_call (A2.out _ _ (by repeat' (first | exact Below.refl _ _ | assumption | refine b_gr ?_ _ | refine b_alloc ?_ _ | refine b_drew ?_)) (by repeat' (first | exact Hq.out | exact Hp0.out | exact Blk.new _ _ _ | exact Blk.at_ _ _ _ _ (by simp) | apply Blk.gr | apply Blk.alloc)))).mono ?_
  rintro e x2 ⟨rfl, g2, rfl⟩
  clear A2
  go_wp2_with fail
  refine (quiet_call (A3.out _ _ (by repeat' (first | exact Below.refl _ _ | assumption | refine b_gr ?_ _ | refine b_alloc ?_ _ | refine b_drew ?_)) (by repeat' (first | exact Hq.out | exact Hp0.out | exact Blk.new _ _ _ | exact Blk.at_ _ _ _ _ (by simp) | apply Blk.gr | apply Blk.alloc)))).mono ?_
  rintro e x3 ⟨rfl, g3, rfl⟩
  clear A3
  go_wp2_with fail
  refine (quiet_call (A4.out _ _ (by repeat' (first | exact Below.refl _ _ | assumption | refine b_gr ?_ _ | refine b_alloc ?_ _ | refine b_drew ?_)) (by repeat' (first | exact Hq.out | exact Hp0.out | exact Blk.new _ _ _ | exact Blk.at_ _ _ _ _ (by simp) | apply Blk.gr | apply Blk.alloc)))).mono ?_
  rintro e x4 ⟨rfl, g4, rfl⟩
  clear A4
  go_wp2_with fail
  refine (quiet_call (A5.out _ _ (by repeat' (first | exact Below.refl _ _ | assumption | refine b_gr ?_ _ | refine b_alloc ?_ _ | refine b_drew ?_)) (by repeat' (first | exact Hq.out | exact Hp0.out | exact Blk.new _ _ _ | exact Blk.at_ _ _ _ _ (by simp) | apply Blk.gr | apply Blk.alloc)))).mono ?_
  rintro e x5 ⟨rfl, g5, rfl⟩
  clear A5
  go_wp2_with fail
  refine (quiet_call (A6.out _ _ (by repeat' (first | exact Below.refl _ _ | assumption | refine b_gr ?_ _ | refine b_alloc ?_ _ | refine b_drew ?_)) (by repeat' (first | exact Hq.out | exact Hp0.out | exact Blk.new _ _ _ | exact Blk.at_ _ _ _ _ (by simp) | apply Blk.gr | apply Blk.alloc)))).mono ?_
  rintro e x6 ⟨rfl, g6, rfl⟩
  clear A6
  go_wp2_with fail
  refine (quiet_call (A7.out _ _ (by repeat' (first | exact Below.refl _ _ | assumption | refine b_gr ?_ _ | refine b_alloc ?_ _ | refine b_drew ?_)) (by repeat' (first | exact Hq.out | exact Hp0.out | exact Blk.new _ _ _ | exact Blk.at_ _ _ _ _ (by simp) | apply Blk.gr | apply Blk.alloc)))).mono ?_
  rintro e x7 ⟨rfl, g7, rfl⟩
  clear A7
  go_wp2_with fail
  refine (quiet_call (A8.out _ _ (by repeat' (first | exact Below.refl _ _ | assumption | refine b_gr ?_ _ | refine b_alloc ?_ _ | refine b_drew ?_)) (by repeat' (first | exact Hq.out | exact Hp0.out | exact Blk.new _ _ _ | exact Blk.at_ _ _ _ _ (by simp) | apply Blk.gr | apply Blk.alloc)))).mono ?_
  rintro e x8 ⟨rfl, g8, rfl⟩
  clear A8
  go_wp2_with fail
  refine (quiet_call (A9.out _ _ (by repeat' (first | exact Below.refl _ _ | assumption | refine b_gr ?_ _ | refine b_alloc ?_ _ | refine b_drew ?_)) (by repeat' (first | exact Hq.out | exact Hp0.out | exact Blk.new _ _ _ | exact Blk.at_ _ _ _ _ (by simp) | apply Blk.gr | apply Blk.alloc)))).mono ?_
  rintro e x9 ⟨rfl, g9, rfl⟩
  clear A9
  go_wp2_with fail
  refine (quiet_call (A10.out _ _ (by repeat' (first | exact Below.refl _ _ | assumption | refine b_gr ?_ _ | refine b_alloc ?_ _ | refine b_drew ?_)) (by repeat' (first | exact Hq.out | exact Hp0.out | exact Blk.new _ _ _ | exact Blk.at_ _ _ _ _ (by simp) | apply Blk.gr | apply Blk.alloc)))).mono ?_
  rintro e x10 ⟨rfl, g10, rfl⟩
  clear A10
  go_wp2_with fail
  refine (calls_gr (C0.out _ _ (by repeat' (first | exact Below.refl _ _ | assumption | refine b_gr ?_ _ | refine b_alloc ?_ _ | refine b_drew ?_)) (by repeat' (first | exact Hq.out | exact Hp0.out | exact Blk.new _ _ _ | exact Blk.at_ _ _ _ _ (by simp) | apply Blk.gr | apply Blk.alloc)))).mono ?_
  rintro e x11 ⟨rfl, g11, rfl⟩
  clear C0
  go_wp2_with fail
  refine (quiet_call (C1.out _ _ (by repeat' (first | exact Below.refl _ _ | assumption | refine b_gr ?_ _ | refine b_alloc ?_ _ | refine b_drew ?_)) (by repeat' (first | exact Hq.out | exact Hp0.out | exact Blk.new _ _ _ | exact Blk.at_ _ _ _ _ (by simp) | apply Blk.gr | apply Blk.alloc)))).mono ?_
  rintro e x12 ⟨rfl, g12, rfl⟩
  clear C1
  go_wp2_with fail
  refine (quiet_call (C2.out _ _ (by repeat' (first | exact Below.refl _ _ | assumption | refine b_gr ?_ _ | refine b_alloc ?_ _ | refine b_drew ?_)) (by repeat' (first | exact Hq.out | exact Hp0.out | exact Blk.new _ _ _ | exact Blk.at_ _ _ _ _ (by simp) | apply Blk.gr | apply Blk.alloc)))).mono ?_
  rintro e x13 ⟨rfl, g13, rfl⟩
  clear C2
  go_wp2_with fail
  refine (quiet_call (C3.out _ _ (by repeat' (first | exact Below.refl _ _ | assumption | refine b_gr ?_ _ | refine b_alloc ?_ _ | refine b_drew ?_)) (by repeat' (first | exact Hq.out | exact Hp0.out | exact Blk.new _ _ _ | exact Blk.at_ _ _ _ _ (by simp) | apply Blk.gr | apply Blk.alloc)))).mono ?_
  rintro e x14 ⟨rfl, g14, rfl⟩
  clear C3
  go_wp2_with fail
  refine (quiet_call (C4.out _ _ (by repeat' (first | exact Below.refl _ _ | assumption | refine b_gr ?_ _ | refine b_alloc ?_ _ | refine b_drew ?_)) (by repeat' (first | exact Hq.out | exact Hp0.out | exact Blk.new _ _ _ | exact Blk.at_ _ _ _ _ (by simp) | apply Blk.gr | apply Blk.alloc)))).mono ?_
  rintro e x15 ⟨rfl, g15, rfl⟩
  clear C4
  go_wp2_with fail
  refine (D0.out _ _ (by repeat' (first | exact Below.refl _ _ | assumption | refine b_gr ?_ _ | refine b_alloc ?_ _ | refine b_drew ?_)) (by repeat' (first | exact Hq.out | exact Hp0.out | exact Blk.new _ _ _ | exact Blk.at_ _ _ _ _ (by simp) | apply Blk.gr | apply Blk.alloc))).mono ?_
  rintro e xd ⟨r, hr, rfl, hat, hbd⟩
  obtain ⟨gd, rfl⟩ := to_gr hbd
  clear hat hr hbd D0
  simp only [SL.val]
  go_wp2_with fail
  refine (calls_gr (E0.out _ _ (by repeat' (first | exact Below.refl _ _ | assumption | refine b_gr ?_ _ | refine b_alloc ?_ _ | refine b_drew ?_)) (by repeat' (first | exact Hq.out | exact Hp0.out | exact Blk.new _ _ _ | exact Blk.at_ _ _ _ _ (by simp) | apply Blk.gr | apply Blk.alloc)))).mono ?_
  rintro e x16 ⟨rfl, g16, rfl⟩
  clear E0
  go_wp2_with fail
  refine (quiet_call (E1.out _ _ (by repeat' (first | exact Below.refl _ _ | assumption | refine b_gr ?_ _ | refine b_alloc ?_ _ | refine b_drew ?_)) (by repeat' (first | exact Hq.out | exact Hp0.out | exact Blk.new _ _ _ | exact Blk.at_ _ _ _ _ (by simp) | apply Blk.gr | apply Blk.alloc)))).mono ?_
  rintro e x17 ⟨rfl, g17, rfl⟩
  clear E1
  go_wp2_with fail
  refine (quiet_call (E2.out _ _ (by repeat' (first | exact Below.refl _ _ | assumption | refine b_gr ?_ _ | refine b_alloc ?_ _ | refine b_drew ?_)) (by repeat' (first | exact Hq.out | exact Hp0.out | exact Blk.new _ _ _ | exact Blk.at_ _ _ _ _ (by simp) | apply Blk.gr | apply Blk.alloc)))).mono ?_
  rintro e x18 ⟨rfl, g18, rfl⟩
  clear E2
  go_wp2_with fail
  refine (quiet_call (HW.out _)).mono ?_
  rintro e xw ⟨rfl, gw, rfl⟩
  clear HW
  go_wp2_with fail
  refine (F0.out _ _ (by repeat' (first | exact Below.refl _ _ | assumption | refine b_gr ?_ _ | refine b_alloc ?_ _ | refine b_drew ?_)) (by repeat' (first | exact Hq.out | exact Hp0.out | exact Blk.new _ _ _ | exact Blk.at_ _ _ _ _ (by simp) | apply Blk.gr | apply Blk.alloc))).mono ?_
  rintro e xf0 ⟨⟨ra0, rc0, rl0⟩, hr, rfl, hat, hbf⟩
  simp only at hr
  subst hr
  obtain ⟨gf0, rfl⟩ := to_gr hbf
  clear hat hbf F0
  simp only [SL.val, List.length_nil]
  go_wp2_with fail
  refine (F1.out _ _ (by repeat' (first | exact Below.refl _ _ | assumption | refine b_gr ?_ _ | refine b_alloc ?_ _ | refine b_drew ?_)) (by repeat' (first | exact Hq.out | exact Hp0.out | exact Blk.new _ _ _ | exact Blk.at_ _ _ _ _ (by simp) | apply Blk.gr | apply Blk.alloc))).mono ?_
  rintro e xf1 ⟨⟨ra1, rc1, rl1⟩, hr, rfl, hat, hbf⟩
  simp only at hr
  subst hr
  obtain ⟨gf1, rfl⟩ := to_gr hbf
  clear hat hbf F1
  simp only [SL.val, List.length_nil]
  go_wp2_with fail
  refine (F2.out _ _ (by repeat' (first | exact Below.refl _ _ | assumption | refine b_gr ?_ _ | refine b_alloc ?_ _ | refine b_drew ?_)) (by repeat' (first | exact Hq.out | exact Hp0.out | exact Blk.new _ _ _ | exact Blk.at_ _ _ _ _ (by simp) | apply Blk.gr | apply Blk.alloc))).mono ?_
  rintro e xf2 ⟨⟨ra2, rc2, rl2⟩, hr, rfl, hat, hbf⟩
  simp only at hr
  subst hr
  obtain ⟨gf2, rfl⟩ := to_gr hbf
  clear hat hbf F2
  simp only [SL.val, List.length_nil]
  go_wp2_with fail
  go_ret
  exact ⟨rfl, b_then HBV.out (by repeat' (first | exact Below.refl _ _ | assumption | refine b_gr ?_ _ | refine b_alloc ?_ _ | refine b_drew ?_))⟩
end Go.Proofs.YtnjjdilmaepokaaGreat
namespace Go.Proofs.YtnjjdilmaepokaaGreat.clauseNames
open Go.ChangeShapes Go.WideShapes Go.ChangeAt Go.RowKit
set_option linter.unusedVariables false      -- a walk need not use every 'w<i>' (that an integer argument fits its kind)

theorem own : ownKnob Tryz.prog.godebug = none := by kernel_rfl

/-! ### THE ROW's STEP: WRITTEN OUT: LEAVE IT -/
set_option maxRecDepth 100000 in
theorem lifted (os : Os) (started : os.Started) (H : Type) (enc : TypeId × Value → H) :
    ReturnsInHanded {} Tryz.checked os 3 .any (Rows.clauseNamesSpec.pre6 enc Tryz.prog Tryz.f3 Rows.clauseNamesRow.domain false) (Rows.clauseNamesSpec.post enc Tryz.prog Tryz.f3 false true false false) := by
  refine returnsInHanded_of_change (C := Tryz.checked) own started (by kernel_rfl) Tryz.func3
    (ChangeSpec.witness6 (enc := enc) (C := Tryz.checked) false ⟨#[], #[], []⟩ 8 (by kernel_rfl) (by kernel_rfl) (by kernel_rfl) (by kernel_rfl)) ?_
  intro W base args ds gs before hval0 hW hcnd _
  have hval : ∀ (j : Nat) t v, Tryz.f3.params[j]? = some t → args[j]? = some v → Value.okWide Tryz.prog W .any base t v := hval0
  have hW' := hW
  obtain ⟨p, q, hA0, hV, rfl, hfz, hnd⟩ := hW
  have hA : DataW.TrodAll enc Tryz.prog W 0 (fun _ => true) true Tryz.f3.params.toList args.toList ds p := hA0
  rw [Tryz.params3] at hA hval
  obtain ⟨rfl, rfl, rfl⟩ := trodAll_none hA
  obtain ⟨rfl, rfl⟩ := trodVars_none hV
  clear hA0 hval0
  simp only [List.append_nil] at hW'
  refine (names08_ok W).mono fun e W' ⟨he, hg⟩ => ?_
  subst he
  exact ⟨_, rfl, post_below (pa := []) (pv := []) hW' (fun _ _ _ => (trodAll_cons_mk (shut_bool Tryz.underlying4 _) trodAll_mk0)) (fun sp _ => rfl) (fun _ _ => rfl) rfl
    hg (ok_one (by kernel_rfl) rfl (okWide_bool_mk Tryz.underlying4 _))⟩

theorem over : Rows.clauseNamesRow.holds Tryz.pinned (OpenSpec.ofChange Rows.clauseNamesSpec) :=
  OpenClaim.holds_of_wide 3 Tryz.f3 rfl rfl rfl rfl rfl rfl rfl ⟨rfl, rfl, rfl, rfl, rfl⟩ rfl rfl rfl rfl rfl (by kernel_rfl) Tryz.func3 (by kernel_rfl)
    (of_decide_eq_true (by kernel_rfl)) (by unfold Func.isWrapper; first | (rw [if_pos (by decide +kernel)]; kernel_rfl) | (rw [if_neg (by decide +kernel)]; exact ⟨rfl, rfl⟩))
    (fun os started H enc _ => lifted os started H enc)

/-- ████ THE STATEMENT ████ -/
theorem proved : Rows.ClauseNamesSaid :=
  over
#print axioms proved
end Go.Proofs.YtnjjdilmaepokaaGreat.clauseNames
namespace Go.Proofs.YtnjjdilmaepokaaGreat
theorem clauseNames_holds : Rows.ClauseNamesSaid := clauseNames.proved
end Go.Proofs.YtnjjdilmaepokaaGreat
