/-
  No cell of these rows narrows 'for every input' (looked for: loops, veiled, ifaces, maps, wideKeys, modest, calm, conditions, laid).
  DERIVED. THE GIVEN ROWS OF THIS SEAT. 6 by the template 'for every input the law returns true; each argument reads behind the call as it read before'; 0 by the template 'total and deterministic' (their statements: YtnjjdilmaepokaaGreatTotals.lean).
  GIVEN WITH THE SEED: the statements are not yours to turn. If you find one false, say at which input.
  Laid BY PROGRAM, IN A SANDBOX (cutbox-rows.mjs): the forced cells as the released guide's own fill.sh prints them over the translation 7eb44d742efedb24… (all of the seat's roots in one cut). By AI agents, Wed Nov 11 2026. No macro, syntax, notation, axiom, sorry.
-/
import Derived.Test.YtnjjdilmaepokaaGreatChecked
import GoSem.Claim
import GoSem.ClaimJoined
import GoSem.ClaimMapViews
import Derived.JoinedTies
import Derived.KernelRfl
namespace Go.Proofs.YtnjjdilmaepokaaGreat
/- THE CELL 'sum', in the pinned program and in every row, IS THE sha256 OF THE DUMP (.gsa) THAT YtnjjdilmaepokaaGreatProg.lean LOADS. Nothing in Lean hashes anything: it is a label: what it is worth is what the hold of that sum in a sandbox is worth. -/
noncomputable def Tryz.pinned : Pinned := { name := "ytnjjdilmaepokaagreat", sum := "7eb44d742efedb248415da823da677169ff7aabd3fea444bf646d70102e9972f", checked := Tryz.checked }
namespace Rows
def none {H : Type} : Left H := { results := [], args := [] }

/-- 'drayagelaw08.ClauseNames': WHATEVER THE INPUT: true; the input reads as it did. -/
def clauseNamesSpec : ChangeSpec := { name := "clauseNames", fn := fun _ => fun
  | [] => { results := [.lit (.bool true)], args := [] }
  | _ => none }
def clauseNamesRow : OpenClaim := { program := "ytnjjdilmaepokaagreat", sum := "7eb44d742efedb248415da823da677169ff7aabd3fea444bf646d70102e9972f", func := "drayage/drayagelaw08.ClauseNames", spec := "clauseNames", inPlace := ["internal/bytealg.abigen_runtime_cmpstring"], unfollowed := true, recurses := true, plainKeys := false, apart := false }
def ClauseNamesSaid : Prop := clauseNamesRow.holds Tryz.pinned (OpenSpec.ofChange clauseNamesSpec)

/-- ITS FALSE NEIGHBOUR: 'it returns false'. Refute it at one input. -/
def clauseNamesWrong : ChangeSpec := { name := "clauseNames", fn := fun _ => fun
  | [] => { results := [.lit (.bool false)], args := [] }
  | _ => none }
def ClauseNamesWrongFalsely : Prop := clauseNamesRow.holds Tryz.pinned (OpenSpec.ofChange clauseNamesWrong)

/-- 'drayagelaw08.ClauseOff': WHATEVER THE INPUT: true; the input reads as it did. -/
def clauseOffSpec : ChangeSpec := { name := "clauseOff", fn := fun _ => fun
  | [d1, d2] => { results := [.lit (.bool true)], args := [d1, d2] }
  | _ => none }
def clauseOffRow : OpenClaim := { program := "ytnjjdilmaepokaagreat", sum := "7eb44d742efedb248415da823da677169ff7aabd3fea444bf646d70102e9972f", func := "drayage/drayagelaw08.ClauseOff", spec := "clauseOff", inPlace := ["internal/bytealg.abigen_runtime_cmpstring"], unfollowed := true, recurses := true, plainKeys := false, apart := false }
def ClauseOffSaid : Prop := clauseOffRow.holds Tryz.pinned (OpenSpec.ofChange clauseOffSpec)

/-- ITS FALSE NEIGHBOUR: 'it returns false'. Refute it at one input. -/
def clauseOffWrong : ChangeSpec := { name := "clauseOff", fn := fun _ => fun
  | [d1, d2] => { results := [.lit (.bool false)], args := [d1, d2] }
  | _ => none }
def ClauseOffWrongFalsely : Prop := clauseOffRow.holds Tryz.pinned (OpenSpec.ofChange clauseOffWrong)

/-- 'drayagelaw10.AdmitNear': WHATEVER THE INPUT: true; the input reads as it did. -/
def admitNearSpec : ChangeSpec := { name := "admitNear", fn := fun _ => fun
  | [d1, d2, d3] => { results := [.lit (.bool true)], args := [d1, d2, d3] }
  | _ => none }
def admitNearRow : OpenClaim := { program := "ytnjjdilmaepokaagreat", sum := "7eb44d742efedb248415da823da677169ff7aabd3fea444bf646d70102e9972f", func := "drayage/drayagelaw10.AdmitNear", spec := "admitNear", inPlace := ["internal/bytealg.abigen_runtime_cmpstring"], unfollowed := true, recurses := true, plainKeys := false, apart := false }
def AdmitNearSaid : Prop := admitNearRow.holds Tryz.pinned (OpenSpec.ofChange admitNearSpec)

/-- ITS FALSE NEIGHBOUR: 'it returns false'. Refute it at one input. -/
def admitNearWrong : ChangeSpec := { name := "admitNear", fn := fun _ => fun
  | [d1, d2, d3] => { results := [.lit (.bool false)], args := [d1, d2, d3] }
  | _ => none }
def AdmitNearWrongFalsely : Prop := admitNearRow.holds Tryz.pinned (OpenSpec.ofChange admitNearWrong)

/-- 'drayagelaw10.AdmitNames': WHATEVER THE INPUT: true; the input reads as it did. -/
def admitNamesSpec : ChangeSpec := { name := "admitNames", fn := fun _ => fun
  | [] => { results := [.lit (.bool true)], args := [] }
  | _ => none }
def admitNamesRow : OpenClaim := { program := "ytnjjdilmaepokaagreat", sum := "7eb44d742efedb248415da823da677169ff7aabd3fea444bf646d70102e9972f", func := "drayage/drayagelaw10.AdmitNames", spec := "admitNames", inPlace := ["internal/bytealg.abigen_runtime_cmpstring"], unfollowed := true, recurses := true, plainKeys := false, apart := false }
def AdmitNamesSaid : Prop := admitNamesRow.holds Tryz.pinned (OpenSpec.ofChange admitNamesSpec)

/-- ITS FALSE NEIGHBOUR: 'it returns false'. Refute it at one input. -/
def admitNamesWrong : ChangeSpec := { name := "admitNames", fn := fun _ => fun
  | [] => { results := [.lit (.bool false)], args := [] }
  | _ => none }
def AdmitNamesWrongFalsely : Prop := admitNamesRow.holds Tryz.pinned (OpenSpec.ofChange admitNamesWrong)

/-- 'drayagelaw10.AdmitKeeps': WHATEVER THE INPUT: true; the input reads as it did. -/
def admitKeepsSpec : ChangeSpec := { name := "admitKeeps", fn := fun _ => fun
  | [d1, d2, d3] => { results := [.lit (.bool true)], args := [d1, d2, d3] }
  | _ => none }
def admitKeepsRow : OpenClaim := { program := "ytnjjdilmaepokaagreat", sum := "7eb44d742efedb248415da823da677169ff7aabd3fea444bf646d70102e9972f", func := "drayage/drayagelaw10.AdmitKeeps", spec := "admitKeeps", inPlace := ["internal/bytealg.abigen_runtime_cmpstring"], unfollowed := true, recurses := true, plainKeys := false, apart := false }
def AdmitKeepsSaid : Prop := admitKeepsRow.holds Tryz.pinned (OpenSpec.ofChange admitKeepsSpec)

/-- ITS FALSE NEIGHBOUR: 'it returns false'. Refute it at one input. -/
def admitKeepsWrong : ChangeSpec := { name := "admitKeeps", fn := fun _ => fun
  | [d1, d2, d3] => { results := [.lit (.bool false)], args := [d1, d2, d3] }
  | _ => none }
def AdmitKeepsWrongFalsely : Prop := admitKeepsRow.holds Tryz.pinned (OpenSpec.ofChange admitKeepsWrong)

/-- 'drayagelaw10.AdmitBack': WHATEVER THE INPUT: true; the input reads as it did. -/
def admitBackSpec : ChangeSpec := { name := "admitBack", fn := fun _ => fun
  | [d1, d2] => { results := [.lit (.bool true)], args := [d1, d2] }
  | _ => none }
def admitBackRow : OpenClaim := { program := "ytnjjdilmaepokaagreat", sum := "7eb44d742efedb248415da823da677169ff7aabd3fea444bf646d70102e9972f", func := "drayage/drayagelaw10.AdmitBack", spec := "admitBack", inPlace := ["internal/bytealg.abigen_runtime_cmpstring"], unfollowed := true, recurses := true, plainKeys := false, apart := false }
def AdmitBackSaid : Prop := admitBackRow.holds Tryz.pinned (OpenSpec.ofChange admitBackSpec)

/-- ITS FALSE NEIGHBOUR: 'it returns false'. Refute it at one input. -/
def admitBackWrong : ChangeSpec := { name := "admitBack", fn := fun _ => fun
  | [d1, d2] => { results := [.lit (.bool false)], args := [d1, d2] }
  | _ => none }
def AdmitBackWrongFalsely : Prop := admitBackRow.holds Tryz.pinned (OpenSpec.ofChange admitBackWrong)

/- THE SECOND FORM. 'bulk': how many values and letters a reading holds, each counted each time it is reached (what is shared counts as often as it is met; a slice's spare places count too). A statement '..UptoSaid' is the law's where the arguments, and the package variables that the reading takes, are together of bulk at most 1048576: NARROWER than '..Said'. Prove '..Said' where nothing that the law and all that it calls make is longer than what came in: it says more and counts as full. Else prove '..UptoSaid'. A law counts once. -/
mutual
def uptoBulk {H : Type} : DataW H → Nat
  | .lit (.string bytes) => bytes.length + 1
  | .lit _ => 1
  | .nil => 1
  | .ptr d => uptoBulk d + 1
  | .slice elems spare => uptoBulkAll elems + uptoBulkAll spare + 1
  | .agg parts => uptoBulkAll parts + 1
  | .iface _ d => uptoBulk d + 1
  | .map entries => uptoBulkEntries entries + 1
  | .held _ => 1
def uptoBulkAll {H : Type} : List (DataW H) → Nat
  | [] => 0
  | d :: r => uptoBulk d + uptoBulkAll r
def uptoBulkEntries {H : Type} : List (Lit × DataW H) → Nat
  | [] => 0
  | x :: r => uptoBulkEntry x + uptoBulkEntries r
def uptoBulkEntry {H : Type} : Lit × DataW H → Nat
  | (.string bytes, d) => bytes.length + uptoBulk d + 1
  | (_, d) => uptoBulk d + 1
 end
def uptoSmall : (H : Type) → List (DataW H) → Bool := fun _ ds => decide (uptoBulkAll ds ≤ 1048576)
def OpenSpec.upto (s : _root_.Go.ChangeSpec) : _root_.Go.OpenSpec := { _root_.Go.OpenSpec.ofChange s with cond := some uptoSmall }

/-- 'drayagelaw08.ClauseNames', WHERE WHAT IT READS IS OF BULK AT MOST 1048576: true; the input reads as it did. -/
def clauseNamesUptoRow : OpenClaim := { program := "ytnjjdilmaepokaagreat", sum := "7eb44d742efedb248415da823da677169ff7aabd3fea444bf646d70102e9972f", func := "drayage/drayagelaw08.ClauseNames", spec := "clauseNames", inPlace := ["internal/bytealg.abigen_runtime_cmpstring"], unfollowed := true, recurses := true, plainKeys := false, apart := false, narrowed := true }
def ClauseNamesUptoSaid : Prop := clauseNamesUptoRow.holds Tryz.pinned (OpenSpec.upto clauseNamesSpec)

/-- 'drayagelaw08.ClauseOff', WHERE WHAT IT READS IS OF BULK AT MOST 1048576: true; the input reads as it did. -/
def clauseOffUptoRow : OpenClaim := { program := "ytnjjdilmaepokaagreat", sum := "7eb44d742efedb248415da823da677169ff7aabd3fea444bf646d70102e9972f", func := "drayage/drayagelaw08.ClauseOff", spec := "clauseOff", inPlace := ["internal/bytealg.abigen_runtime_cmpstring"], unfollowed := true, recurses := true, plainKeys := false, apart := false, narrowed := true }
def ClauseOffUptoSaid : Prop := clauseOffUptoRow.holds Tryz.pinned (OpenSpec.upto clauseOffSpec)

/-- 'drayagelaw10.AdmitNear', WHERE WHAT IT READS IS OF BULK AT MOST 1048576: true; the input reads as it did. -/
def admitNearUptoRow : OpenClaim := { program := "ytnjjdilmaepokaagreat", sum := "7eb44d742efedb248415da823da677169ff7aabd3fea444bf646d70102e9972f", func := "drayage/drayagelaw10.AdmitNear", spec := "admitNear", inPlace := ["internal/bytealg.abigen_runtime_cmpstring"], unfollowed := true, recurses := true, plainKeys := false, apart := false, narrowed := true }
def AdmitNearUptoSaid : Prop := admitNearUptoRow.holds Tryz.pinned (OpenSpec.upto admitNearSpec)

/-- 'drayagelaw10.AdmitNames', WHERE WHAT IT READS IS OF BULK AT MOST 1048576: true; the input reads as it did. -/
def admitNamesUptoRow : OpenClaim := { program := "ytnjjdilmaepokaagreat", sum := "7eb44d742efedb248415da823da677169ff7aabd3fea444bf646d70102e9972f", func := "drayage/drayagelaw10.AdmitNames", spec := "admitNames", inPlace := ["internal/bytealg.abigen_runtime_cmpstring"], unfollowed := true, recurses := true, plainKeys := false, apart := false, narrowed := true }
def AdmitNamesUptoSaid : Prop := admitNamesUptoRow.holds Tryz.pinned (OpenSpec.upto admitNamesSpec)

/-- 'drayagelaw10.AdmitKeeps', WHERE WHAT IT READS IS OF BULK AT MOST 1048576: true; the input reads as it did. -/
def admitKeepsUptoRow : OpenClaim := { program := "ytnjjdilmaepokaagreat", sum := "7eb44d742efedb248415da823da677169ff7aabd3fea444bf646d70102e9972f", func := "drayage/drayagelaw10.AdmitKeeps", spec := "admitKeeps", inPlace := ["internal/bytealg.abigen_runtime_cmpstring"], unfollowed := true, recurses := true, plainKeys := false, apart := false, narrowed := true }
def AdmitKeepsUptoSaid : Prop := admitKeepsUptoRow.holds Tryz.pinned (OpenSpec.upto admitKeepsSpec)

/-- 'drayagelaw10.AdmitBack', WHERE WHAT IT READS IS OF BULK AT MOST 1048576: true; the input reads as it did. -/
def admitBackUptoRow : OpenClaim := { program := "ytnjjdilmaepokaagreat", sum := "7eb44d742efedb248415da823da677169ff7aabd3fea444bf646d70102e9972f", func := "drayage/drayagelaw10.AdmitBack", spec := "admitBack", inPlace := ["internal/bytealg.abigen_runtime_cmpstring"], unfollowed := true, recurses := true, plainKeys := false, apart := false, narrowed := true }
def AdmitBackUptoSaid : Prop := admitBackUptoRow.holds Tryz.pinned (OpenSpec.upto admitBackSpec)

end Rows
end Go.Proofs.YtnjjdilmaepokaaGreat
