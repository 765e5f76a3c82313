/-
  No cell of these rows narrows 'for every input' (looked for: loops, veiled, ifaces, maps, wideKeys, modest, calm, conditions, laid).
  DERIVED. THE GIVEN ROWS OF THIS SEAT. 12 by the template 'for every input the law returns true; each argument reads behind the call as it read before'; 0 by the template 'total and deterministic' (their statements: YtkdchjbbhbfjfaaTotals.lean).
  GIVEN WITH THE SEED: the statements are not yours to turn. If you find one false, say at which input.
  Laid BY PROGRAM, IN A SANDBOX (cutbox-rows.mjs): the forced cells as the released guide's own fill.sh prints them over the translation 8e1979b55d17ce94… (all of the seat's roots in one cut). By AI agents, Wed Nov 11 2026. No macro, syntax, notation, axiom, sorry.
-/
import Derived.Test.YtkdchjbbhbfjfaaChecked
import GoSem.Claim
import GoSem.ClaimJoined
import GoSem.ClaimMapViews
import Derived.JoinedTies
import Derived.KernelRfl
namespace Go.Proofs.Ytkdchjbbhbfjfaa
/- THE CELL 'sum', in the pinned program and in every row, IS THE sha256 OF THE DUMP (.gsa) THAT YtkdchjbbhbfjfaaProg.lean LOADS. Nothing in Lean hashes anything: it is a label: what it is worth is what the hold of that sum in a sandbox is worth. -/
noncomputable def Try.pinned : Pinned := { name := "ytkdchjbbhbfjfaa", sum := "8e1979b55d17ce94867d0ca8688c01da15181ecba2fcdbfedb547c9719d15618", checked := Try.checked }
namespace Rows
def none {H : Type} : Left H := { results := [], args := [] }

/-- 'iceboxlaw3.SumAll': WHATEVER THE INPUT: true; the input reads as it did. -/
def sumAllSpec : ChangeSpec := { name := "sumAll", fn := fun _ => fun
  | [d1, d2] => { results := [.lit (.bool true)], args := [d1, d2] }
  | _ => none }
def sumAllRow : OpenClaim := { program := "ytkdchjbbhbfjfaa", sum := "8e1979b55d17ce94867d0ca8688c01da15181ecba2fcdbfedb547c9719d15618", func := "icebox/iceboxlaw3.SumAll", spec := "sumAll", apart := false }
def SumAllSaid : Prop := sumAllRow.holds Try.pinned (OpenSpec.ofChange sumAllSpec)

/-- ITS FALSE NEIGHBOUR: 'it returns false'. Refute it at one input. -/
def sumAllWrong : ChangeSpec := { name := "sumAll", fn := fun _ => fun
  | [d1, d2] => { results := [.lit (.bool false)], args := [d1, d2] }
  | _ => none }
def SumAllWrongFalsely : Prop := sumAllRow.holds Try.pinned (OpenSpec.ofChange sumAllWrong)

/-- 'iceboxlaw3.SumTurned': WHATEVER THE INPUT: true; the input reads as it did. -/
def sumTurnedSpec : ChangeSpec := { name := "sumTurned", fn := fun _ => fun
  | [d1, d2, d3] => { results := [.lit (.bool true)], args := [d1, d2, d3] }
  | _ => none }
def sumTurnedRow : OpenClaim := { program := "ytkdchjbbhbfjfaa", sum := "8e1979b55d17ce94867d0ca8688c01da15181ecba2fcdbfedb547c9719d15618", func := "icebox/iceboxlaw3.SumTurned", spec := "sumTurned", apart := false }
def SumTurnedSaid : Prop := sumTurnedRow.holds Try.pinned (OpenSpec.ofChange sumTurnedSpec)

/-- ITS FALSE NEIGHBOUR: 'it returns false'. Refute it at one input. -/
def sumTurnedWrong : ChangeSpec := { name := "sumTurned", fn := fun _ => fun
  | [d1, d2, d3] => { results := [.lit (.bool false)], args := [d1, d2, d3] }
  | _ => none }
def SumTurnedWrongFalsely : Prop := sumTurnedRow.holds Try.pinned (OpenSpec.ofChange sumTurnedWrong)

/-- 'iceboxlaw3.SumLinear': WHATEVER THE INPUT: true; the input reads as it did. -/
def sumLinearSpec : ChangeSpec := { name := "sumLinear", fn := fun _ => fun
  | [d1, d2, d3] => { results := [.lit (.bool true)], args := [d1, d2, d3] }
  | _ => none }
def sumLinearRow : OpenClaim := { program := "ytkdchjbbhbfjfaa", sum := "8e1979b55d17ce94867d0ca8688c01da15181ecba2fcdbfedb547c9719d15618", func := "icebox/iceboxlaw3.SumLinear", spec := "sumLinear", apart := false }
def SumLinearSaid : Prop := sumLinearRow.holds Try.pinned (OpenSpec.ofChange sumLinearSpec)

/-- ITS FALSE NEIGHBOUR: 'it returns false'. Refute it at one input. -/
def sumLinearWrong : ChangeSpec := { name := "sumLinear", fn := fun _ => fun
  | [d1, d2, d3] => { results := [.lit (.bool false)], args := [d1, d2, d3] }
  | _ => none }
def SumLinearWrongFalsely : Prop := sumLinearRow.holds Try.pinned (OpenSpec.ofChange sumLinearWrong)

/-- 'iceboxlaw3.SumHash': WHATEVER THE INPUT: true; the input reads as it did. -/
def sumHashSpec : ChangeSpec := { name := "sumHash", fn := fun _ => fun
  | [d1, d2] => { results := [.lit (.bool true)], args := [d1, d2] }
  | _ => none }
def sumHashRow : OpenClaim := { program := "ytkdchjbbhbfjfaa", sum := "8e1979b55d17ce94867d0ca8688c01da15181ecba2fcdbfedb547c9719d15618", func := "icebox/iceboxlaw3.SumHash", spec := "sumHash", apart := false }
def SumHashSaid : Prop := sumHashRow.holds Try.pinned (OpenSpec.ofChange sumHashSpec)

/-- ITS FALSE NEIGHBOUR: 'it returns false'. Refute it at one input. -/
def sumHashWrong : ChangeSpec := { name := "sumHash", fn := fun _ => fun
  | [d1, d2] => { results := [.lit (.bool false)], args := [d1, d2] }
  | _ => none }
def SumHashWrongFalsely : Prop := sumHashRow.holds Try.pinned (OpenSpec.ofChange sumHashWrong)

/-- 'iceboxlaw1.NumFixed': WHATEVER THE INPUT: true; the input reads as it did. -/
def numFixedSpec : ChangeSpec := { name := "numFixed", fn := fun _ => fun
  | [d1, d2] => { results := [.lit (.bool true)], args := [d1, d2] }
  | _ => none }
def numFixedRow : OpenClaim := { program := "ytkdchjbbhbfjfaa", sum := "8e1979b55d17ce94867d0ca8688c01da15181ecba2fcdbfedb547c9719d15618", func := "icebox/iceboxlaw1.NumFixed", spec := "numFixed", apart := false }
def NumFixedSaid : Prop := numFixedRow.holds Try.pinned (OpenSpec.ofChange numFixedSpec)

/-- ITS FALSE NEIGHBOUR: 'it returns false'. Refute it at one input. -/
def numFixedWrong : ChangeSpec := { name := "numFixed", fn := fun _ => fun
  | [d1, d2] => { results := [.lit (.bool false)], args := [d1, d2] }
  | _ => none }
def NumFixedWrongFalsely : Prop := numFixedRow.holds Try.pinned (OpenSpec.ofChange numFixedWrong)

/-- 'iceboxlaw1.NumLong': WHATEVER THE INPUT: true; the input reads as it did. -/
def numLongSpec : ChangeSpec := { name := "numLong", fn := fun _ => fun
  | [d] => { results := [.lit (.bool true)], args := [d] }
  | _ => none }
def numLongRow : OpenClaim := { program := "ytkdchjbbhbfjfaa", sum := "8e1979b55d17ce94867d0ca8688c01da15181ecba2fcdbfedb547c9719d15618", func := "icebox/iceboxlaw1.NumLong", spec := "numLong", apart := false }
def NumLongSaid : Prop := numLongRow.holds Try.pinned (OpenSpec.ofChange numLongSpec)

/-- ITS FALSE NEIGHBOUR: 'it returns false'. Refute it at one input. -/
def numLongWrong : ChangeSpec := { name := "numLong", fn := fun _ => fun
  | [d] => { results := [.lit (.bool false)], args := [d] }
  | _ => none }
def NumLongWrongFalsely : Prop := numLongRow.holds Try.pinned (OpenSpec.ofChange numLongWrong)

/-- 'iceboxlaw1.NumBack': WHATEVER THE INPUT: true; the input reads as it did. -/
def numBackSpec : ChangeSpec := { name := "numBack", fn := fun _ => fun
  | [d1, d2, d3, d4] => { results := [.lit (.bool true)], args := [d1, d2, d3, d4] }
  | _ => none }
def numBackRow : OpenClaim := { program := "ytkdchjbbhbfjfaa", sum := "8e1979b55d17ce94867d0ca8688c01da15181ecba2fcdbfedb547c9719d15618", func := "icebox/iceboxlaw1.NumBack", spec := "numBack", apart := false }
def NumBackSaid : Prop := numBackRow.holds Try.pinned (OpenSpec.ofChange numBackSpec)

/-- ITS FALSE NEIGHBOUR: 'it returns false'. Refute it at one input. -/
def numBackWrong : ChangeSpec := { name := "numBack", fn := fun _ => fun
  | [d1, d2, d3, d4] => { results := [.lit (.bool false)], args := [d1, d2, d3, d4] }
  | _ => none }
def NumBackWrongFalsely : Prop := numBackRow.holds Try.pinned (OpenSpec.ofChange numBackWrong)

/-- 'iceboxlaw1.NumJust': WHATEVER THE INPUT: true; the input reads as it did. -/
def numJustSpec : ChangeSpec := { name := "numJust", fn := fun _ => fun
  | [d1, d2] => { results := [.lit (.bool true)], args := [d1, d2] }
  | _ => none }
def numJustRow : OpenClaim := { program := "ytkdchjbbhbfjfaa", sum := "8e1979b55d17ce94867d0ca8688c01da15181ecba2fcdbfedb547c9719d15618", func := "icebox/iceboxlaw1.NumJust", spec := "numJust", apart := false }
def NumJustSaid : Prop := numJustRow.holds Try.pinned (OpenSpec.ofChange numJustSpec)

/-- ITS FALSE NEIGHBOUR: 'it returns false'. Refute it at one input. -/
def numJustWrong : ChangeSpec := { name := "numJust", fn := fun _ => fun
  | [d1, d2] => { results := [.lit (.bool false)], args := [d1, d2] }
  | _ => none }
def NumJustWrongFalsely : Prop := numJustRow.holds Try.pinned (OpenSpec.ofChange numJustWrong)

/-- 'iceboxlaw1.NumAll': WHATEVER THE INPUT: true; the input reads as it did. -/
def numAllSpec : ChangeSpec := { name := "numAll", fn := fun _ => fun
  | [d1, d2, d3, d4, d5] => { results := [.lit (.bool true)], args := [d1, d2, d3, d4, d5] }
  | _ => none }
def numAllRow : OpenClaim := { program := "ytkdchjbbhbfjfaa", sum := "8e1979b55d17ce94867d0ca8688c01da15181ecba2fcdbfedb547c9719d15618", func := "icebox/iceboxlaw1.NumAll", spec := "numAll", apart := false }
def NumAllSaid : Prop := numAllRow.holds Try.pinned (OpenSpec.ofChange numAllSpec)

/-- ITS FALSE NEIGHBOUR: 'it returns false'. Refute it at one input. -/
def numAllWrong : ChangeSpec := { name := "numAll", fn := fun _ => fun
  | [d1, d2, d3, d4, d5] => { results := [.lit (.bool false)], args := [d1, d2, d3, d4, d5] }
  | _ => none }
def NumAllWrongFalsely : Prop := numAllRow.holds Try.pinned (OpenSpec.ofChange numAllWrong)

/-- 'iceboxlaw10.MemSees': WHATEVER THE INPUT: true; the input reads as it did. -/
def memSeesSpec : ChangeSpec := { name := "memSees", fn := fun _ => fun
  | [d1, d2, d3, d4] => { results := [.lit (.bool true)], args := [d1, d2, d3, d4] }
  | _ => none }
def memSeesRow : OpenClaim := { program := "ytkdchjbbhbfjfaa", sum := "8e1979b55d17ce94867d0ca8688c01da15181ecba2fcdbfedb547c9719d15618", func := "icebox/iceboxlaw10.MemSees", spec := "memSees", apart := false }
def MemSeesSaid : Prop := memSeesRow.holds Try.pinned (OpenSpec.ofChange memSeesSpec)

/-- ITS FALSE NEIGHBOUR: 'it returns false'. Refute it at one input. -/
def memSeesWrong : ChangeSpec := { name := "memSees", fn := fun _ => fun
  | [d1, d2, d3, d4] => { results := [.lit (.bool false)], args := [d1, d2, d3, d4] }
  | _ => none }
def MemSeesWrongFalsely : Prop := memSeesRow.holds Try.pinned (OpenSpec.ofChange memSeesWrong)

/-- 'iceboxlaw10.MemAll': WHATEVER THE INPUT: true; the input reads as it did. -/
def memAllSpec : ChangeSpec := { name := "memAll", fn := fun _ => fun
  | [d1, d2, d3, d4] => { results := [.lit (.bool true)], args := [d1, d2, d3, d4] }
  | _ => none }
def memAllRow : OpenClaim := { program := "ytkdchjbbhbfjfaa", sum := "8e1979b55d17ce94867d0ca8688c01da15181ecba2fcdbfedb547c9719d15618", func := "icebox/iceboxlaw10.MemAll", spec := "memAll", apart := false }
def MemAllSaid : Prop := memAllRow.holds Try.pinned (OpenSpec.ofChange memAllSpec)

/-- ITS FALSE NEIGHBOUR: 'it returns false'. Refute it at one input. -/
def memAllWrong : ChangeSpec := { name := "memAll", fn := fun _ => fun
  | [d1, d2, d3, d4] => { results := [.lit (.bool false)], args := [d1, d2, d3, d4] }
  | _ => none }
def MemAllWrongFalsely : Prop := memAllRow.holds Try.pinned (OpenSpec.ofChange memAllWrong)

/-- 'iceboxlaw10.MemOrder': WHATEVER THE INPUT: true; the input reads as it did. -/
def memOrderSpec : ChangeSpec := { name := "memOrder", fn := fun _ => fun
  | [d1, d2, d3] => { results := [.lit (.bool true)], args := [d1, d2, d3] }
  | _ => none }
def memOrderRow : OpenClaim := { program := "ytkdchjbbhbfjfaa", sum := "8e1979b55d17ce94867d0ca8688c01da15181ecba2fcdbfedb547c9719d15618", func := "icebox/iceboxlaw10.MemOrder", spec := "memOrder", apart := false }
def MemOrderSaid : Prop := memOrderRow.holds Try.pinned (OpenSpec.ofChange memOrderSpec)

/-- ITS FALSE NEIGHBOUR: 'it returns false'. Refute it at one input. -/
def memOrderWrong : ChangeSpec := { name := "memOrder", fn := fun _ => fun
  | [d1, d2, d3] => { results := [.lit (.bool false)], args := [d1, d2, d3] }
  | _ => none }
def MemOrderWrongFalsely : Prop := memOrderRow.holds Try.pinned (OpenSpec.ofChange memOrderWrong)

/- THE SECOND FORM. 'bulk': how many values and letters a reading holds, each counted each time it is reached (what is shared counts as often as it is met; a slice's spare places count too). A statement '..UptoSaid' is the law's where the arguments, and the package variables that the reading takes, are together of bulk at most 1048576: NARROWER than '..Said'. Prove '..Said' where nothing that the law and all that it calls make is longer than what came in: it says more and counts as full. Else prove '..UptoSaid'. A law counts once. -/
mutual
def uptoBulk {H : Type} : DataW H → Nat
  | .lit (.string bytes) => bytes.length + 1
  | .lit _ => 1
  | .nil => 1
  | .ptr d => uptoBulk d + 1
  | .slice elems spare => uptoBulkAll elems + uptoBulkAll spare + 1
  | .agg parts => uptoBulkAll parts + 1
  | .iface _ d => uptoBulk d + 1
  | .map entries => uptoBulkEntries entries + 1
  | .held _ => 1
def uptoBulkAll {H : Type} : List (DataW H) → Nat
  | [] => 0
  | d :: r => uptoBulk d + uptoBulkAll r
def uptoBulkEntries {H : Type} : List (Lit × DataW H) → Nat
  | [] => 0
  | x :: r => uptoBulkEntry x + uptoBulkEntries r
def uptoBulkEntry {H : Type} : Lit × DataW H → Nat
  | (.string bytes, d) => bytes.length + uptoBulk d + 1
  | (_, d) => uptoBulk d + 1
 end
def uptoSmall : (H : Type) → List (DataW H) → Bool := fun _ ds => decide (uptoBulkAll ds ≤ 1048576)
def OpenSpec.upto (s : _root_.Go.ChangeSpec) : _root_.Go.OpenSpec := { _root_.Go.OpenSpec.ofChange s with cond := some uptoSmall }

/-- 'iceboxlaw3.SumAll', WHERE WHAT IT READS IS OF BULK AT MOST 1048576: true; the input reads as it did. -/
def sumAllUptoRow : OpenClaim := { program := "ytkdchjbbhbfjfaa", sum := "8e1979b55d17ce94867d0ca8688c01da15181ecba2fcdbfedb547c9719d15618", func := "icebox/iceboxlaw3.SumAll", spec := "sumAll", apart := false, narrowed := true }
def SumAllUptoSaid : Prop := sumAllUptoRow.holds Try.pinned (OpenSpec.upto sumAllSpec)

/-- 'iceboxlaw3.SumTurned', WHERE WHAT IT READS IS OF BULK AT MOST 1048576: true; the input reads as it did. -/
def sumTurnedUptoRow : OpenClaim := { program := "ytkdchjbbhbfjfaa", sum := "8e1979b55d17ce94867d0ca8688c01da15181ecba2fcdbfedb547c9719d15618", func := "icebox/iceboxlaw3.SumTurned", spec := "sumTurned", apart := false, narrowed := true }
def SumTurnedUptoSaid : Prop := sumTurnedUptoRow.holds Try.pinned (OpenSpec.upto sumTurnedSpec)

/-- 'iceboxlaw3.SumLinear', WHERE WHAT IT READS IS OF BULK AT MOST 1048576: true; the input reads as it did. -/
def sumLinearUptoRow : OpenClaim := { program := "ytkdchjbbhbfjfaa", sum := "8e1979b55d17ce94867d0ca8688c01da15181ecba2fcdbfedb547c9719d15618", func := "icebox/iceboxlaw3.SumLinear", spec := "sumLinear", apart := false, narrowed := true }
def SumLinearUptoSaid : Prop := sumLinearUptoRow.holds Try.pinned (OpenSpec.upto sumLinearSpec)

/-- 'iceboxlaw3.SumHash', WHERE WHAT IT READS IS OF BULK AT MOST 1048576: true; the input reads as it did. -/
def sumHashUptoRow : OpenClaim := { program := "ytkdchjbbhbfjfaa", sum := "8e1979b55d17ce94867d0ca8688c01da15181ecba2fcdbfedb547c9719d15618", func := "icebox/iceboxlaw3.SumHash", spec := "sumHash", apart := false, narrowed := true }
def SumHashUptoSaid : Prop := sumHashUptoRow.holds Try.pinned (OpenSpec.upto sumHashSpec)

/-- 'iceboxlaw1.NumFixed', WHERE WHAT IT READS IS OF BULK AT MOST 1048576: true; the input reads as it did. -/
def numFixedUptoRow : OpenClaim := { program := "ytkdchjbbhbfjfaa", sum := "8e1979b55d17ce94867d0ca8688c01da15181ecba2fcdbfedb547c9719d15618", func := "icebox/iceboxlaw1.NumFixed", spec := "numFixed", apart := false, narrowed := true }
def NumFixedUptoSaid : Prop := numFixedUptoRow.holds Try.pinned (OpenSpec.upto numFixedSpec)

/-- 'iceboxlaw1.NumLong', WHERE WHAT IT READS IS OF BULK AT MOST 1048576: true; the input reads as it did. -/
def numLongUptoRow : OpenClaim := { program := "ytkdchjbbhbfjfaa", sum := "8e1979b55d17ce94867d0ca8688c01da15181ecba2fcdbfedb547c9719d15618", func := "icebox/iceboxlaw1.NumLong", spec := "numLong", apart := false, narrowed := true }
def NumLongUptoSaid : Prop := numLongUptoRow.holds Try.pinned (OpenSpec.upto numLongSpec)

/-- 'iceboxlaw1.NumBack', WHERE WHAT IT READS IS OF BULK AT MOST 1048576: true; the input reads as it did. -/
def numBackUptoRow : OpenClaim := { program := "ytkdchjbbhbfjfaa", sum := "8e1979b55d17ce94867d0ca8688c01da15181ecba2fcdbfedb547c9719d15618", func := "icebox/iceboxlaw1.NumBack", spec := "numBack", apart := false, narrowed := true }
def NumBackUptoSaid : Prop := numBackUptoRow.holds Try.pinned (OpenSpec.upto numBackSpec)

/-- 'iceboxlaw1.NumJust', WHERE WHAT IT READS IS OF BULK AT MOST 1048576: true; the input reads as it did. -/
def numJustUptoRow : OpenClaim := { program := "ytkdchjbbhbfjfaa", sum := "8e1979b55d17ce94867d0ca8688c01da15181ecba2fcdbfedb547c9719d15618", func := "icebox/iceboxlaw1.NumJust", spec := "numJust", apart := false, narrowed := true }
def NumJustUptoSaid : Prop := numJustUptoRow.holds Try.pinned (OpenSpec.upto numJustSpec)

/-- 'iceboxlaw1.NumAll', WHERE WHAT IT READS IS OF BULK AT MOST 1048576: true; the input reads as it did. -/
def numAllUptoRow : OpenClaim := { program := "ytkdchjbbhbfjfaa", sum := "8e1979b55d17ce94867d0ca8688c01da15181ecba2fcdbfedb547c9719d15618", func := "icebox/iceboxlaw1.NumAll", spec := "numAll", apart := false, narrowed := true }
def NumAllUptoSaid : Prop := numAllUptoRow.holds Try.pinned (OpenSpec.upto numAllSpec)

/-- 'iceboxlaw10.MemSees', WHERE WHAT IT READS IS OF BULK AT MOST 1048576: true; the input reads as it did. -/
def memSeesUptoRow : OpenClaim := { program := "ytkdchjbbhbfjfaa", sum := "8e1979b55d17ce94867d0ca8688c01da15181ecba2fcdbfedb547c9719d15618", func := "icebox/iceboxlaw10.MemSees", spec := "memSees", apart := false, narrowed := true }
def MemSeesUptoSaid : Prop := memSeesUptoRow.holds Try.pinned (OpenSpec.upto memSeesSpec)

/-- 'iceboxlaw10.MemAll', WHERE WHAT IT READS IS OF BULK AT MOST 1048576: true; the input reads as it did. -/
def memAllUptoRow : OpenClaim := { program := "ytkdchjbbhbfjfaa", sum := "8e1979b55d17ce94867d0ca8688c01da15181ecba2fcdbfedb547c9719d15618", func := "icebox/iceboxlaw10.MemAll", spec := "memAll", apart := false, narrowed := true }
def MemAllUptoSaid : Prop := memAllUptoRow.holds Try.pinned (OpenSpec.upto memAllSpec)

/-- 'iceboxlaw10.MemOrder', WHERE WHAT IT READS IS OF BULK AT MOST 1048576: true; the input reads as it did. -/
def memOrderUptoRow : OpenClaim := { program := "ytkdchjbbhbfjfaa", sum := "8e1979b55d17ce94867d0ca8688c01da15181ecba2fcdbfedb547c9719d15618", func := "icebox/iceboxlaw10.MemOrder", spec := "memOrder", apart := false, narrowed := true }
def MemOrderUptoSaid : Prop := memOrderUptoRow.holds Try.pinned (OpenSpec.upto memOrderSpec)

end Rows
end Go.Proofs.Ytkdchjbbhbfjfaa
