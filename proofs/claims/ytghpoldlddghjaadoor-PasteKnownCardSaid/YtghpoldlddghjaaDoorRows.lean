/-
  NARROWER THAN 'FOR EVERY INPUT', by the rows' own cells (each row's printed sentence says how): PasteTrue: laid · PasteEnds: laid · PasteSaid: laid · PasteMore: laid · PasteBlame: laid · PasteNext: laid · PasteKnown: laid · ShiftKnown: laid.
  DERIVED. THE GIVEN ROWS OF THIS SEAT. 8 by the template 'for every input the law returns true; each argument reads behind the call as it read before'; 0 by the template 'total and deterministic' (their statements: YtghpoldlddghjaaDoorTotals.lean).
  GIVEN WITH THE SEED: the statements are not yours to turn. If you find one false, say at which input.
  Laid BY PROGRAM, IN A SANDBOX (cutbox-rows.mjs): the forced cells as the released guide's own fill.sh prints them over the translation 0288dbb073471f34… (all of the seat's roots in one cut). By AI agents, Wed Nov 11 2026. No macro, syntax, notation, axiom, sorry.
-/
import Derived.Test.YtghpoldlddghjaaDoorChecked
import GoSem.Claim
import GoSem.ClaimJoined
import GoSem.ClaimMapViews
import Derived.JoinedTies
import Derived.KernelRfl
namespace Go.Proofs.YtghpoldlddghjaaDoor
/- THE CELL 'sum', in the pinned program and in every row, IS THE sha256 OF THE DUMP (.gsa) THAT YtghpoldlddghjaaDoorProg.lean LOADS. Nothing in Lean hashes anything: it is a label: what it is worth is what the hold of that sum in a sandbox is worth. -/
noncomputable def Tryd.pinned : Pinned := { name := "ytghpoldlddghjaadoor", sum := "0288dbb073471f34464d43ad3c7a0e80de752e7e84055fbd1fdeb90d0459227c", checked := Tryd.checked }
namespace Rows
def none {H : Type} : Left H := { results := [], args := [] }

/- WHAT THE LISTED PACKAGE-LEVEL VARIABLES READ AS WHEN THE CALL BEGINS. Each datum BY PROGRAM (the guide's laid-datum.mjs) off the statement by which the dump's own 'gosem.cut.vars' lays the variable. In a bare row this is a premise. The card (YtghpoldlddghjaaDoorCards.lean) ties it to the program's text. -/
def laid_lucifer_paste_asks {H : Type} : DataW H := .iface "func table" (.agg [.iface "func" (.lit (.string [40, 108, 117, 99, 105, 102, 101, 114, 47, 112, 97, 115, 116, 101, 46, 98, 111, 111, 107, 41, 46, 112, 101, 114, 104, 97, 112, 115])), .iface "func" (.lit (.string [40, 108, 117, 99, 105, 102, 101, 114, 47, 112, 97, 115, 116, 101, 46, 98, 111, 111, 107, 41, 46, 115, 117, 114, 101, 108, 121]))])
def laid_lucifer_shift_bounds {H : Type} : DataW H := .iface "func table" (.agg [.iface "func" (.lit (.string [40, 108, 117, 99, 105, 102, 101, 114, 47, 115, 104, 105, 102, 116, 46, 98, 111, 111, 107, 41, 46, 97, 108, 108, 111, 119, 101, 100])), .iface "func" (.lit (.string [40, 108, 117, 99, 105, 102, 101, 114, 47, 115, 104, 105, 102, 116, 46, 98, 111, 111, 107, 41, 46, 108, 101, 102, 116])), .iface "func" (.lit (.string [40, 108, 117, 99, 105, 102, 101, 114, 47, 115, 104, 105, 102, 116, 46, 98, 111, 111, 107, 41, 46, 110, 101, 101, 100, 101, 100]))])

/-- 'luciferlaw02.PasteTrue': WHATEVER THE INPUT: true; the input reads as it did. -/
def pasteTrueSpec : ChangeSpec := { name := "pasteTrue", fn := fun _ => fun
  | [d1, d2] => { results := [.lit (.bool true)], args := [d1, d2] }
  | _ => none }
def pasteTrueRow : OpenClaim := { program := "ytghpoldlddghjaadoor", sum := "0288dbb073471f34464d43ad3c7a0e80de752e7e84055fbd1fdeb90d0459227c", func := "lucifer/luciferlaw02.PasteTrue", spec := "pasteTrue", unfollowed := true, recurses := true, named := ["lucifer/paste.asks"], plainKeys := false, apart := false, laid := [("lucifer/paste.asks", laid_lucifer_paste_asks)] }
def PasteTrueSaid : Prop := pasteTrueRow.holds Tryd.pinned (OpenSpec.ofChange pasteTrueSpec)

/-- ITS FALSE NEIGHBOUR: 'it returns false'. Refute it at one input. -/
def pasteTrueWrong : ChangeSpec := { name := "pasteTrue", fn := fun _ => fun
  | [d1, d2] => { results := [.lit (.bool false)], args := [d1, d2] }
  | _ => none }
def PasteTrueWrongFalsely : Prop := pasteTrueRow.holds Tryd.pinned (OpenSpec.ofChange pasteTrueWrong)

/-- 'luciferlaw02.PasteEnds': WHATEVER THE INPUT: true; the input reads as it did. -/
def pasteEndsSpec : ChangeSpec := { name := "pasteEnds", fn := fun _ => fun
  | [d1, d2] => { results := [.lit (.bool true)], args := [d1, d2] }
  | _ => none }
def pasteEndsRow : OpenClaim := { program := "ytghpoldlddghjaadoor", sum := "0288dbb073471f34464d43ad3c7a0e80de752e7e84055fbd1fdeb90d0459227c", func := "lucifer/luciferlaw02.PasteEnds", spec := "pasteEnds", unfollowed := true, recurses := true, named := ["lucifer/paste.asks"], plainKeys := false, apart := false, laid := [("lucifer/paste.asks", laid_lucifer_paste_asks)] }
def PasteEndsSaid : Prop := pasteEndsRow.holds Tryd.pinned (OpenSpec.ofChange pasteEndsSpec)

/-- ITS FALSE NEIGHBOUR: 'it returns false'. Refute it at one input. -/
def pasteEndsWrong : ChangeSpec := { name := "pasteEnds", fn := fun _ => fun
  | [d1, d2] => { results := [.lit (.bool false)], args := [d1, d2] }
  | _ => none }
def PasteEndsWrongFalsely : Prop := pasteEndsRow.holds Tryd.pinned (OpenSpec.ofChange pasteEndsWrong)

/-- 'luciferlaw02.PasteSaid': WHATEVER THE INPUT: true; the input reads as it did. -/
def pasteSaidSpec : ChangeSpec := { name := "pasteSaid", fn := fun _ => fun
  | [d1, d2] => { results := [.lit (.bool true)], args := [d1, d2] }
  | _ => none }
def pasteSaidRow : OpenClaim := { program := "ytghpoldlddghjaadoor", sum := "0288dbb073471f34464d43ad3c7a0e80de752e7e84055fbd1fdeb90d0459227c", func := "lucifer/luciferlaw02.PasteSaid", spec := "pasteSaid", unfollowed := true, recurses := true, named := ["lucifer/paste.asks"], plainKeys := false, apart := false, laid := [("lucifer/paste.asks", laid_lucifer_paste_asks)] }
def PasteSaidSaid : Prop := pasteSaidRow.holds Tryd.pinned (OpenSpec.ofChange pasteSaidSpec)

/-- ITS FALSE NEIGHBOUR: 'it returns false'. Refute it at one input. -/
def pasteSaidWrong : ChangeSpec := { name := "pasteSaid", fn := fun _ => fun
  | [d1, d2] => { results := [.lit (.bool false)], args := [d1, d2] }
  | _ => none }
def PasteSaidWrongFalsely : Prop := pasteSaidRow.holds Tryd.pinned (OpenSpec.ofChange pasteSaidWrong)

/-- 'luciferlaw02.PasteMore': WHATEVER THE INPUT: true; the input reads as it did. -/
def pasteMoreSpec : ChangeSpec := { name := "pasteMore", fn := fun _ => fun
  | [d1, d2, d3] => { results := [.lit (.bool true)], args := [d1, d2, d3] }
  | _ => none }
def pasteMoreRow : OpenClaim := { program := "ytghpoldlddghjaadoor", sum := "0288dbb073471f34464d43ad3c7a0e80de752e7e84055fbd1fdeb90d0459227c", func := "lucifer/luciferlaw02.PasteMore", spec := "pasteMore", unfollowed := true, recurses := true, named := ["lucifer/paste.asks"], plainKeys := false, apart := false, laid := [("lucifer/paste.asks", laid_lucifer_paste_asks)] }
def PasteMoreSaid : Prop := pasteMoreRow.holds Tryd.pinned (OpenSpec.ofChange pasteMoreSpec)

/-- ITS FALSE NEIGHBOUR: 'it returns false'. Refute it at one input. -/
def pasteMoreWrong : ChangeSpec := { name := "pasteMore", fn := fun _ => fun
  | [d1, d2, d3] => { results := [.lit (.bool false)], args := [d1, d2, d3] }
  | _ => none }
def PasteMoreWrongFalsely : Prop := pasteMoreRow.holds Tryd.pinned (OpenSpec.ofChange pasteMoreWrong)

/-- 'luciferlaw02.PasteBlame': WHATEVER THE INPUT: true; the input reads as it did. -/
def pasteBlameSpec : ChangeSpec := { name := "pasteBlame", fn := fun _ => fun
  | [d1, d2] => { results := [.lit (.bool true)], args := [d1, d2] }
  | _ => none }
def pasteBlameRow : OpenClaim := { program := "ytghpoldlddghjaadoor", sum := "0288dbb073471f34464d43ad3c7a0e80de752e7e84055fbd1fdeb90d0459227c", func := "lucifer/luciferlaw02.PasteBlame", spec := "pasteBlame", unfollowed := true, recurses := true, named := ["lucifer/paste.asks"], plainKeys := false, apart := false, laid := [("lucifer/paste.asks", laid_lucifer_paste_asks)] }
def PasteBlameSaid : Prop := pasteBlameRow.holds Tryd.pinned (OpenSpec.ofChange pasteBlameSpec)

/-- ITS FALSE NEIGHBOUR: 'it returns false'. Refute it at one input. -/
def pasteBlameWrong : ChangeSpec := { name := "pasteBlame", fn := fun _ => fun
  | [d1, d2] => { results := [.lit (.bool false)], args := [d1, d2] }
  | _ => none }
def PasteBlameWrongFalsely : Prop := pasteBlameRow.holds Tryd.pinned (OpenSpec.ofChange pasteBlameWrong)

/-- 'luciferlaw02.PasteNext': WHATEVER THE INPUT: true; the input reads as it did. -/
def pasteNextSpec : ChangeSpec := { name := "pasteNext", fn := fun _ => fun
  | [d1, d2] => { results := [.lit (.bool true)], args := [d1, d2] }
  | _ => none }
def pasteNextRow : OpenClaim := { program := "ytghpoldlddghjaadoor", sum := "0288dbb073471f34464d43ad3c7a0e80de752e7e84055fbd1fdeb90d0459227c", func := "lucifer/luciferlaw02.PasteNext", spec := "pasteNext", unfollowed := true, recurses := true, named := ["lucifer/paste.asks"], plainKeys := false, apart := false, laid := [("lucifer/paste.asks", laid_lucifer_paste_asks)] }
def PasteNextSaid : Prop := pasteNextRow.holds Tryd.pinned (OpenSpec.ofChange pasteNextSpec)

/-- ITS FALSE NEIGHBOUR: 'it returns false'. Refute it at one input. -/
def pasteNextWrong : ChangeSpec := { name := "pasteNext", fn := fun _ => fun
  | [d1, d2] => { results := [.lit (.bool false)], args := [d1, d2] }
  | _ => none }
def PasteNextWrongFalsely : Prop := pasteNextRow.holds Tryd.pinned (OpenSpec.ofChange pasteNextWrong)

/-- 'luciferlaw02.PasteKnown': WHATEVER THE INPUT: true; the input reads as it did. -/
def pasteKnownSpec : ChangeSpec := { name := "pasteKnown", fn := fun _ => fun
  | [] => { results := [.lit (.bool true)], args := [] }
  | _ => none }
def pasteKnownRow : OpenClaim := { program := "ytghpoldlddghjaadoor", sum := "0288dbb073471f34464d43ad3c7a0e80de752e7e84055fbd1fdeb90d0459227c", func := "lucifer/luciferlaw02.PasteKnown", spec := "pasteKnown", unfollowed := true, recurses := true, named := ["lucifer/paste.asks"], plainKeys := false, apart := false, laid := [("lucifer/paste.asks", laid_lucifer_paste_asks)] }
def PasteKnownSaid : Prop := pasteKnownRow.holds Tryd.pinned (OpenSpec.ofChange pasteKnownSpec)

/-- ITS FALSE NEIGHBOUR: 'it returns false'. Refute it at one input. -/
def pasteKnownWrong : ChangeSpec := { name := "pasteKnown", fn := fun _ => fun
  | [] => { results := [.lit (.bool false)], args := [] }
  | _ => none }
def PasteKnownWrongFalsely : Prop := pasteKnownRow.holds Tryd.pinned (OpenSpec.ofChange pasteKnownWrong)

/-- 'luciferlaw07.ShiftKnown': WHATEVER THE INPUT: true; the input reads as it did. -/
def shiftKnownSpec : ChangeSpec := { name := "shiftKnown", fn := fun _ => fun
  | [] => { results := [.lit (.bool true)], args := [] }
  | _ => none }
def shiftKnownRow : OpenClaim := { program := "ytghpoldlddghjaadoor", sum := "0288dbb073471f34464d43ad3c7a0e80de752e7e84055fbd1fdeb90d0459227c", func := "lucifer/luciferlaw07.ShiftKnown", spec := "shiftKnown", unfollowed := true, recurses := true, named := ["lucifer/shift.bounds"], plainKeys := false, apart := false, laid := [("lucifer/shift.bounds", laid_lucifer_shift_bounds)] }
def ShiftKnownSaid : Prop := shiftKnownRow.holds Tryd.pinned (OpenSpec.ofChange shiftKnownSpec)

/-- ITS FALSE NEIGHBOUR: 'it returns false'. Refute it at one input. -/
def shiftKnownWrong : ChangeSpec := { name := "shiftKnown", fn := fun _ => fun
  | [] => { results := [.lit (.bool false)], args := [] }
  | _ => none }
def ShiftKnownWrongFalsely : Prop := shiftKnownRow.holds Tryd.pinned (OpenSpec.ofChange shiftKnownWrong)

/- THE SECOND FORM. 'bulk': how many values and letters a reading holds, each counted each time it is reached (what is shared counts as often as it is met; a slice's spare places count too). A statement '..UptoSaid' is the law's where the arguments, and the package variables that the reading takes, are together of bulk at most 1048576: NARROWER than '..Said'. Prove '..Said' where nothing that the law and all that it calls make is longer than what came in: it says more and counts as full. Else prove '..UptoSaid'. A law counts once. -/
mutual
def uptoBulk {H : Type} : DataW H → Nat
  | .lit (.string bytes) => bytes.length + 1
  | .lit _ => 1
  | .nil => 1
  | .ptr d => uptoBulk d + 1
  | .slice elems spare => uptoBulkAll elems + uptoBulkAll spare + 1
  | .agg parts => uptoBulkAll parts + 1
  | .iface _ d => uptoBulk d + 1
  | .map entries => uptoBulkEntries entries + 1
  | .held _ => 1
def uptoBulkAll {H : Type} : List (DataW H) → Nat
  | [] => 0
  | d :: r => uptoBulk d + uptoBulkAll r
def uptoBulkEntries {H : Type} : List (Lit × DataW H) → Nat
  | [] => 0
  | x :: r => uptoBulkEntry x + uptoBulkEntries r
def uptoBulkEntry {H : Type} : Lit × DataW H → Nat
  | (.string bytes, d) => bytes.length + uptoBulk d + 1
  | (_, d) => uptoBulk d + 1
 end
def uptoSmall : (H : Type) → List (DataW H) → Bool := fun _ ds => decide (uptoBulkAll ds ≤ 1048576)
def OpenSpec.upto (s : _root_.Go.ChangeSpec) : _root_.Go.OpenSpec := { _root_.Go.OpenSpec.ofChange s with cond := some uptoSmall }

/-- 'luciferlaw02.PasteTrue', WHERE WHAT IT READS IS OF BULK AT MOST 1048576: true; the input reads as it did. -/
def pasteTrueUptoRow : OpenClaim := { program := "ytghpoldlddghjaadoor", sum := "0288dbb073471f34464d43ad3c7a0e80de752e7e84055fbd1fdeb90d0459227c", func := "lucifer/luciferlaw02.PasteTrue", spec := "pasteTrue", unfollowed := true, recurses := true, named := ["lucifer/paste.asks"], plainKeys := false, apart := false, laid := [("lucifer/paste.asks", laid_lucifer_paste_asks)], narrowed := true }
def PasteTrueUptoSaid : Prop := pasteTrueUptoRow.holds Tryd.pinned (OpenSpec.upto pasteTrueSpec)

/-- 'luciferlaw02.PasteEnds', WHERE WHAT IT READS IS OF BULK AT MOST 1048576: true; the input reads as it did. -/
def pasteEndsUptoRow : OpenClaim := { program := "ytghpoldlddghjaadoor", sum := "0288dbb073471f34464d43ad3c7a0e80de752e7e84055fbd1fdeb90d0459227c", func := "lucifer/luciferlaw02.PasteEnds", spec := "pasteEnds", unfollowed := true, recurses := true, named := ["lucifer/paste.asks"], plainKeys := false, apart := false, laid := [("lucifer/paste.asks", laid_lucifer_paste_asks)], narrowed := true }
def PasteEndsUptoSaid : Prop := pasteEndsUptoRow.holds Tryd.pinned (OpenSpec.upto pasteEndsSpec)

/-- 'luciferlaw02.PasteSaid', WHERE WHAT IT READS IS OF BULK AT MOST 1048576: true; the input reads as it did. -/
def pasteSaidUptoRow : OpenClaim := { program := "ytghpoldlddghjaadoor", sum := "0288dbb073471f34464d43ad3c7a0e80de752e7e84055fbd1fdeb90d0459227c", func := "lucifer/luciferlaw02.PasteSaid", spec := "pasteSaid", unfollowed := true, recurses := true, named := ["lucifer/paste.asks"], plainKeys := false, apart := false, laid := [("lucifer/paste.asks", laid_lucifer_paste_asks)], narrowed := true }
def PasteSaidUptoSaid : Prop := pasteSaidUptoRow.holds Tryd.pinned (OpenSpec.upto pasteSaidSpec)

/-- 'luciferlaw02.PasteMore', WHERE WHAT IT READS IS OF BULK AT MOST 1048576: true; the input reads as it did. -/
def pasteMoreUptoRow : OpenClaim := { program := "ytghpoldlddghjaadoor", sum := "0288dbb073471f34464d43ad3c7a0e80de752e7e84055fbd1fdeb90d0459227c", func := "lucifer/luciferlaw02.PasteMore", spec := "pasteMore", unfollowed := true, recurses := true, named := ["lucifer/paste.asks"], plainKeys := false, apart := false, laid := [("lucifer/paste.asks", laid_lucifer_paste_asks)], narrowed := true }
def PasteMoreUptoSaid : Prop := pasteMoreUptoRow.holds Tryd.pinned (OpenSpec.upto pasteMoreSpec)

/-- 'luciferlaw02.PasteBlame', WHERE WHAT IT READS IS OF BULK AT MOST 1048576: true; the input reads as it did. -/
def pasteBlameUptoRow : OpenClaim := { program := "ytghpoldlddghjaadoor", sum := "0288dbb073471f34464d43ad3c7a0e80de752e7e84055fbd1fdeb90d0459227c", func := "lucifer/luciferlaw02.PasteBlame", spec := "pasteBlame", unfollowed := true, recurses := true, named := ["lucifer/paste.asks"], plainKeys := false, apart := false, laid := [("lucifer/paste.asks", laid_lucifer_paste_asks)], narrowed := true }
def PasteBlameUptoSaid : Prop := pasteBlameUptoRow.holds Tryd.pinned (OpenSpec.upto pasteBlameSpec)

/-- 'luciferlaw02.PasteNext', WHERE WHAT IT READS IS OF BULK AT MOST 1048576: true; the input reads as it did. -/
def pasteNextUptoRow : OpenClaim := { program := "ytghpoldlddghjaadoor", sum := "0288dbb073471f34464d43ad3c7a0e80de752e7e84055fbd1fdeb90d0459227c", func := "lucifer/luciferlaw02.PasteNext", spec := "pasteNext", unfollowed := true, recurses := true, named := ["lucifer/paste.asks"], plainKeys := false, apart := false, laid := [("lucifer/paste.asks", laid_lucifer_paste_asks)], narrowed := true }
def PasteNextUptoSaid : Prop := pasteNextUptoRow.holds Tryd.pinned (OpenSpec.upto pasteNextSpec)

/-- 'luciferlaw02.PasteKnown', WHERE WHAT IT READS IS OF BULK AT MOST 1048576: true; the input reads as it did. -/
def pasteKnownUptoRow : OpenClaim := { program := "ytghpoldlddghjaadoor", sum := "0288dbb073471f34464d43ad3c7a0e80de752e7e84055fbd1fdeb90d0459227c", func := "lucifer/luciferlaw02.PasteKnown", spec := "pasteKnown", unfollowed := true, recurses := true, named := ["lucifer/paste.asks"], plainKeys := false, apart := false, laid := [("lucifer/paste.asks", laid_lucifer_paste_asks)], narrowed := true }
def PasteKnownUptoSaid : Prop := pasteKnownUptoRow.holds Tryd.pinned (OpenSpec.upto pasteKnownSpec)

/-- 'luciferlaw07.ShiftKnown', WHERE WHAT IT READS IS OF BULK AT MOST 1048576: true; the input reads as it did. -/
def shiftKnownUptoRow : OpenClaim := { program := "ytghpoldlddghjaadoor", sum := "0288dbb073471f34464d43ad3c7a0e80de752e7e84055fbd1fdeb90d0459227c", func := "lucifer/luciferlaw07.ShiftKnown", spec := "shiftKnown", unfollowed := true, recurses := true, named := ["lucifer/shift.bounds"], plainKeys := false, apart := false, laid := [("lucifer/shift.bounds", laid_lucifer_shift_bounds)], narrowed := true }
def ShiftKnownUptoSaid : Prop := shiftKnownUptoRow.holds Tryd.pinned (OpenSpec.upto shiftKnownSpec)

end Rows
end Go.Proofs.YtghpoldlddghjaaDoor
