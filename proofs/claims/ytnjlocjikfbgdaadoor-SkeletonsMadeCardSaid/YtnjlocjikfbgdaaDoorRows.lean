/-
  NARROWER THAN 'FOR EVERY INPUT', by the rows' own cells (each row's printed sentence says how): SkeletonsSpans: laid · SkeletonsGet: laid · SkeletonsNames: laid · SkeletonsMade: laid · SkeletonsOf: loops, laid · SkeletonsKnown: laid.
  DERIVED. THE GIVEN ROWS OF THIS SEAT. 6 by the template 'for every input the law returns true; each argument reads behind the call as it read before'; 0 by the template 'total and deterministic' (their statements: YtnjlocjikfbgdaaDoorTotals.lean).
  GIVEN WITH THE SEED: the statements are not yours to turn. If you find one false, say at which input.
  Laid BY PROGRAM, IN A SANDBOX (cutbox-rows.mjs): the forced cells as the released guide's own fill.sh prints them over the translation 4e3a1e2c675e0da3… (all of the seat's roots in one cut). By AI agents, Wed Nov 11 2026. No macro, syntax, notation, axiom, sorry.
-/
import Derived.Test.YtnjlocjikfbgdaaDoorChecked
import GoSem.Claim
import GoSem.ClaimJoined
import GoSem.ClaimMapViews
import Derived.JoinedTies
import Derived.KernelRfl
namespace Go.Proofs.YtnjlocjikfbgdaaDoor
/- THE CELL 'sum', in the pinned program and in every row, IS THE sha256 OF THE DUMP (.gsa) THAT YtnjlocjikfbgdaaDoorProg.lean LOADS. Nothing in Lean hashes anything: it is a label: what it is worth is what the hold of that sum in a sandbox is worth. -/
noncomputable def Tryd.pinned : Pinned := { name := "ytnjlocjikfbgdaadoor", sum := "4e3a1e2c675e0da39fa8161402e3c7386951811f9e061896f1ebe883d193eaf2", checked := Tryd.checked }
namespace Rows
def none {H : Type} : Left H := { results := [], args := [] }

/- WHAT THE LISTED PACKAGE-LEVEL VARIABLES READ AS WHEN THE CALL BEGINS. Each datum BY PROGRAM (the guide's laid-datum.mjs) off the statement by which the dump's own 'gosem.cut.vars' lays the variable. In a bare row this is a premise. The card (YtnjlocjikfbgdaaDoorCards.lean) ties it to the program's text. -/
def laid_vidimus_skeletons_sequence {H : Type} : DataW H := .agg [.lit (.int .u8 0), .lit (.bool true), .lit (.int .u32 16)]
def laid_vidimus_skeletons_integer {H : Type} : DataW H := .agg [.lit (.int .u8 0), .lit (.bool false), .lit (.int .u32 2)]
def laid_vidimus_skeletons_table {H : Type} : DataW H := .agg [.agg [.agg [.lit (.int .u8 0), .lit (.bool true), .lit (.int .u32 16)], .lit (.bool false), .lit (.bool false)], .agg [.agg [.lit (.int .u8 2), .lit (.bool true), .lit (.int .u32 0)], .lit (.bool false), .lit (.bool true)], .agg [.agg [.lit (.int .u8 0), .lit (.bool false), .lit (.int .u32 2)], .lit (.bool false), .lit (.bool false)], .agg [.agg [.lit (.int .u8 0), .lit (.bool true), .lit (.int .u32 16)], .lit (.bool false), .lit (.bool false)], .agg [.agg [.lit (.int .u8 0), .lit (.bool true), .lit (.int .u32 16)], .lit (.bool false), .lit (.bool false)], .agg [.agg [.lit (.int .u8 0), .lit (.bool true), .lit (.int .u32 16)], .lit (.bool false), .lit (.bool false)], .agg [.agg [.lit (.int .u8 0), .lit (.bool true), .lit (.int .u32 16)], .lit (.bool false), .lit (.bool false)], .agg [.agg [.lit (.int .u8 0), .lit (.bool true), .lit (.int .u32 16)], .lit (.bool false), .lit (.bool false)], .agg [.agg [.lit (.int .u8 2), .lit (.bool false), .lit (.int .u32 1)], .lit (.bool false), .lit (.bool true)], .agg [.agg [.lit (.int .u8 2), .lit (.bool false), .lit (.int .u32 2)], .lit (.bool false), .lit (.bool true)], .agg [.agg [.lit (.int .u8 2), .lit (.bool true), .lit (.int .u32 3)], .lit (.bool false), .lit (.bool true)], .agg [.agg [.lit (.int .u8 0), .lit (.bool true), .lit (.int .u32 16)], .lit (.bool false), .lit (.bool false)], .agg [.agg [.lit (.int .u8 0), .lit (.bool false), .lit (.int .u32 3)], .lit (.bool false), .lit (.bool false)]]
def laid_vidimus_skeletons_texts {H : Type} : DataW H := .agg [.lit (.string [116, 98, 115]), .lit (.string [118, 101, 114, 115, 105, 111, 110]), .lit (.string [115, 101, 114, 105, 97, 108]), .lit (.string [97, 108, 103, 111, 114, 105, 116, 104, 109]), .lit (.string [105, 115, 115, 117, 101, 114]), .lit (.string [118, 97, 108, 105, 100, 105, 116, 121]), .lit (.string [115, 117, 98, 106, 101, 99, 116]), .lit (.string [107, 101, 121]), .lit (.string [105, 115, 115, 117, 101, 114, 45, 105, 100]), .lit (.string [115, 117, 98, 106, 101, 99, 116, 45, 105, 100]), .lit (.string [101, 120, 116, 101, 110, 115, 105, 111, 110, 115]), .lit (.string [111, 117, 116, 101, 114]), .lit (.string [115, 105, 103, 110, 97, 116, 117, 114, 101])]

/-- 'vidimuslaw20.SkeletonsSpans': WHATEVER THE INPUT: true; the input reads as it did. -/
def skeletonsSpansSpec : ChangeSpec := { name := "skeletonsSpans", fn := fun _ => fun
  | [d] => { results := [.lit (.bool true)], args := [d] }
  | _ => none }
def skeletonsSpansRow : OpenClaim := { program := "ytnjlocjikfbgdaadoor", sum := "4e3a1e2c675e0da39fa8161402e3c7386951811f9e061896f1ebe883d193eaf2", func := "vidimus/vidimuslaw20.SkeletonsSpans", spec := "skeletonsSpans", unfollowed := true, recurses := true, named := ["vidimus/skeletons.table", "vidimus/skeletons.sequence", "vidimus/skeletons.integer"], apart := false, laid := [("vidimus/skeletons.sequence", laid_vidimus_skeletons_sequence), ("vidimus/skeletons.integer", laid_vidimus_skeletons_integer), ("vidimus/skeletons.table", laid_vidimus_skeletons_table)] }
def SkeletonsSpansSaid : Prop := skeletonsSpansRow.holds Tryd.pinned (OpenSpec.ofChange skeletonsSpansSpec)

/-- ITS FALSE NEIGHBOUR: 'it returns false'. Refute it at one input. -/
def skeletonsSpansWrong : ChangeSpec := { name := "skeletonsSpans", fn := fun _ => fun
  | [d] => { results := [.lit (.bool false)], args := [d] }
  | _ => none }
def SkeletonsSpansWrongFalsely : Prop := skeletonsSpansRow.holds Tryd.pinned (OpenSpec.ofChange skeletonsSpansWrong)

/-- 'vidimuslaw20.SkeletonsGet': WHATEVER THE INPUT: true; the input reads as it did. -/
def skeletonsGetSpec : ChangeSpec := { name := "skeletonsGet", fn := fun _ => fun
  | [d] => { results := [.lit (.bool true)], args := [d] }
  | _ => none }
def skeletonsGetRow : OpenClaim := { program := "ytnjlocjikfbgdaadoor", sum := "4e3a1e2c675e0da39fa8161402e3c7386951811f9e061896f1ebe883d193eaf2", func := "vidimus/vidimuslaw20.SkeletonsGet", spec := "skeletonsGet", unfollowed := true, recurses := true, named := ["vidimus/skeletons.table", "vidimus/skeletons.sequence", "vidimus/skeletons.integer"], apart := false, laid := [("vidimus/skeletons.sequence", laid_vidimus_skeletons_sequence), ("vidimus/skeletons.integer", laid_vidimus_skeletons_integer), ("vidimus/skeletons.table", laid_vidimus_skeletons_table)] }
def SkeletonsGetSaid : Prop := skeletonsGetRow.holds Tryd.pinned (OpenSpec.ofChange skeletonsGetSpec)

/-- ITS FALSE NEIGHBOUR: 'it returns false'. Refute it at one input. -/
def skeletonsGetWrong : ChangeSpec := { name := "skeletonsGet", fn := fun _ => fun
  | [d] => { results := [.lit (.bool false)], args := [d] }
  | _ => none }
def SkeletonsGetWrongFalsely : Prop := skeletonsGetRow.holds Tryd.pinned (OpenSpec.ofChange skeletonsGetWrong)

/-- 'vidimuslaw20.SkeletonsNames': WHATEVER THE INPUT: true; the input reads as it did. -/
def skeletonsNamesSpec : ChangeSpec := { name := "skeletonsNames", fn := fun _ => fun
  | [d] => { results := [.lit (.bool true)], args := [d] }
  | _ => none }
def skeletonsNamesRow : OpenClaim := { program := "ytnjlocjikfbgdaadoor", sum := "4e3a1e2c675e0da39fa8161402e3c7386951811f9e061896f1ebe883d193eaf2", func := "vidimus/vidimuslaw20.SkeletonsNames", spec := "skeletonsNames", unfollowed := true, recurses := true, named := ["vidimus/skeletons.texts", "vidimus/skeletons.table", "vidimus/skeletons.sequence", "vidimus/skeletons.integer"], apart := false, laid := [("vidimus/skeletons.sequence", laid_vidimus_skeletons_sequence), ("vidimus/skeletons.integer", laid_vidimus_skeletons_integer), ("vidimus/skeletons.table", laid_vidimus_skeletons_table), ("vidimus/skeletons.texts", laid_vidimus_skeletons_texts)] }
def SkeletonsNamesSaid : Prop := skeletonsNamesRow.holds Tryd.pinned (OpenSpec.ofChange skeletonsNamesSpec)

/-- ITS FALSE NEIGHBOUR: 'it returns false'. Refute it at one input. -/
def skeletonsNamesWrong : ChangeSpec := { name := "skeletonsNames", fn := fun _ => fun
  | [d] => { results := [.lit (.bool false)], args := [d] }
  | _ => none }
def SkeletonsNamesWrongFalsely : Prop := skeletonsNamesRow.holds Tryd.pinned (OpenSpec.ofChange skeletonsNamesWrong)

/-- 'vidimuslaw20.SkeletonsMade': WHATEVER THE INPUT: true; the input reads as it did. -/
def skeletonsMadeSpec : ChangeSpec := { name := "skeletonsMade", fn := fun _ => fun
  | [d] => { results := [.lit (.bool true)], args := [d] }
  | _ => none }
def skeletonsMadeRow : OpenClaim := { program := "ytnjlocjikfbgdaadoor", sum := "4e3a1e2c675e0da39fa8161402e3c7386951811f9e061896f1ebe883d193eaf2", func := "vidimus/vidimuslaw20.SkeletonsMade", spec := "skeletonsMade", unfollowed := true, recurses := true, named := ["vidimus/skeletons.table", "vidimus/skeletons.sequence", "vidimus/skeletons.integer"], apart := false, laid := [("vidimus/skeletons.sequence", laid_vidimus_skeletons_sequence), ("vidimus/skeletons.integer", laid_vidimus_skeletons_integer), ("vidimus/skeletons.table", laid_vidimus_skeletons_table)] }
def SkeletonsMadeSaid : Prop := skeletonsMadeRow.holds Tryd.pinned (OpenSpec.ofChange skeletonsMadeSpec)

/-- ITS FALSE NEIGHBOUR: 'it returns false'. Refute it at one input. -/
def skeletonsMadeWrong : ChangeSpec := { name := "skeletonsMade", fn := fun _ => fun
  | [d] => { results := [.lit (.bool false)], args := [d] }
  | _ => none }
def SkeletonsMadeWrongFalsely : Prop := skeletonsMadeRow.holds Tryd.pinned (OpenSpec.ofChange skeletonsMadeWrong)

/-- 'vidimuslaw20.SkeletonsOf': WHATEVER THE INPUT: true; the input reads as it did. -/
def skeletonsOfSpec : ChangeSpec := { name := "skeletonsOf", fn := fun _ => fun
  | [d] => { results := [.lit (.bool true)], args := [d] }
  | _ => none }
def skeletonsOfRow : OpenClaim := { program := "ytnjlocjikfbgdaadoor", sum := "4e3a1e2c675e0da39fa8161402e3c7386951811f9e061896f1ebe883d193eaf2", func := "vidimus/vidimuslaw20.SkeletonsOf", spec := "skeletonsOf", unfollowed := true, recurses := true, named := ["vidimus/skeletons.table", "vidimus/skeletons.sequence", "vidimus/skeletons.integer"], loops := true, apart := false, laid := [("vidimus/skeletons.sequence", laid_vidimus_skeletons_sequence), ("vidimus/skeletons.integer", laid_vidimus_skeletons_integer), ("vidimus/skeletons.table", laid_vidimus_skeletons_table)] }
def SkeletonsOfSaid : Prop := skeletonsOfRow.holds Tryd.pinned (OpenSpec.ofChange skeletonsOfSpec)

/-- ITS FALSE NEIGHBOUR: 'it returns false'. Refute it at one input. -/
def skeletonsOfWrong : ChangeSpec := { name := "skeletonsOf", fn := fun _ => fun
  | [d] => { results := [.lit (.bool false)], args := [d] }
  | _ => none }
def SkeletonsOfWrongFalsely : Prop := skeletonsOfRow.holds Tryd.pinned (OpenSpec.ofChange skeletonsOfWrong)

/-- 'vidimuslaw20.SkeletonsKnown': WHATEVER THE INPUT: true; the input reads as it did. -/
def skeletonsKnownSpec : ChangeSpec := { name := "skeletonsKnown", fn := fun _ => fun
  | [] => { results := [.lit (.bool true)], args := [] }
  | _ => none }
def skeletonsKnownRow : OpenClaim := { program := "ytnjlocjikfbgdaadoor", sum := "4e3a1e2c675e0da39fa8161402e3c7386951811f9e061896f1ebe883d193eaf2", func := "vidimus/vidimuslaw20.SkeletonsKnown", spec := "skeletonsKnown", unfollowed := true, recurses := true, named := ["vidimus/skeletons.table", "vidimus/skeletons.sequence", "vidimus/skeletons.integer"], apart := false, laid := [("vidimus/skeletons.sequence", laid_vidimus_skeletons_sequence), ("vidimus/skeletons.integer", laid_vidimus_skeletons_integer), ("vidimus/skeletons.table", laid_vidimus_skeletons_table)] }
def SkeletonsKnownSaid : Prop := skeletonsKnownRow.holds Tryd.pinned (OpenSpec.ofChange skeletonsKnownSpec)

/-- ITS FALSE NEIGHBOUR: 'it returns false'. Refute it at one input. -/
def skeletonsKnownWrong : ChangeSpec := { name := "skeletonsKnown", fn := fun _ => fun
  | [] => { results := [.lit (.bool false)], args := [] }
  | _ => none }
def SkeletonsKnownWrongFalsely : Prop := skeletonsKnownRow.holds Tryd.pinned (OpenSpec.ofChange skeletonsKnownWrong)

/- THE SECOND FORM. 'bulk': how many values and letters a reading holds, each counted each time it is reached (what is shared counts as often as it is met; a slice's spare places count too). A statement '..UptoSaid' is the law's where the arguments, and the package variables that the reading takes, are together of bulk at most 1048576: NARROWER than '..Said'. Prove '..Said' where nothing that the law and all that it calls make is longer than what came in: it says more and counts as full. Else prove '..UptoSaid'. A law counts once. -/
mutual
def uptoBulk {H : Type} : DataW H → Nat
  | .lit (.string bytes) => bytes.length + 1
  | .lit _ => 1
  | .nil => 1
  | .ptr d => uptoBulk d + 1
  | .slice elems spare => uptoBulkAll elems + uptoBulkAll spare + 1
  | .agg parts => uptoBulkAll parts + 1
  | .iface _ d => uptoBulk d + 1
  | .map entries => uptoBulkEntries entries + 1
  | .held _ => 1
def uptoBulkAll {H : Type} : List (DataW H) → Nat
  | [] => 0
  | d :: r => uptoBulk d + uptoBulkAll r
def uptoBulkEntries {H : Type} : List (Lit × DataW H) → Nat
  | [] => 0
  | x :: r => uptoBulkEntry x + uptoBulkEntries r
def uptoBulkEntry {H : Type} : Lit × DataW H → Nat
  | (.string bytes, d) => bytes.length + uptoBulk d + 1
  | (_, d) => uptoBulk d + 1
 end
def uptoSmall : (H : Type) → List (DataW H) → Bool := fun _ ds => decide (uptoBulkAll ds ≤ 1048576)
def OpenSpec.upto (s : _root_.Go.ChangeSpec) : _root_.Go.OpenSpec := { _root_.Go.OpenSpec.ofChange s with cond := some uptoSmall }

/-- 'vidimuslaw20.SkeletonsSpans', WHERE WHAT IT READS IS OF BULK AT MOST 1048576: true; the input reads as it did. -/
def skeletonsSpansUptoRow : OpenClaim := { program := "ytnjlocjikfbgdaadoor", sum := "4e3a1e2c675e0da39fa8161402e3c7386951811f9e061896f1ebe883d193eaf2", func := "vidimus/vidimuslaw20.SkeletonsSpans", spec := "skeletonsSpans", unfollowed := true, recurses := true, named := ["vidimus/skeletons.table", "vidimus/skeletons.sequence", "vidimus/skeletons.integer"], apart := false, laid := [("vidimus/skeletons.sequence", laid_vidimus_skeletons_sequence), ("vidimus/skeletons.integer", laid_vidimus_skeletons_integer), ("vidimus/skeletons.table", laid_vidimus_skeletons_table)], narrowed := true }
def SkeletonsSpansUptoSaid : Prop := skeletonsSpansUptoRow.holds Tryd.pinned (OpenSpec.upto skeletonsSpansSpec)

/-- 'vidimuslaw20.SkeletonsGet', WHERE WHAT IT READS IS OF BULK AT MOST 1048576: true; the input reads as it did. -/
def skeletonsGetUptoRow : OpenClaim := { program := "ytnjlocjikfbgdaadoor", sum := "4e3a1e2c675e0da39fa8161402e3c7386951811f9e061896f1ebe883d193eaf2", func := "vidimus/vidimuslaw20.SkeletonsGet", spec := "skeletonsGet", unfollowed := true, recurses := true, named := ["vidimus/skeletons.table", "vidimus/skeletons.sequence", "vidimus/skeletons.integer"], apart := false, laid := [("vidimus/skeletons.sequence", laid_vidimus_skeletons_sequence), ("vidimus/skeletons.integer", laid_vidimus_skeletons_integer), ("vidimus/skeletons.table", laid_vidimus_skeletons_table)], narrowed := true }
def SkeletonsGetUptoSaid : Prop := skeletonsGetUptoRow.holds Tryd.pinned (OpenSpec.upto skeletonsGetSpec)

/-- 'vidimuslaw20.SkeletonsNames', WHERE WHAT IT READS IS OF BULK AT MOST 1048576: true; the input reads as it did. -/
def skeletonsNamesUptoRow : OpenClaim := { program := "ytnjlocjikfbgdaadoor", sum := "4e3a1e2c675e0da39fa8161402e3c7386951811f9e061896f1ebe883d193eaf2", func := "vidimus/vidimuslaw20.SkeletonsNames", spec := "skeletonsNames", unfollowed := true, recurses := true, named := ["vidimus/skeletons.texts", "vidimus/skeletons.table", "vidimus/skeletons.sequence", "vidimus/skeletons.integer"], apart := false, laid := [("vidimus/skeletons.sequence", laid_vidimus_skeletons_sequence), ("vidimus/skeletons.integer", laid_vidimus_skeletons_integer), ("vidimus/skeletons.table", laid_vidimus_skeletons_table), ("vidimus/skeletons.texts", laid_vidimus_skeletons_texts)], narrowed := true }
def SkeletonsNamesUptoSaid : Prop := skeletonsNamesUptoRow.holds Tryd.pinned (OpenSpec.upto skeletonsNamesSpec)

/-- 'vidimuslaw20.SkeletonsMade', WHERE WHAT IT READS IS OF BULK AT MOST 1048576: true; the input reads as it did. -/
def skeletonsMadeUptoRow : OpenClaim := { program := "ytnjlocjikfbgdaadoor", sum := "4e3a1e2c675e0da39fa8161402e3c7386951811f9e061896f1ebe883d193eaf2", func := "vidimus/vidimuslaw20.SkeletonsMade", spec := "skeletonsMade", unfollowed := true, recurses := true, named := ["vidimus/skeletons.table", "vidimus/skeletons.sequence", "vidimus/skeletons.integer"], apart := false, laid := [("vidimus/skeletons.sequence", laid_vidimus_skeletons_sequence), ("vidimus/skeletons.integer", laid_vidimus_skeletons_integer), ("vidimus/skeletons.table", laid_vidimus_skeletons_table)], narrowed := true }
def SkeletonsMadeUptoSaid : Prop := skeletonsMadeUptoRow.holds Tryd.pinned (OpenSpec.upto skeletonsMadeSpec)

/-- 'vidimuslaw20.SkeletonsOf', WHERE WHAT IT READS IS OF BULK AT MOST 1048576: true; the input reads as it did. -/
def skeletonsOfUptoRow : OpenClaim := { program := "ytnjlocjikfbgdaadoor", sum := "4e3a1e2c675e0da39fa8161402e3c7386951811f9e061896f1ebe883d193eaf2", func := "vidimus/vidimuslaw20.SkeletonsOf", spec := "skeletonsOf", unfollowed := true, recurses := true, named := ["vidimus/skeletons.table", "vidimus/skeletons.sequence", "vidimus/skeletons.integer"], loops := true, apart := false, laid := [("vidimus/skeletons.sequence", laid_vidimus_skeletons_sequence), ("vidimus/skeletons.integer", laid_vidimus_skeletons_integer), ("vidimus/skeletons.table", laid_vidimus_skeletons_table)], narrowed := true }
def SkeletonsOfUptoSaid : Prop := skeletonsOfUptoRow.holds Tryd.pinned (OpenSpec.upto skeletonsOfSpec)

/-- 'vidimuslaw20.SkeletonsKnown', WHERE WHAT IT READS IS OF BULK AT MOST 1048576: true; the input reads as it did. -/
def skeletonsKnownUptoRow : OpenClaim := { program := "ytnjlocjikfbgdaadoor", sum := "4e3a1e2c675e0da39fa8161402e3c7386951811f9e061896f1ebe883d193eaf2", func := "vidimus/vidimuslaw20.SkeletonsKnown", spec := "skeletonsKnown", unfollowed := true, recurses := true, named := ["vidimus/skeletons.table", "vidimus/skeletons.sequence", "vidimus/skeletons.integer"], apart := false, laid := [("vidimus/skeletons.sequence", laid_vidimus_skeletons_sequence), ("vidimus/skeletons.integer", laid_vidimus_skeletons_integer), ("vidimus/skeletons.table", laid_vidimus_skeletons_table)], narrowed := true }
def SkeletonsKnownUptoSaid : Prop := skeletonsKnownUptoRow.holds Tryd.pinned (OpenSpec.upto skeletonsKnownSpec)

end Rows
end Go.Proofs.YtnjlocjikfbgdaaDoor
