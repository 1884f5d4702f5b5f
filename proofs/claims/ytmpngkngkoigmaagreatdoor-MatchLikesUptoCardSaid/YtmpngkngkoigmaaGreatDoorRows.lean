/-
  NARROWER THAN 'FOR EVERY INPUT', by the rows' own cells (each row's printed sentence says how): MatchConnects: loops, laid · MatchArgs: loops, laid · MatchOrders: loops, laid · MatchLikes: loops, laid · MatchSingles: loops, laid · LookupWhere: loops, laid · LookupFinds: loops, laid · LookupAttaches: loops, laid · LookupJoins: loops, laid · LookupAgain: loops, laid · StreamEvents: loops, laid · StreamTokens: loops, laid · StreamMerges: loops, laid · StreamSelects: loops, laid · StreamReplays: loops, laid · StreamResumes: loops, laid · StreamGrows: loops, laid · StreamParts: loops, laid.
  DERIVED. THE GIVEN ROWS OF THIS SEAT. 18 by the template 'for every input the law returns true; each argument reads behind the call as it read before'; 0 by the template 'total and deterministic' (their statements: YtmpngkngkoigmaaGreatDoorTotals.lean).
  GIVEN WITH THE SEED: the statements are not yours to turn. If you find one false, say at which input.
  Laid BY PROGRAM, IN A SANDBOX (cutbox-rows.mjs): the forced cells as the released guide's own fill.sh prints them over the translation bc0c1ab9a4ee74c5… (all of the seat's roots in one cut). By AI agents, Wed Nov 11 2026. No macro, syntax, notation, axiom, sorry.
-/
import Derived.Test.YtmpngkngkoigmaaGreatDoorChecked
import GoSem.PinnedTables
import GoSem.Claim
import GoSem.ClaimJoined
import GoSem.ClaimMapViews
import Derived.JoinedTies
import Derived.KernelRfl
namespace Go.Proofs.YtmpngkngkoigmaaGreatDoor
/- THE CELL 'sum', in the pinned program and in every row, IS THE sha256 OF THE DUMP (.gsa) THAT YtmpngkngkoigmaaGreatDoorProg.lean LOADS. Nothing in Lean hashes anything: it is a label: what it is worth is what the hold of that sum in a sandbox is worth. -/
noncomputable def Tryz.pinned : Pinned := { name := "ytmpngkngkoigmaagreatdoor", sum := "bc0c1ab9a4ee74c57b6f2642c8fa52dbac3a8d7a7f4c7639a5ad3ee303da5c19", checked := Tryz.checked }
namespace Rows
def none {H : Type} : Left H := { results := [], args := [] }

/- WHAT THE LISTED PACKAGE-LEVEL VARIABLES READ AS WHEN THE CALL BEGINS. Each datum BY PROGRAM (the guide's laid-datum.mjs) off the statement by which the dump's own 'gosem.cut.vars' lays the variable. In a bare row this is a premise. The card (YtmpngkngkoigmaaGreatDoorCards.lean) ties it to the program's text. -/
def laid_unicode_utf8_acceptRanges {H : Type} : DataW H := .agg [.agg [.lit (.int .u8 128), .lit (.int .u8 191)], .agg [.lit (.int .u8 160), .lit (.int .u8 191)], .agg [.lit (.int .u8 128), .lit (.int .u8 159)], .agg [.lit (.int .u8 144), .lit (.int .u8 191)], .agg [.lit (.int .u8 128), .lit (.int .u8 143)], .agg [.lit (.int .u8 0), .lit (.int .u8 0)], .agg [.lit (.int .u8 0), .lit (.int .u8 0)], .agg [.lit (.int .u8 0), .lit (.int .u8 0)], .agg [.lit (.int .u8 0), .lit (.int .u8 0)], .agg [.lit (.int .u8 0), .lit (.int .u8 0)], .agg [.lit (.int .u8 0), .lit (.int .u8 0)], .agg [.lit (.int .u8 0), .lit (.int .u8 0)], .agg [.lit (.int .u8 0), .lit (.int .u8 0)], .agg [.lit (.int .u8 0), .lit (.int .u8 0)], .agg [.lit (.int .u8 0), .lit (.int .u8 0)], .agg [.lit (.int .u8 0), .lit (.int .u8 0)]]
def laid_docstore_expr_operators {H : Type} : DataW H := .agg [.agg [.lit (.string []), .lit (.int .i64 0)], .agg [.lit (.string [36, 118, 97, 108, 117, 101]), .lit (.int .i64 1)], .agg [.lit (.string []), .lit (.int .i64 1)], .agg [.lit (.string []), .lit (.int .i64 1)], .agg [.lit (.string [36, 97, 100, 100]), .lit (.int .i64 6)], .agg [.lit (.string [36, 115, 117, 98]), .lit (.int .i64 3)], .agg [.lit (.string [36, 109, 117, 108]), .lit (.int .i64 6)], .agg [.lit (.string [36, 100, 105, 118]), .lit (.int .i64 3)], .agg [.lit (.string [36, 109, 111, 100]), .lit (.int .i64 3)], .agg [.lit (.string [36, 99, 109, 112]), .lit (.int .i64 3)], .agg [.lit (.string [36, 101, 113]), .lit (.int .i64 3)], .agg [.lit (.string [36, 110, 101]), .lit (.int .i64 3)], .agg [.lit (.string [36, 103, 116]), .lit (.int .i64 3)], .agg [.lit (.string [36, 103, 101]), .lit (.int .i64 3)], .agg [.lit (.string [36, 108, 116]), .lit (.int .i64 3)], .agg [.lit (.string [36, 108, 101]), .lit (.int .i64 3)], .agg [.lit (.string [36, 97, 110, 100]), .lit (.int .i64 6)], .agg [.lit (.string [36, 111, 114]), .lit (.int .i64 6)], .agg [.lit (.string [36, 110, 111, 116]), .lit (.int .i64 2)], .agg [.lit (.string [36, 105, 102]), .lit (.int .i64 4)], .agg [.lit (.string [36, 105, 102, 78, 117, 108, 108]), .lit (.int .i64 3)], .agg [.lit (.string [36, 99, 111, 110, 99, 97, 116]), .lit (.int .i64 6)], .agg [.lit (.string [36, 108, 111, 119, 101, 114]), .lit (.int .i64 2)], .agg [.lit (.string [36, 117, 112, 112, 101, 114]), .lit (.int .i64 2)], .agg [.lit (.string [36, 108, 101, 110, 103, 116, 104]), .lit (.int .i64 2)], .agg [.lit (.string [36, 115, 108, 105, 99, 101]), .lit (.int .i64 4)], .agg [.lit (.string [36, 115, 105, 122, 101]), .lit (.int .i64 2)], .agg [.lit (.string [36, 97, 116]), .lit (.int .i64 3)], .agg [.lit (.string [36, 105, 110]), .lit (.int .i64 3)], .agg [.lit (.string [36, 106, 111, 105, 110]), .lit (.int .i64 6)], .agg [.lit (.string [36, 114, 101, 118, 101, 114, 115, 101]), .lit (.int .i64 2)], .agg [.lit (.string [36, 115, 117, 109]), .lit (.int .i64 2)], .agg [.lit (.string [36, 109, 97, 112]), .lit (.int .i64 5)], .agg [.lit (.string [36, 102, 105, 108, 116, 101, 114]), .lit (.int .i64 5)], .agg [.lit (.string []), .lit (.int .i64 7)], .agg [.lit (.string []), .lit (.int .i64 6)], .agg [.lit (.string [36, 107, 105, 110, 100]), .lit (.int .i64 2)], .agg [.lit (.string [36, 109, 101, 114, 103, 101]), .lit (.int .i64 6)]]
/-- One of Go's own tables, pinned by name: the form's constant. -/
def laid_unicode_utf8_first : DataW Unit := Go.Pinned.utf8First
def laid_docstore_docstoreref09_Stops {H : Type} : DataW H := .agg [.lit (.string [97]), .lit (.string [97, 110]), .lit (.string [97, 110, 100]), .lit (.string [97, 114, 101]), .lit (.string [97, 115]), .lit (.string [97, 116]), .lit (.string [98, 101]), .lit (.string [98, 121]), .lit (.string [102, 111, 114]), .lit (.string [102, 114, 111, 109]), .lit (.string [105, 110]), .lit (.string [105, 115]), .lit (.string [105, 116]), .lit (.string [111, 102]), .lit (.string [111, 110]), .lit (.string [111, 114]), .lit (.string [116, 104, 97, 116]), .lit (.string [116, 104, 101]), .lit (.string [116, 111]), .lit (.string [119, 105, 116, 104])]

/-- 'docstorelaw15.MatchConnects': WHATEVER THE INPUT: true; the input reads as it did. -/
def matchConnectsSpec : ChangeSpec := { name := "matchConnects", fn := fun _ => fun
  | [d1, d2, d3] => { results := [.lit (.bool true)], args := [d1, d2, d3] }
  | _ => none }
def matchConnectsRow : OpenClaim := { program := "ytmpngkngkoigmaagreatdoor", sum := "bc0c1ab9a4ee74c57b6f2642c8fa52dbac3a8d7a7f4c7639a5ad3ee303da5c19", func := "docstore/docstorelaw15.MatchConnects", spec := "matchConnects", inPlace := ["internal/bytealg.abigen_runtime_cmpstring", "internal/abi.NoEscape", "internal/bytealg.CountString", "internal/bytealg.IndexByteString", "internal/bytealg.IndexString"], unfollowed := true, recurses := true, named := ["docstore/expr.operators", "unicode/utf8.first", "unicode/utf8.acceptRanges", "internal/bytealg.MaxLen"], loops := true, apart := false, laid := [("unicode/utf8.acceptRanges", laid_unicode_utf8_acceptRanges), ("docstore/expr.operators", laid_docstore_expr_operators), ("unicode/utf8.first", laid_unicode_utf8_first)] }
def MatchConnectsSaid : Prop := matchConnectsRow.holds Tryz.pinned (OpenSpec.ofChange matchConnectsSpec)

/-- ITS FALSE NEIGHBOUR: 'it returns false'. Refute it at one input. -/
def matchConnectsWrong : ChangeSpec := { name := "matchConnects", fn := fun _ => fun
  | [d1, d2, d3] => { results := [.lit (.bool false)], args := [d1, d2, d3] }
  | _ => none }
def MatchConnectsWrongFalsely : Prop := matchConnectsRow.holds Tryz.pinned (OpenSpec.ofChange matchConnectsWrong)

/-- 'docstorelaw15.MatchArgs': WHATEVER THE INPUT: true; the input reads as it did. -/
def matchArgsSpec : ChangeSpec := { name := "matchArgs", fn := fun _ => fun
  | [d] => { results := [.lit (.bool true)], args := [d] }
  | _ => none }
def matchArgsRow : OpenClaim := { program := "ytmpngkngkoigmaagreatdoor", sum := "bc0c1ab9a4ee74c57b6f2642c8fa52dbac3a8d7a7f4c7639a5ad3ee303da5c19", func := "docstore/docstorelaw15.MatchArgs", spec := "matchArgs", inPlace := ["internal/bytealg.abigen_runtime_cmpstring", "internal/abi.NoEscape", "internal/bytealg.CountString", "internal/bytealg.IndexByteString", "internal/bytealg.IndexString"], unfollowed := true, recurses := true, named := ["docstore/expr.operators", "unicode/utf8.first", "unicode/utf8.acceptRanges", "internal/bytealg.MaxLen"], loops := true, apart := false, laid := [("unicode/utf8.acceptRanges", laid_unicode_utf8_acceptRanges), ("docstore/expr.operators", laid_docstore_expr_operators), ("unicode/utf8.first", laid_unicode_utf8_first)] }
def MatchArgsSaid : Prop := matchArgsRow.holds Tryz.pinned (OpenSpec.ofChange matchArgsSpec)

/-- ITS FALSE NEIGHBOUR: 'it returns false'. Refute it at one input. -/
def matchArgsWrong : ChangeSpec := { name := "matchArgs", fn := fun _ => fun
  | [d] => { results := [.lit (.bool false)], args := [d] }
  | _ => none }
def MatchArgsWrongFalsely : Prop := matchArgsRow.holds Tryz.pinned (OpenSpec.ofChange matchArgsWrong)

/-- 'docstorelaw15.MatchOrders': WHATEVER THE INPUT: true; the input reads as it did. -/
def matchOrdersSpec : ChangeSpec := { name := "matchOrders", fn := fun _ => fun
  | [d1, d2, d3] => { results := [.lit (.bool true)], args := [d1, d2, d3] }
  | _ => none }
def matchOrdersRow : OpenClaim := { program := "ytmpngkngkoigmaagreatdoor", sum := "bc0c1ab9a4ee74c57b6f2642c8fa52dbac3a8d7a7f4c7639a5ad3ee303da5c19", func := "docstore/docstorelaw15.MatchOrders", spec := "matchOrders", inPlace := ["internal/bytealg.abigen_runtime_cmpstring", "internal/abi.NoEscape", "internal/bytealg.CountString", "internal/bytealg.IndexByteString", "internal/bytealg.IndexString"], unfollowed := true, recurses := true, named := ["docstore/expr.operators", "unicode/utf8.first", "unicode/utf8.acceptRanges", "internal/bytealg.MaxLen"], loops := true, apart := false, laid := [("unicode/utf8.acceptRanges", laid_unicode_utf8_acceptRanges), ("docstore/expr.operators", laid_docstore_expr_operators), ("unicode/utf8.first", laid_unicode_utf8_first)] }
def MatchOrdersSaid : Prop := matchOrdersRow.holds Tryz.pinned (OpenSpec.ofChange matchOrdersSpec)

/-- ITS FALSE NEIGHBOUR: 'it returns false'. Refute it at one input. -/
def matchOrdersWrong : ChangeSpec := { name := "matchOrders", fn := fun _ => fun
  | [d1, d2, d3] => { results := [.lit (.bool false)], args := [d1, d2, d3] }
  | _ => none }
def MatchOrdersWrongFalsely : Prop := matchOrdersRow.holds Tryz.pinned (OpenSpec.ofChange matchOrdersWrong)

/-- 'docstorelaw15.MatchLikes': WHATEVER THE INPUT: true; the input reads as it did. -/
def matchLikesSpec : ChangeSpec := { name := "matchLikes", fn := fun _ => fun
  | [d1, d2, d3] => { results := [.lit (.bool true)], args := [d1, d2, d3] }
  | _ => none }
def matchLikesRow : OpenClaim := { program := "ytmpngkngkoigmaagreatdoor", sum := "bc0c1ab9a4ee74c57b6f2642c8fa52dbac3a8d7a7f4c7639a5ad3ee303da5c19", func := "docstore/docstorelaw15.MatchLikes", spec := "matchLikes", inPlace := ["internal/bytealg.abigen_runtime_cmpstring", "internal/abi.NoEscape", "internal/bytealg.CountString", "internal/bytealg.IndexByteString", "internal/bytealg.IndexString"], unfollowed := true, recurses := true, named := ["docstore/expr.operators", "unicode/utf8.first", "unicode/utf8.acceptRanges", "internal/bytealg.MaxLen"], loops := true, apart := false, laid := [("unicode/utf8.acceptRanges", laid_unicode_utf8_acceptRanges), ("docstore/expr.operators", laid_docstore_expr_operators), ("unicode/utf8.first", laid_unicode_utf8_first)] }
def MatchLikesSaid : Prop := matchLikesRow.holds Tryz.pinned (OpenSpec.ofChange matchLikesSpec)

/-- ITS FALSE NEIGHBOUR: 'it returns false'. Refute it at one input. -/
def matchLikesWrong : ChangeSpec := { name := "matchLikes", fn := fun _ => fun
  | [d1, d2, d3] => { results := [.lit (.bool false)], args := [d1, d2, d3] }
  | _ => none }
def MatchLikesWrongFalsely : Prop := matchLikesRow.holds Tryz.pinned (OpenSpec.ofChange matchLikesWrong)

/-- 'docstorelaw15.MatchSingles': WHATEVER THE INPUT: true; the input reads as it did. -/
def matchSinglesSpec : ChangeSpec := { name := "matchSingles", fn := fun _ => fun
  | [d1, d2, d3] => { results := [.lit (.bool true)], args := [d1, d2, d3] }
  | _ => none }
def matchSinglesRow : OpenClaim := { program := "ytmpngkngkoigmaagreatdoor", sum := "bc0c1ab9a4ee74c57b6f2642c8fa52dbac3a8d7a7f4c7639a5ad3ee303da5c19", func := "docstore/docstorelaw15.MatchSingles", spec := "matchSingles", inPlace := ["internal/bytealg.abigen_runtime_cmpstring", "internal/abi.NoEscape", "internal/bytealg.CountString", "internal/bytealg.IndexByteString", "internal/bytealg.IndexString"], unfollowed := true, recurses := true, named := ["docstore/expr.operators", "unicode/utf8.first", "unicode/utf8.acceptRanges", "internal/bytealg.MaxLen"], loops := true, apart := false, laid := [("unicode/utf8.acceptRanges", laid_unicode_utf8_acceptRanges), ("docstore/expr.operators", laid_docstore_expr_operators), ("unicode/utf8.first", laid_unicode_utf8_first)] }
def MatchSinglesSaid : Prop := matchSinglesRow.holds Tryz.pinned (OpenSpec.ofChange matchSinglesSpec)

/-- ITS FALSE NEIGHBOUR: 'it returns false'. Refute it at one input. -/
def matchSinglesWrong : ChangeSpec := { name := "matchSingles", fn := fun _ => fun
  | [d1, d2, d3] => { results := [.lit (.bool false)], args := [d1, d2, d3] }
  | _ => none }
def MatchSinglesWrongFalsely : Prop := matchSinglesRow.holds Tryz.pinned (OpenSpec.ofChange matchSinglesWrong)

/-- 'docstorelaw35.LookupWhere': WHATEVER THE INPUT: true; the input reads as it did. -/
def lookupWhereSpec : ChangeSpec := { name := "lookupWhere", fn := fun _ => fun
  | [d1, d2] => { results := [.lit (.bool true)], args := [d1, d2] }
  | _ => none }
def lookupWhereRow : OpenClaim := { program := "ytmpngkngkoigmaagreatdoor", sum := "bc0c1ab9a4ee74c57b6f2642c8fa52dbac3a8d7a7f4c7639a5ad3ee303da5c19", func := "docstore/docstorelaw35.LookupWhere", spec := "lookupWhere", inPlace := ["internal/bytealg.abigen_runtime_cmpstring", "internal/abi.NoEscape", "internal/bytealg.CountString", "internal/bytealg.IndexByteString", "internal/bytealg.IndexString"], unfollowed := true, recurses := true, named := ["docstore/expr.operators", "unicode/utf8.first", "unicode/utf8.acceptRanges", "internal/bytealg.MaxLen"], loops := true, apart := false, laid := [("unicode/utf8.acceptRanges", laid_unicode_utf8_acceptRanges), ("docstore/expr.operators", laid_docstore_expr_operators), ("unicode/utf8.first", laid_unicode_utf8_first)] }
def LookupWhereSaid : Prop := lookupWhereRow.holds Tryz.pinned (OpenSpec.ofChange lookupWhereSpec)

/-- ITS FALSE NEIGHBOUR: 'it returns false'. Refute it at one input. -/
def lookupWhereWrong : ChangeSpec := { name := "lookupWhere", fn := fun _ => fun
  | [d1, d2] => { results := [.lit (.bool false)], args := [d1, d2] }
  | _ => none }
def LookupWhereWrongFalsely : Prop := lookupWhereRow.holds Tryz.pinned (OpenSpec.ofChange lookupWhereWrong)

/-- 'docstorelaw35.LookupFinds': WHATEVER THE INPUT: true; the input reads as it did. -/
def lookupFindsSpec : ChangeSpec := { name := "lookupFinds", fn := fun _ => fun
  | [d1, d2, d3] => { results := [.lit (.bool true)], args := [d1, d2, d3] }
  | _ => none }
def lookupFindsRow : OpenClaim := { program := "ytmpngkngkoigmaagreatdoor", sum := "bc0c1ab9a4ee74c57b6f2642c8fa52dbac3a8d7a7f4c7639a5ad3ee303da5c19", func := "docstore/docstorelaw35.LookupFinds", spec := "lookupFinds", inPlace := ["internal/bytealg.abigen_runtime_cmpstring", "internal/abi.NoEscape", "internal/bytealg.CountString", "internal/bytealg.IndexByteString", "internal/bytealg.IndexString"], unfollowed := true, recurses := true, named := ["docstore/expr.operators", "unicode/utf8.first", "unicode/utf8.acceptRanges", "internal/bytealg.MaxLen", "docstore/docstoreref09.Stops"], loops := true, apart := false, laid := [("docstore/docstoreref09.Stops", laid_docstore_docstoreref09_Stops), ("unicode/utf8.acceptRanges", laid_unicode_utf8_acceptRanges), ("docstore/expr.operators", laid_docstore_expr_operators), ("unicode/utf8.first", laid_unicode_utf8_first)] }
def LookupFindsSaid : Prop := lookupFindsRow.holds Tryz.pinned (OpenSpec.ofChange lookupFindsSpec)

/-- ITS FALSE NEIGHBOUR: 'it returns false'. Refute it at one input. -/
def lookupFindsWrong : ChangeSpec := { name := "lookupFinds", fn := fun _ => fun
  | [d1, d2, d3] => { results := [.lit (.bool false)], args := [d1, d2, d3] }
  | _ => none }
def LookupFindsWrongFalsely : Prop := lookupFindsRow.holds Tryz.pinned (OpenSpec.ofChange lookupFindsWrong)

/-- 'docstorelaw35.LookupAttaches': WHATEVER THE INPUT: true; the input reads as it did. -/
def lookupAttachesSpec : ChangeSpec := { name := "lookupAttaches", fn := fun _ => fun
  | [d1, d2, d3] => { results := [.lit (.bool true)], args := [d1, d2, d3] }
  | _ => none }
def lookupAttachesRow : OpenClaim := { program := "ytmpngkngkoigmaagreatdoor", sum := "bc0c1ab9a4ee74c57b6f2642c8fa52dbac3a8d7a7f4c7639a5ad3ee303da5c19", func := "docstore/docstorelaw35.LookupAttaches", spec := "lookupAttaches", inPlace := ["internal/bytealg.abigen_runtime_cmpstring", "internal/abi.NoEscape", "internal/bytealg.CountString", "internal/bytealg.IndexByteString", "internal/bytealg.IndexString"], unfollowed := true, recurses := true, named := ["docstore/expr.operators", "unicode/utf8.first", "unicode/utf8.acceptRanges", "internal/bytealg.MaxLen"], loops := true, apart := false, laid := [("unicode/utf8.acceptRanges", laid_unicode_utf8_acceptRanges), ("docstore/expr.operators", laid_docstore_expr_operators), ("unicode/utf8.first", laid_unicode_utf8_first)] }
def LookupAttachesSaid : Prop := lookupAttachesRow.holds Tryz.pinned (OpenSpec.ofChange lookupAttachesSpec)

/-- ITS FALSE NEIGHBOUR: 'it returns false'. Refute it at one input. -/
def lookupAttachesWrong : ChangeSpec := { name := "lookupAttaches", fn := fun _ => fun
  | [d1, d2, d3] => { results := [.lit (.bool false)], args := [d1, d2, d3] }
  | _ => none }
def LookupAttachesWrongFalsely : Prop := lookupAttachesRow.holds Tryz.pinned (OpenSpec.ofChange lookupAttachesWrong)

/-- 'docstorelaw35.LookupJoins': WHATEVER THE INPUT: true; the input reads as it did. -/
def lookupJoinsSpec : ChangeSpec := { name := "lookupJoins", fn := fun _ => fun
  | [d1, d2, d3] => { results := [.lit (.bool true)], args := [d1, d2, d3] }
  | _ => none }
def lookupJoinsRow : OpenClaim := { program := "ytmpngkngkoigmaagreatdoor", sum := "bc0c1ab9a4ee74c57b6f2642c8fa52dbac3a8d7a7f4c7639a5ad3ee303da5c19", func := "docstore/docstorelaw35.LookupJoins", spec := "lookupJoins", inPlace := ["internal/bytealg.abigen_runtime_cmpstring", "internal/abi.NoEscape", "internal/bytealg.CountString", "internal/bytealg.IndexByteString", "internal/bytealg.IndexString"], unfollowed := true, recurses := true, named := ["docstore/expr.operators", "unicode/utf8.first", "unicode/utf8.acceptRanges", "internal/bytealg.MaxLen"], loops := true, apart := false, laid := [("unicode/utf8.acceptRanges", laid_unicode_utf8_acceptRanges), ("docstore/expr.operators", laid_docstore_expr_operators), ("unicode/utf8.first", laid_unicode_utf8_first)] }
def LookupJoinsSaid : Prop := lookupJoinsRow.holds Tryz.pinned (OpenSpec.ofChange lookupJoinsSpec)

/-- ITS FALSE NEIGHBOUR: 'it returns false'. Refute it at one input. -/
def lookupJoinsWrong : ChangeSpec := { name := "lookupJoins", fn := fun _ => fun
  | [d1, d2, d3] => { results := [.lit (.bool false)], args := [d1, d2, d3] }
  | _ => none }
def LookupJoinsWrongFalsely : Prop := lookupJoinsRow.holds Tryz.pinned (OpenSpec.ofChange lookupJoinsWrong)

/-- 'docstorelaw35.LookupAgain': WHATEVER THE INPUT: true; the input reads as it did. -/
def lookupAgainSpec : ChangeSpec := { name := "lookupAgain", fn := fun _ => fun
  | [d1, d2, d3] => { results := [.lit (.bool true)], args := [d1, d2, d3] }
  | _ => none }
def lookupAgainRow : OpenClaim := { program := "ytmpngkngkoigmaagreatdoor", sum := "bc0c1ab9a4ee74c57b6f2642c8fa52dbac3a8d7a7f4c7639a5ad3ee303da5c19", func := "docstore/docstorelaw35.LookupAgain", spec := "lookupAgain", inPlace := ["internal/bytealg.abigen_runtime_cmpstring", "internal/abi.NoEscape", "internal/bytealg.CountString", "internal/bytealg.IndexByteString", "internal/bytealg.IndexString"], unfollowed := true, recurses := true, named := ["docstore/expr.operators", "unicode/utf8.first", "unicode/utf8.acceptRanges", "internal/bytealg.MaxLen"], loops := true, apart := false, laid := [("unicode/utf8.acceptRanges", laid_unicode_utf8_acceptRanges), ("docstore/expr.operators", laid_docstore_expr_operators), ("unicode/utf8.first", laid_unicode_utf8_first)] }
def LookupAgainSaid : Prop := lookupAgainRow.holds Tryz.pinned (OpenSpec.ofChange lookupAgainSpec)

/-- ITS FALSE NEIGHBOUR: 'it returns false'. Refute it at one input. -/
def lookupAgainWrong : ChangeSpec := { name := "lookupAgain", fn := fun _ => fun
  | [d1, d2, d3] => { results := [.lit (.bool false)], args := [d1, d2, d3] }
  | _ => none }
def LookupAgainWrongFalsely : Prop := lookupAgainRow.holds Tryz.pinned (OpenSpec.ofChange lookupAgainWrong)

/-- 'docstorelaw55.StreamEvents': WHATEVER THE INPUT: true; the input reads as it did. -/
def streamEventsSpec : ChangeSpec := { name := "streamEvents", fn := fun _ => fun
  | [d1, d2] => { results := [.lit (.bool true)], args := [d1, d2] }
  | _ => none }
def streamEventsRow : OpenClaim := { program := "ytmpngkngkoigmaagreatdoor", sum := "bc0c1ab9a4ee74c57b6f2642c8fa52dbac3a8d7a7f4c7639a5ad3ee303da5c19", func := "docstore/docstorelaw55.StreamEvents", spec := "streamEvents", inPlace := ["internal/bytealg.abigen_runtime_cmpstring", "internal/abi.NoEscape", "internal/bytealg.CountString", "internal/bytealg.IndexByteString", "internal/bytealg.IndexString"], unfollowed := true, recurses := true, named := ["docstore/expr.operators", "unicode/utf8.first", "unicode/utf8.acceptRanges", "internal/bytealg.MaxLen"], loops := true, apart := false, laid := [("unicode/utf8.acceptRanges", laid_unicode_utf8_acceptRanges), ("docstore/expr.operators", laid_docstore_expr_operators), ("unicode/utf8.first", laid_unicode_utf8_first)] }
def StreamEventsSaid : Prop := streamEventsRow.holds Tryz.pinned (OpenSpec.ofChange streamEventsSpec)

/-- ITS FALSE NEIGHBOUR: 'it returns false'. Refute it at one input. -/
def streamEventsWrong : ChangeSpec := { name := "streamEvents", fn := fun _ => fun
  | [d1, d2] => { results := [.lit (.bool false)], args := [d1, d2] }
  | _ => none }
def StreamEventsWrongFalsely : Prop := streamEventsRow.holds Tryz.pinned (OpenSpec.ofChange streamEventsWrong)

/-- 'docstorelaw55.StreamTokens': WHATEVER THE INPUT: true; the input reads as it did. -/
def streamTokensSpec : ChangeSpec := { name := "streamTokens", fn := fun _ => fun
  | [d1, d2, d3] => { results := [.lit (.bool true)], args := [d1, d2, d3] }
  | _ => none }
def streamTokensRow : OpenClaim := { program := "ytmpngkngkoigmaagreatdoor", sum := "bc0c1ab9a4ee74c57b6f2642c8fa52dbac3a8d7a7f4c7639a5ad3ee303da5c19", func := "docstore/docstorelaw55.StreamTokens", spec := "streamTokens", inPlace := ["internal/bytealg.abigen_runtime_cmpstring", "internal/abi.NoEscape", "internal/bytealg.CountString", "internal/bytealg.IndexByteString", "internal/bytealg.IndexString"], unfollowed := true, recurses := true, named := ["docstore/expr.operators", "unicode/utf8.first", "unicode/utf8.acceptRanges", "internal/bytealg.MaxLen"], loops := true, apart := false, laid := [("unicode/utf8.acceptRanges", laid_unicode_utf8_acceptRanges), ("docstore/expr.operators", laid_docstore_expr_operators), ("unicode/utf8.first", laid_unicode_utf8_first)] }
def StreamTokensSaid : Prop := streamTokensRow.holds Tryz.pinned (OpenSpec.ofChange streamTokensSpec)

/-- ITS FALSE NEIGHBOUR: 'it returns false'. Refute it at one input. -/
def streamTokensWrong : ChangeSpec := { name := "streamTokens", fn := fun _ => fun
  | [d1, d2, d3] => { results := [.lit (.bool false)], args := [d1, d2, d3] }
  | _ => none }
def StreamTokensWrongFalsely : Prop := streamTokensRow.holds Tryz.pinned (OpenSpec.ofChange streamTokensWrong)

/-- 'docstorelaw55.StreamMerges': WHATEVER THE INPUT: true; the input reads as it did. -/
def streamMergesSpec : ChangeSpec := { name := "streamMerges", fn := fun _ => fun
  | [d1, d2] => { results := [.lit (.bool true)], args := [d1, d2] }
  | _ => none }
def streamMergesRow : OpenClaim := { program := "ytmpngkngkoigmaagreatdoor", sum := "bc0c1ab9a4ee74c57b6f2642c8fa52dbac3a8d7a7f4c7639a5ad3ee303da5c19", func := "docstore/docstorelaw55.StreamMerges", spec := "streamMerges", inPlace := ["internal/bytealg.abigen_runtime_cmpstring", "internal/abi.NoEscape", "internal/bytealg.CountString", "internal/bytealg.IndexByteString", "internal/bytealg.IndexString"], unfollowed := true, recurses := true, named := ["docstore/expr.operators", "unicode/utf8.first", "unicode/utf8.acceptRanges", "internal/bytealg.MaxLen"], loops := true, apart := false, laid := [("unicode/utf8.acceptRanges", laid_unicode_utf8_acceptRanges), ("docstore/expr.operators", laid_docstore_expr_operators), ("unicode/utf8.first", laid_unicode_utf8_first)] }
def StreamMergesSaid : Prop := streamMergesRow.holds Tryz.pinned (OpenSpec.ofChange streamMergesSpec)

/-- ITS FALSE NEIGHBOUR: 'it returns false'. Refute it at one input. -/
def streamMergesWrong : ChangeSpec := { name := "streamMerges", fn := fun _ => fun
  | [d1, d2] => { results := [.lit (.bool false)], args := [d1, d2] }
  | _ => none }
def StreamMergesWrongFalsely : Prop := streamMergesRow.holds Tryz.pinned (OpenSpec.ofChange streamMergesWrong)

/-- 'docstorelaw55.StreamSelects': WHATEVER THE INPUT: true; the input reads as it did. -/
def streamSelectsSpec : ChangeSpec := { name := "streamSelects", fn := fun _ => fun
  | [d1, d2, d3] => { results := [.lit (.bool true)], args := [d1, d2, d3] }
  | _ => none }
def streamSelectsRow : OpenClaim := { program := "ytmpngkngkoigmaagreatdoor", sum := "bc0c1ab9a4ee74c57b6f2642c8fa52dbac3a8d7a7f4c7639a5ad3ee303da5c19", func := "docstore/docstorelaw55.StreamSelects", spec := "streamSelects", inPlace := ["internal/bytealg.abigen_runtime_cmpstring", "internal/abi.NoEscape", "internal/bytealg.CountString", "internal/bytealg.IndexByteString", "internal/bytealg.IndexString"], unfollowed := true, recurses := true, named := ["docstore/expr.operators", "unicode/utf8.first", "unicode/utf8.acceptRanges", "internal/bytealg.MaxLen", "docstore/docstoreref09.Stops"], loops := true, apart := false, laid := [("docstore/docstoreref09.Stops", laid_docstore_docstoreref09_Stops), ("unicode/utf8.acceptRanges", laid_unicode_utf8_acceptRanges), ("docstore/expr.operators", laid_docstore_expr_operators), ("unicode/utf8.first", laid_unicode_utf8_first)] }
def StreamSelectsSaid : Prop := streamSelectsRow.holds Tryz.pinned (OpenSpec.ofChange streamSelectsSpec)

/-- ITS FALSE NEIGHBOUR: 'it returns false'. Refute it at one input. -/
def streamSelectsWrong : ChangeSpec := { name := "streamSelects", fn := fun _ => fun
  | [d1, d2, d3] => { results := [.lit (.bool false)], args := [d1, d2, d3] }
  | _ => none }
def StreamSelectsWrongFalsely : Prop := streamSelectsRow.holds Tryz.pinned (OpenSpec.ofChange streamSelectsWrong)

/-- 'docstorelaw55.StreamReplays': WHATEVER THE INPUT: true; the input reads as it did. -/
def streamReplaysSpec : ChangeSpec := { name := "streamReplays", fn := fun _ => fun
  | [d1, d2, d3] => { results := [.lit (.bool true)], args := [d1, d2, d3] }
  | _ => none }
def streamReplaysRow : OpenClaim := { program := "ytmpngkngkoigmaagreatdoor", sum := "bc0c1ab9a4ee74c57b6f2642c8fa52dbac3a8d7a7f4c7639a5ad3ee303da5c19", func := "docstore/docstorelaw55.StreamReplays", spec := "streamReplays", inPlace := ["internal/bytealg.abigen_runtime_cmpstring", "internal/abi.NoEscape", "internal/bytealg.CountString", "internal/bytealg.IndexByteString", "internal/bytealg.IndexString"], unfollowed := true, recurses := true, named := ["docstore/expr.operators", "unicode/utf8.first", "unicode/utf8.acceptRanges", "internal/bytealg.MaxLen"], loops := true, apart := false, laid := [("unicode/utf8.acceptRanges", laid_unicode_utf8_acceptRanges), ("docstore/expr.operators", laid_docstore_expr_operators), ("unicode/utf8.first", laid_unicode_utf8_first)] }
def StreamReplaysSaid : Prop := streamReplaysRow.holds Tryz.pinned (OpenSpec.ofChange streamReplaysSpec)

/-- ITS FALSE NEIGHBOUR: 'it returns false'. Refute it at one input. -/
def streamReplaysWrong : ChangeSpec := { name := "streamReplays", fn := fun _ => fun
  | [d1, d2, d3] => { results := [.lit (.bool false)], args := [d1, d2, d3] }
  | _ => none }
def StreamReplaysWrongFalsely : Prop := streamReplaysRow.holds Tryz.pinned (OpenSpec.ofChange streamReplaysWrong)

/-- 'docstorelaw55.StreamResumes': WHATEVER THE INPUT: true; the input reads as it did. -/
def streamResumesSpec : ChangeSpec := { name := "streamResumes", fn := fun _ => fun
  | [d1, d2] => { results := [.lit (.bool true)], args := [d1, d2] }
  | _ => none }
def streamResumesRow : OpenClaim := { program := "ytmpngkngkoigmaagreatdoor", sum := "bc0c1ab9a4ee74c57b6f2642c8fa52dbac3a8d7a7f4c7639a5ad3ee303da5c19", func := "docstore/docstorelaw55.StreamResumes", spec := "streamResumes", inPlace := ["internal/bytealg.abigen_runtime_cmpstring", "internal/abi.NoEscape", "internal/bytealg.CountString", "internal/bytealg.IndexByteString", "internal/bytealg.IndexString"], unfollowed := true, recurses := true, named := ["docstore/expr.operators", "unicode/utf8.first", "unicode/utf8.acceptRanges", "internal/bytealg.MaxLen"], loops := true, apart := false, laid := [("unicode/utf8.acceptRanges", laid_unicode_utf8_acceptRanges), ("docstore/expr.operators", laid_docstore_expr_operators), ("unicode/utf8.first", laid_unicode_utf8_first)] }
def StreamResumesSaid : Prop := streamResumesRow.holds Tryz.pinned (OpenSpec.ofChange streamResumesSpec)

/-- ITS FALSE NEIGHBOUR: 'it returns false'. Refute it at one input. -/
def streamResumesWrong : ChangeSpec := { name := "streamResumes", fn := fun _ => fun
  | [d1, d2] => { results := [.lit (.bool false)], args := [d1, d2] }
  | _ => none }
def StreamResumesWrongFalsely : Prop := streamResumesRow.holds Tryz.pinned (OpenSpec.ofChange streamResumesWrong)

/-- 'docstorelaw55.StreamGrows': WHATEVER THE INPUT: true; the input reads as it did. -/
def streamGrowsSpec : ChangeSpec := { name := "streamGrows", fn := fun _ => fun
  | [d1, d2, d3] => { results := [.lit (.bool true)], args := [d1, d2, d3] }
  | _ => none }
def streamGrowsRow : OpenClaim := { program := "ytmpngkngkoigmaagreatdoor", sum := "bc0c1ab9a4ee74c57b6f2642c8fa52dbac3a8d7a7f4c7639a5ad3ee303da5c19", func := "docstore/docstorelaw55.StreamGrows", spec := "streamGrows", inPlace := ["internal/bytealg.abigen_runtime_cmpstring", "internal/abi.NoEscape", "internal/bytealg.CountString", "internal/bytealg.IndexByteString", "internal/bytealg.IndexString"], unfollowed := true, recurses := true, named := ["docstore/expr.operators", "unicode/utf8.first", "unicode/utf8.acceptRanges", "internal/bytealg.MaxLen"], loops := true, apart := false, laid := [("unicode/utf8.acceptRanges", laid_unicode_utf8_acceptRanges), ("docstore/expr.operators", laid_docstore_expr_operators), ("unicode/utf8.first", laid_unicode_utf8_first)] }
def StreamGrowsSaid : Prop := streamGrowsRow.holds Tryz.pinned (OpenSpec.ofChange streamGrowsSpec)

/-- ITS FALSE NEIGHBOUR: 'it returns false'. Refute it at one input. -/
def streamGrowsWrong : ChangeSpec := { name := "streamGrows", fn := fun _ => fun
  | [d1, d2, d3] => { results := [.lit (.bool false)], args := [d1, d2, d3] }
  | _ => none }
def StreamGrowsWrongFalsely : Prop := streamGrowsRow.holds Tryz.pinned (OpenSpec.ofChange streamGrowsWrong)

/-- 'docstorelaw55.StreamParts': WHATEVER THE INPUT: true; the input reads as it did. -/
def streamPartsSpec : ChangeSpec := { name := "streamParts", fn := fun _ => fun
  | [d1, d2, d3] => { results := [.lit (.bool true)], args := [d1, d2, d3] }
  | _ => none }
def streamPartsRow : OpenClaim := { program := "ytmpngkngkoigmaagreatdoor", sum := "bc0c1ab9a4ee74c57b6f2642c8fa52dbac3a8d7a7f4c7639a5ad3ee303da5c19", func := "docstore/docstorelaw55.StreamParts", spec := "streamParts", inPlace := ["internal/bytealg.abigen_runtime_cmpstring", "internal/abi.NoEscape", "internal/bytealg.CountString", "internal/bytealg.IndexByteString", "internal/bytealg.IndexString"], unfollowed := true, recurses := true, named := ["docstore/expr.operators", "unicode/utf8.first", "unicode/utf8.acceptRanges", "internal/bytealg.MaxLen"], loops := true, apart := false, laid := [("unicode/utf8.acceptRanges", laid_unicode_utf8_acceptRanges), ("docstore/expr.operators", laid_docstore_expr_operators), ("unicode/utf8.first", laid_unicode_utf8_first)] }
def StreamPartsSaid : Prop := streamPartsRow.holds Tryz.pinned (OpenSpec.ofChange streamPartsSpec)

/-- ITS FALSE NEIGHBOUR: 'it returns false'. Refute it at one input. -/
def streamPartsWrong : ChangeSpec := { name := "streamParts", fn := fun _ => fun
  | [d1, d2, d3] => { results := [.lit (.bool false)], args := [d1, d2, d3] }
  | _ => none }
def StreamPartsWrongFalsely : Prop := streamPartsRow.holds Tryz.pinned (OpenSpec.ofChange streamPartsWrong)

/- THE SECOND FORM. 'bulk': how many values and letters a reading holds, each counted each time it is reached (what is shared counts as often as it is met; a slice's spare places count too). A statement '..UptoSaid' is the law's where the arguments, and the package variables that the reading takes, are together of bulk at most 1048576: NARROWER than '..Said'. Prove '..Said' where nothing that the law and all that it calls make is longer than what came in: it says more and counts as full. Else prove '..UptoSaid'. A law counts once. -/
mutual
def uptoBulk {H : Type} : DataW H → Nat
  | .lit (.string bytes) => bytes.length + 1
  | .lit _ => 1
  | .nil => 1
  | .ptr d => uptoBulk d + 1
  | .slice elems spare => uptoBulkAll elems + uptoBulkAll spare + 1
  | .agg parts => uptoBulkAll parts + 1
  | .iface _ d => uptoBulk d + 1
  | .map entries => uptoBulkEntries entries + 1
  | .held _ => 1
def uptoBulkAll {H : Type} : List (DataW H) → Nat
  | [] => 0
  | d :: r => uptoBulk d + uptoBulkAll r
def uptoBulkEntries {H : Type} : List (Lit × DataW H) → Nat
  | [] => 0
  | x :: r => uptoBulkEntry x + uptoBulkEntries r
def uptoBulkEntry {H : Type} : Lit × DataW H → Nat
  | (.string bytes, d) => bytes.length + uptoBulk d + 1
  | (_, d) => uptoBulk d + 1
 end
def uptoSmall : (H : Type) → List (DataW H) → Bool := fun _ ds => decide (uptoBulkAll ds ≤ 1048576)
def OpenSpec.upto (s : _root_.Go.ChangeSpec) : _root_.Go.OpenSpec := { _root_.Go.OpenSpec.ofChange s with cond := some uptoSmall }

/-- 'docstorelaw15.MatchConnects', WHERE WHAT IT READS IS OF BULK AT MOST 1048576: true; the input reads as it did. -/
def matchConnectsUptoRow : OpenClaim := { program := "ytmpngkngkoigmaagreatdoor", sum := "bc0c1ab9a4ee74c57b6f2642c8fa52dbac3a8d7a7f4c7639a5ad3ee303da5c19", func := "docstore/docstorelaw15.MatchConnects", spec := "matchConnects", inPlace := ["internal/bytealg.abigen_runtime_cmpstring", "internal/abi.NoEscape", "internal/bytealg.CountString", "internal/bytealg.IndexByteString", "internal/bytealg.IndexString"], unfollowed := true, recurses := true, named := ["docstore/expr.operators", "unicode/utf8.first", "unicode/utf8.acceptRanges", "internal/bytealg.MaxLen"], loops := true, apart := false, laid := [("unicode/utf8.acceptRanges", laid_unicode_utf8_acceptRanges), ("docstore/expr.operators", laid_docstore_expr_operators), ("unicode/utf8.first", laid_unicode_utf8_first)], narrowed := true }
def MatchConnectsUptoSaid : Prop := matchConnectsUptoRow.holds Tryz.pinned (OpenSpec.upto matchConnectsSpec)

/-- 'docstorelaw15.MatchArgs', WHERE WHAT IT READS IS OF BULK AT MOST 1048576: true; the input reads as it did. -/
def matchArgsUptoRow : OpenClaim := { program := "ytmpngkngkoigmaagreatdoor", sum := "bc0c1ab9a4ee74c57b6f2642c8fa52dbac3a8d7a7f4c7639a5ad3ee303da5c19", func := "docstore/docstorelaw15.MatchArgs", spec := "matchArgs", inPlace := ["internal/bytealg.abigen_runtime_cmpstring", "internal/abi.NoEscape", "internal/bytealg.CountString", "internal/bytealg.IndexByteString", "internal/bytealg.IndexString"], unfollowed := true, recurses := true, named := ["docstore/expr.operators", "unicode/utf8.first", "unicode/utf8.acceptRanges", "internal/bytealg.MaxLen"], loops := true, apart := false, laid := [("unicode/utf8.acceptRanges", laid_unicode_utf8_acceptRanges), ("docstore/expr.operators", laid_docstore_expr_operators), ("unicode/utf8.first", laid_unicode_utf8_first)], narrowed := true }
def MatchArgsUptoSaid : Prop := matchArgsUptoRow.holds Tryz.pinned (OpenSpec.upto matchArgsSpec)

/-- 'docstorelaw15.MatchOrders', WHERE WHAT IT READS IS OF BULK AT MOST 1048576: true; the input reads as it did. -/
def matchOrdersUptoRow : OpenClaim := { program := "ytmpngkngkoigmaagreatdoor", sum := "bc0c1ab9a4ee74c57b6f2642c8fa52dbac3a8d7a7f4c7639a5ad3ee303da5c19", func := "docstore/docstorelaw15.MatchOrders", spec := "matchOrders", inPlace := ["internal/bytealg.abigen_runtime_cmpstring", "internal/abi.NoEscape", "internal/bytealg.CountString", "internal/bytealg.IndexByteString", "internal/bytealg.IndexString"], unfollowed := true, recurses := true, named := ["docstore/expr.operators", "unicode/utf8.first", "unicode/utf8.acceptRanges", "internal/bytealg.MaxLen"], loops := true, apart := false, laid := [("unicode/utf8.acceptRanges", laid_unicode_utf8_acceptRanges), ("docstore/expr.operators", laid_docstore_expr_operators), ("unicode/utf8.first", laid_unicode_utf8_first)], narrowed := true }
def MatchOrdersUptoSaid : Prop := matchOrdersUptoRow.holds Tryz.pinned (OpenSpec.upto matchOrdersSpec)

/-- 'docstorelaw15.MatchLikes', WHERE WHAT IT READS IS OF BULK AT MOST 1048576: true; the input reads as it did. -/
def matchLikesUptoRow : OpenClaim := { program := "ytmpngkngkoigmaagreatdoor", sum := "bc0c1ab9a4ee74c57b6f2642c8fa52dbac3a8d7a7f4c7639a5ad3ee303da5c19", func := "docstore/docstorelaw15.MatchLikes", spec := "matchLikes", inPlace := ["internal/bytealg.abigen_runtime_cmpstring", "internal/abi.NoEscape", "internal/bytealg.CountString", "internal/bytealg.IndexByteString", "internal/bytealg.IndexString"], unfollowed := true, recurses := true, named := ["docstore/expr.operators", "unicode/utf8.first", "unicode/utf8.acceptRanges", "internal/bytealg.MaxLen"], loops := true, apart := false, laid := [("unicode/utf8.acceptRanges", laid_unicode_utf8_acceptRanges), ("docstore/expr.operators", laid_docstore_expr_operators), ("unicode/utf8.first", laid_unicode_utf8_first)], narrowed := true }
def MatchLikesUptoSaid : Prop := matchLikesUptoRow.holds Tryz.pinned (OpenSpec.upto matchLikesSpec)

/-- 'docstorelaw15.MatchSingles', WHERE WHAT IT READS IS OF BULK AT MOST 1048576: true; the input reads as it did. -/
def matchSinglesUptoRow : OpenClaim := { program := "ytmpngkngkoigmaagreatdoor", sum := "bc0c1ab9a4ee74c57b6f2642c8fa52dbac3a8d7a7f4c7639a5ad3ee303da5c19", func := "docstore/docstorelaw15.MatchSingles", spec := "matchSingles", inPlace := ["internal/bytealg.abigen_runtime_cmpstring", "internal/abi.NoEscape", "internal/bytealg.CountString", "internal/bytealg.IndexByteString", "internal/bytealg.IndexString"], unfollowed := true, recurses := true, named := ["docstore/expr.operators", "unicode/utf8.first", "unicode/utf8.acceptRanges", "internal/bytealg.MaxLen"], loops := true, apart := false, laid := [("unicode/utf8.acceptRanges", laid_unicode_utf8_acceptRanges), ("docstore/expr.operators", laid_docstore_expr_operators), ("unicode/utf8.first", laid_unicode_utf8_first)], narrowed := true }
def MatchSinglesUptoSaid : Prop := matchSinglesUptoRow.holds Tryz.pinned (OpenSpec.upto matchSinglesSpec)

/-- 'docstorelaw35.LookupWhere', WHERE WHAT IT READS IS OF BULK AT MOST 1048576: true; the input reads as it did. -/
def lookupWhereUptoRow : OpenClaim := { program := "ytmpngkngkoigmaagreatdoor", sum := "bc0c1ab9a4ee74c57b6f2642c8fa52dbac3a8d7a7f4c7639a5ad3ee303da5c19", func := "docstore/docstorelaw35.LookupWhere", spec := "lookupWhere", inPlace := ["internal/bytealg.abigen_runtime_cmpstring", "internal/abi.NoEscape", "internal/bytealg.CountString", "internal/bytealg.IndexByteString", "internal/bytealg.IndexString"], unfollowed := true, recurses := true, named := ["docstore/expr.operators", "unicode/utf8.first", "unicode/utf8.acceptRanges", "internal/bytealg.MaxLen"], loops := true, apart := false, laid := [("unicode/utf8.acceptRanges", laid_unicode_utf8_acceptRanges), ("docstore/expr.operators", laid_docstore_expr_operators), ("unicode/utf8.first", laid_unicode_utf8_first)], narrowed := true }
def LookupWhereUptoSaid : Prop := lookupWhereUptoRow.holds Tryz.pinned (OpenSpec.upto lookupWhereSpec)

/-- 'docstorelaw35.LookupFinds', WHERE WHAT IT READS IS OF BULK AT MOST 1048576: true; the input reads as it did. -/
def lookupFindsUptoRow : OpenClaim := { program := "ytmpngkngkoigmaagreatdoor", sum := "bc0c1ab9a4ee74c57b6f2642c8fa52dbac3a8d7a7f4c7639a5ad3ee303da5c19", func := "docstore/docstorelaw35.LookupFinds", spec := "lookupFinds", inPlace := ["internal/bytealg.abigen_runtime_cmpstring", "internal/abi.NoEscape", "internal/bytealg.CountString", "internal/bytealg.IndexByteString", "internal/bytealg.IndexString"], unfollowed := true, recurses := true, named := ["docstore/expr.operators", "unicode/utf8.first", "unicode/utf8.acceptRanges", "internal/bytealg.MaxLen", "docstore/docstoreref09.Stops"], loops := true, apart := false, laid := [("docstore/docstoreref09.Stops", laid_docstore_docstoreref09_Stops), ("unicode/utf8.acceptRanges", laid_unicode_utf8_acceptRanges), ("docstore/expr.operators", laid_docstore_expr_operators), ("unicode/utf8.first", laid_unicode_utf8_first)], narrowed := true }
def LookupFindsUptoSaid : Prop := lookupFindsUptoRow.holds Tryz.pinned (OpenSpec.upto lookupFindsSpec)

/-- 'docstorelaw35.LookupAttaches', WHERE WHAT IT READS IS OF BULK AT MOST 1048576: true; the input reads as it did. -/
def lookupAttachesUptoRow : OpenClaim := { program := "ytmpngkngkoigmaagreatdoor", sum := "bc0c1ab9a4ee74c57b6f2642c8fa52dbac3a8d7a7f4c7639a5ad3ee303da5c19", func := "docstore/docstorelaw35.LookupAttaches", spec := "lookupAttaches", inPlace := ["internal/bytealg.abigen_runtime_cmpstring", "internal/abi.NoEscape", "internal/bytealg.CountString", "internal/bytealg.IndexByteString", "internal/bytealg.IndexString"], unfollowed := true, recurses := true, named := ["docstore/expr.operators", "unicode/utf8.first", "unicode/utf8.acceptRanges", "internal/bytealg.MaxLen"], loops := true, apart := false, laid := [("unicode/utf8.acceptRanges", laid_unicode_utf8_acceptRanges), ("docstore/expr.operators", laid_docstore_expr_operators), ("unicode/utf8.first", laid_unicode_utf8_first)], narrowed := true }
def LookupAttachesUptoSaid : Prop := lookupAttachesUptoRow.holds Tryz.pinned (OpenSpec.upto lookupAttachesSpec)

/-- 'docstorelaw35.LookupJoins', WHERE WHAT IT READS IS OF BULK AT MOST 1048576: true; the input reads as it did. -/
def lookupJoinsUptoRow : OpenClaim := { program := "ytmpngkngkoigmaagreatdoor", sum := "bc0c1ab9a4ee74c57b6f2642c8fa52dbac3a8d7a7f4c7639a5ad3ee303da5c19", func := "docstore/docstorelaw35.LookupJoins", spec := "lookupJoins", inPlace := ["internal/bytealg.abigen_runtime_cmpstring", "internal/abi.NoEscape", "internal/bytealg.CountString", "internal/bytealg.IndexByteString", "internal/bytealg.IndexString"], unfollowed := true, recurses := true, named := ["docstore/expr.operators", "unicode/utf8.first", "unicode/utf8.acceptRanges", "internal/bytealg.MaxLen"], loops := true, apart := false, laid := [("unicode/utf8.acceptRanges", laid_unicode_utf8_acceptRanges), ("docstore/expr.operators", laid_docstore_expr_operators), ("unicode/utf8.first", laid_unicode_utf8_first)], narrowed := true }
def LookupJoinsUptoSaid : Prop := lookupJoinsUptoRow.holds Tryz.pinned (OpenSpec.upto lookupJoinsSpec)

/-- 'docstorelaw35.LookupAgain', WHERE WHAT IT READS IS OF BULK AT MOST 1048576: true; the input reads as it did. -/
def lookupAgainUptoRow : OpenClaim := { program := "ytmpngkngkoigmaagreatdoor", sum := "bc0c1ab9a4ee74c57b6f2642c8fa52dbac3a8d7a7f4c7639a5ad3ee303da5c19", func := "docstore/docstorelaw35.LookupAgain", spec := "lookupAgain", inPlace := ["internal/bytealg.abigen_runtime_cmpstring", "internal/abi.NoEscape", "internal/bytealg.CountString", "internal/bytealg.IndexByteString", "internal/bytealg.IndexString"], unfollowed := true, recurses := true, named := ["docstore/expr.operators", "unicode/utf8.first", "unicode/utf8.acceptRanges", "internal/bytealg.MaxLen"], loops := true, apart := false, laid := [("unicode/utf8.acceptRanges", laid_unicode_utf8_acceptRanges), ("docstore/expr.operators", laid_docstore_expr_operators), ("unicode/utf8.first", laid_unicode_utf8_first)], narrowed := true }
def LookupAgainUptoSaid : Prop := lookupAgainUptoRow.holds Tryz.pinned (OpenSpec.upto lookupAgainSpec)

/-- 'docstorelaw55.StreamEvents', WHERE WHAT IT READS IS OF BULK AT MOST 1048576: true; the input reads as it did. -/
def streamEventsUptoRow : OpenClaim := { program := "ytmpngkngkoigmaagreatdoor", sum := "bc0c1ab9a4ee74c57b6f2642c8fa52dbac3a8d7a7f4c7639a5ad3ee303da5c19", func := "docstore/docstorelaw55.StreamEvents", spec := "streamEvents", inPlace := ["internal/bytealg.abigen_runtime_cmpstring", "internal/abi.NoEscape", "internal/bytealg.CountString", "internal/bytealg.IndexByteString", "internal/bytealg.IndexString"], unfollowed := true, recurses := true, named := ["docstore/expr.operators", "unicode/utf8.first", "unicode/utf8.acceptRanges", "internal/bytealg.MaxLen"], loops := true, apart := false, laid := [("unicode/utf8.acceptRanges", laid_unicode_utf8_acceptRanges), ("docstore/expr.operators", laid_docstore_expr_operators), ("unicode/utf8.first", laid_unicode_utf8_first)], narrowed := true }
def StreamEventsUptoSaid : Prop := streamEventsUptoRow.holds Tryz.pinned (OpenSpec.upto streamEventsSpec)

/-- 'docstorelaw55.StreamTokens', WHERE WHAT IT READS IS OF BULK AT MOST 1048576: true; the input reads as it did. -/
def streamTokensUptoRow : OpenClaim := { program := "ytmpngkngkoigmaagreatdoor", sum := "bc0c1ab9a4ee74c57b6f2642c8fa52dbac3a8d7a7f4c7639a5ad3ee303da5c19", func := "docstore/docstorelaw55.StreamTokens", spec := "streamTokens", inPlace := ["internal/bytealg.abigen_runtime_cmpstring", "internal/abi.NoEscape", "internal/bytealg.CountString", "internal/bytealg.IndexByteString", "internal/bytealg.IndexString"], unfollowed := true, recurses := true, named := ["docstore/expr.operators", "unicode/utf8.first", "unicode/utf8.acceptRanges", "internal/bytealg.MaxLen"], loops := true, apart := false, laid := [("unicode/utf8.acceptRanges", laid_unicode_utf8_acceptRanges), ("docstore/expr.operators", laid_docstore_expr_operators), ("unicode/utf8.first", laid_unicode_utf8_first)], narrowed := true }
def StreamTokensUptoSaid : Prop := streamTokensUptoRow.holds Tryz.pinned (OpenSpec.upto streamTokensSpec)

/-- 'docstorelaw55.StreamMerges', WHERE WHAT IT READS IS OF BULK AT MOST 1048576: true; the input reads as it did. -/
def streamMergesUptoRow : OpenClaim := { program := "ytmpngkngkoigmaagreatdoor", sum := "bc0c1ab9a4ee74c57b6f2642c8fa52dbac3a8d7a7f4c7639a5ad3ee303da5c19", func := "docstore/docstorelaw55.StreamMerges", spec := "streamMerges", inPlace := ["internal/bytealg.abigen_runtime_cmpstring", "internal/abi.NoEscape", "internal/bytealg.CountString", "internal/bytealg.IndexByteString", "internal/bytealg.IndexString"], unfollowed := true, recurses := true, named := ["docstore/expr.operators", "unicode/utf8.first", "unicode/utf8.acceptRanges", "internal/bytealg.MaxLen"], loops := true, apart := false, laid := [("unicode/utf8.acceptRanges", laid_unicode_utf8_acceptRanges), ("docstore/expr.operators", laid_docstore_expr_operators), ("unicode/utf8.first", laid_unicode_utf8_first)], narrowed := true }
def StreamMergesUptoSaid : Prop := streamMergesUptoRow.holds Tryz.pinned (OpenSpec.upto streamMergesSpec)

/-- 'docstorelaw55.StreamSelects', WHERE WHAT IT READS IS OF BULK AT MOST 1048576: true; the input reads as it did. -/
def streamSelectsUptoRow : OpenClaim := { program := "ytmpngkngkoigmaagreatdoor", sum := "bc0c1ab9a4ee74c57b6f2642c8fa52dbac3a8d7a7f4c7639a5ad3ee303da5c19", func := "docstore/docstorelaw55.StreamSelects", spec := "streamSelects", inPlace := ["internal/bytealg.abigen_runtime_cmpstring", "internal/abi.NoEscape", "internal/bytealg.CountString", "internal/bytealg.IndexByteString", "internal/bytealg.IndexString"], unfollowed := true, recurses := true, named := ["docstore/expr.operators", "unicode/utf8.first", "unicode/utf8.acceptRanges", "internal/bytealg.MaxLen", "docstore/docstoreref09.Stops"], loops := true, apart := false, laid := [("docstore/docstoreref09.Stops", laid_docstore_docstoreref09_Stops), ("unicode/utf8.acceptRanges", laid_unicode_utf8_acceptRanges), ("docstore/expr.operators", laid_docstore_expr_operators), ("unicode/utf8.first", laid_unicode_utf8_first)], narrowed := true }
def StreamSelectsUptoSaid : Prop := streamSelectsUptoRow.holds Tryz.pinned (OpenSpec.upto streamSelectsSpec)

/-- 'docstorelaw55.StreamReplays', WHERE WHAT IT READS IS OF BULK AT MOST 1048576: true; the input reads as it did. -/
def streamReplaysUptoRow : OpenClaim := { program := "ytmpngkngkoigmaagreatdoor", sum := "bc0c1ab9a4ee74c57b6f2642c8fa52dbac3a8d7a7f4c7639a5ad3ee303da5c19", func := "docstore/docstorelaw55.StreamReplays", spec := "streamReplays", inPlace := ["internal/bytealg.abigen_runtime_cmpstring", "internal/abi.NoEscape", "internal/bytealg.CountString", "internal/bytealg.IndexByteString", "internal/bytealg.IndexString"], unfollowed := true, recurses := true, named := ["docstore/expr.operators", "unicode/utf8.first", "unicode/utf8.acceptRanges", "internal/bytealg.MaxLen"], loops := true, apart := false, laid := [("unicode/utf8.acceptRanges", laid_unicode_utf8_acceptRanges), ("docstore/expr.operators", laid_docstore_expr_operators), ("unicode/utf8.first", laid_unicode_utf8_first)], narrowed := true }
def StreamReplaysUptoSaid : Prop := streamReplaysUptoRow.holds Tryz.pinned (OpenSpec.upto streamReplaysSpec)

/-- 'docstorelaw55.StreamResumes', WHERE WHAT IT READS IS OF BULK AT MOST 1048576: true; the input reads as it did. -/
def streamResumesUptoRow : OpenClaim := { program := "ytmpngkngkoigmaagreatdoor", sum := "bc0c1ab9a4ee74c57b6f2642c8fa52dbac3a8d7a7f4c7639a5ad3ee303da5c19", func := "docstore/docstorelaw55.StreamResumes", spec := "streamResumes", inPlace := ["internal/bytealg.abigen_runtime_cmpstring", "internal/abi.NoEscape", "internal/bytealg.CountString", "internal/bytealg.IndexByteString", "internal/bytealg.IndexString"], unfollowed := true, recurses := true, named := ["docstore/expr.operators", "unicode/utf8.first", "unicode/utf8.acceptRanges", "internal/bytealg.MaxLen"], loops := true, apart := false, laid := [("unicode/utf8.acceptRanges", laid_unicode_utf8_acceptRanges), ("docstore/expr.operators", laid_docstore_expr_operators), ("unicode/utf8.first", laid_unicode_utf8_first)], narrowed := true }
def StreamResumesUptoSaid : Prop := streamResumesUptoRow.holds Tryz.pinned (OpenSpec.upto streamResumesSpec)

/-- 'docstorelaw55.StreamGrows', WHERE WHAT IT READS IS OF BULK AT MOST 1048576: true; the input reads as it did. -/
def streamGrowsUptoRow : OpenClaim := { program := "ytmpngkngkoigmaagreatdoor", sum := "bc0c1ab9a4ee74c57b6f2642c8fa52dbac3a8d7a7f4c7639a5ad3ee303da5c19", func := "docstore/docstorelaw55.StreamGrows", spec := "streamGrows", inPlace := ["internal/bytealg.abigen_runtime_cmpstring", "internal/abi.NoEscape", "internal/bytealg.CountString", "internal/bytealg.IndexByteString", "internal/bytealg.IndexString"], unfollowed := true, recurses := true, named := ["docstore/expr.operators", "unicode/utf8.first", "unicode/utf8.acceptRanges", "internal/bytealg.MaxLen"], loops := true, apart := false, laid := [("unicode/utf8.acceptRanges", laid_unicode_utf8_acceptRanges), ("docstore/expr.operators", laid_docstore_expr_operators), ("unicode/utf8.first", laid_unicode_utf8_first)], narrowed := true }
def StreamGrowsUptoSaid : Prop := streamGrowsUptoRow.holds Tryz.pinned (OpenSpec.upto streamGrowsSpec)

/-- 'docstorelaw55.StreamParts', WHERE WHAT IT READS IS OF BULK AT MOST 1048576: true; the input reads as it did. -/
def streamPartsUptoRow : OpenClaim := { program := "ytmpngkngkoigmaagreatdoor", sum := "bc0c1ab9a4ee74c57b6f2642c8fa52dbac3a8d7a7f4c7639a5ad3ee303da5c19", func := "docstore/docstorelaw55.StreamParts", spec := "streamParts", inPlace := ["internal/bytealg.abigen_runtime_cmpstring", "internal/abi.NoEscape", "internal/bytealg.CountString", "internal/bytealg.IndexByteString", "internal/bytealg.IndexString"], unfollowed := true, recurses := true, named := ["docstore/expr.operators", "unicode/utf8.first", "unicode/utf8.acceptRanges", "internal/bytealg.MaxLen"], loops := true, apart := false, laid := [("unicode/utf8.acceptRanges", laid_unicode_utf8_acceptRanges), ("docstore/expr.operators", laid_docstore_expr_operators), ("unicode/utf8.first", laid_unicode_utf8_first)], narrowed := true }
def StreamPartsUptoSaid : Prop := streamPartsUptoRow.holds Tryz.pinned (OpenSpec.upto streamPartsSpec)

end Rows
end Go.Proofs.YtmpngkngkoigmaaGreatDoor
