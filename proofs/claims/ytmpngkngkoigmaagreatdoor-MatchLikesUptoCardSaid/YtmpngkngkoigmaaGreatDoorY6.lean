/- Helping lemmas for the cards of this seat's laws, of the texts: Y6. They state no law of their own. -/
import Derived.Test.YtmpngkngkoigmaaGreatDoorY0
set_option linter.unusedVariables false
set_option linter.unusedSimpArgs false
set_option maxRecDepth 100000
set_option maxHeartbeats 4000000
namespace Go.Proofs.YtmpngkngkoigmaaGreatDoor.lawMatchLikes
open Go.ChangeShapes Go.WideShapes Go.ChangeAt Go.RowKit Go.Fw Go.Proofs.YtmpngkngkoigmaaGreatDoor.base

theorem a1 : (Rows.matchLikesUptoRow.inPlace == Tryz.prog.inPlace 6) = true := by kernel_rfl
theorem a2 : (Rows.matchLikesUptoRow.unfollowed == Tryz.prog.unfollowed 6) = true := by kernel_rfl
theorem a3 : (Rows.matchLikesUptoRow.recurses == Tryz.prog.recurses 6) = true := by kernel_rfl
theorem a4 : (Rows.matchLikesUptoRow.named == Tryz.prog.varsNamed 6) = true := by kernel_rfl
theorem an {a b : Bool} (h : a = true) (k : b = true) : (a && b) = true := by rw [h, k]; rfl
theorem closed : joinedFacts Tryz.prog 6 Tryz.f6 (Rows.OpenSpec.upto Rows.matchLikesSpec).bare Rows.matchLikesUptoRow = true :=
  an (an (an (an (an (an (an (an (an (an (an (an (an (an (an (an (an (an (an (an (an (an (an (an (an (an (an (an (an (an (an (by as_aux_lemma => kernel_rfl) p1) p2) (by as_aux_lemma => kernel_rfl)) (by as_aux_lemma => kernel_rfl)) (by as_aux_lemma => kernel_rfl)) (by as_aux_lemma => kernel_rfl)) (by as_aux_lemma => kernel_rfl)) (by as_aux_lemma => kernel_rfl)) a1) a2) a3) a4) (by as_aux_lemma => kernel_rfl)) (by as_aux_lemma => kernel_rfl)) (by as_aux_lemma => kernel_rfl)) (by as_aux_lemma => kernel_rfl)) (by as_aux_lemma => kernel_rfl)) (by as_aux_lemma => kernel_rfl)) (by as_aux_lemma => kernel_rfl)) (by as_aux_lemma => kernel_rfl)) (by as_aux_lemma => kernel_rfl)) ((congrArg (Rows.matchLikesUptoRow.plainKeys == ·) p9).trans (by as_aux_lemma => kernel_rfl))) (by as_aux_lemma => kernel_rfl)) p5) p6) ((congrArg (Rows.matchLikesUptoRow.lifted == ·) p7).trans (by as_aux_lemma => kernel_rfl))) ((congrArg (· == some Rows.matchLikesUptoRow.make) p8).trans (by as_aux_lemma => kernel_rfl))) (by as_aux_lemma => kernel_rfl)) (by as_aux_lemma => kernel_rfl)) (by as_aux_lemma => kernel_rfl)) (by as_aux_lemma => kernel_rfl)
theorem goes : false = Rows.matchLikesUptoRow.goesBy Tryz.pinned.checked.prog := by kernel_rfl
theorem byText : Rows.matchLikesUptoRow.wfByText (Rows.OpenSpec.upto Rows.matchLikesSpec) = true := by kernel_rfl
theorem hfn : Tryz.prog.funcNamed "docstore/docstorelaw15.MatchLikes" = some 6 := by kernel_rfl
theorem hinst : Tryz.f6.isInstance Tryz.prog Rows.matchLikesUptoRow.origin Rows.matchLikesUptoRow.targs := of_decide_eq_true (by kernel_rfl)
theorem hwrap : Tryz.f6.isWrapper Tryz.prog Rows.matchLikesUptoRow.wrapper Rows.matchLikesUptoRow.mainSum := by
  unfold Func.isWrapper
  first
    | (rw [if_pos (by decide +kernel)]; kernel_rfl)
    | (rw [if_neg (by decide +kernel)]; exact ⟨rfl, rfl⟩)
theorem hT : ∀ t ∈ Tryz.f6.params.toList, t < Tryz.prog.types.size := types_of (by kernel_rfl)
theorem hS : ∀ (j : Nat) t, Tryz.f6.params[j]? = some t → Tryz.prog.wantsStandIn t = false := wants_of (by kernel_rfl)
theorem resT : Tryz.f6.resultTypes = #[4] := by kernel_rfl

def wargs : Array Value := #[.slice none 0 0, .string ⟨#[]⟩, .agg #[.int .i64 0, .int .i64 0, .string ⟨#[]⟩, .slice none 0 0, .slice none 0 0]]
def wdata {H : Type} : List (DataW H) := [.nil, .lit (.string []), .agg [.lit (.int .i64 0), .lit (.int .i64 0), .lit (.string []), .nil, .nil]]

theorem laid_met (os : Os) : laidMet Tryz.prog Rows.matchLikesUptoRow.laid ((laidWorld os).forCall (fun _ _ => 0) ⟨#[], wargs, []⟩).memory :=
  laidMet_of_run3 8 (by kernel_rfl) (by kernel_rfl) (by kernel_rfl)
theorem reads (os : Os) {H : Type} (enc : TypeId × Value → H) : ∃ places, DataW.whole enc Tryz.prog ((laidWorld os).forCall (fun _ _ => 0) ⟨#[], wargs, []⟩).memory Tryz.f6.params.toList Rows.matchLikesSpec.vars false wargs.toList 8 = some (wdata, [], places) :=
  ⟨[], by kernel_rfl⟩
end Go.Proofs.YtmpngkngkoigmaaGreatDoor.lawMatchLikes
