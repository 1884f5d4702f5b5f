/- Helping lemmas for the cards of this seat's laws, of the texts: Y0. They state no law of their own. -/
import Derived.Test.YtmpngkngkoigmaaGreatDoorFrame
set_option linter.unusedVariables false
set_option linter.unusedSimpArgs false
set_option maxRecDepth 100000
set_option maxHeartbeats 4000000
namespace Go.Proofs.YtmpngkngkoigmaaGreatDoor.base
open Go.ChangeShapes Go.WideShapes Go.ChangeAt Go.RowKit Go.Fw

theorem take3 {α : Type} {l : List α} {a b c : α} (h : l.take 3 = [a, b, c]) : ∃ r, l = a :: b :: c :: r := by
  match l, h with
  | x :: y :: z :: r, h =>
    simp at h
    obtain ⟨rfl, rfl, rfl⟩ := h
    exact ⟨r, rfl⟩

theorem strip_cut (r : List (List Char)) : stripLifts liftWords ("cut".toList :: r) = ([], "cut".toList :: r) := by kernel_rfl
theorem behind_cut (r : List (List Char)) : behindMainWord ("harness".toList :: "fa26b72c75ac2a8628cf58f61129b090e830502a93132e8bf89773f63a309af4".toList :: "cut".toList :: r) = "cut".toList :: r := by kernel_rfl

section
variable {P : Program} {r : List (List Char)}
theorem mayEnter_of (hb : behindMainWord (wordsSigns P.initOrder.toList) = "cut".toList :: r) (l : P.laysLater = false) (b : P.bearsReflect = false) (d : P.doorFits [] = true) : P.mayEnter = true := by
  unfold Program.mayEnter
  rw [hb]
  dsimp only
  rw [strip_cut, l, b]
  dsimp only
  rw [d]
  simp
theorem headLifts_of (hb : behindMainWord (wordsSigns P.initOrder.toList) = "cut".toList :: r) : P.headLifts = [] := by
  unfold Program.headLifts
  rw [hb, strip_cut]
  simp
theorem liftsFinal_of (hb : behindMainWord (wordsSigns P.initOrder.toList) = "cut".toList :: r) : P.liftsFinal = false := by
  unfold Program.liftsFinal
  rw [hb, headLifts_of hb]
  kernel_rfl
theorem make_of (hb : behindMainWord (wordsSigns P.initOrder.toList) = "cut".toList :: r) : P.make = some .cut := by
  unfold Program.make
  rw [hb]
  kernel_rfl
theorem mainIs_of {s : String} (hb : wordsSigns P.initOrder.toList = "harness".toList :: s.toList :: r) (hs : isSumSigns s.toList = true) : P.mainIs = some (true, s.toList) := by
  unfold Program.mainIs
  rw [hb]
  simp [hs]
end

theorem w3 : (wordsSigns Tryz.prog.initOrder.toList).take 3 = ["harness".toList, "fa26b72c75ac2a8628cf58f61129b090e830502a93132e8bf89773f63a309af4".toList, "cut".toList] := by kernel_rfl
theorem later : Tryz.prog.laysLater = false := by kernel_rfl
theorem reflect : Tryz.prog.bearsReflect = false := by kernel_rfl
theorem door : Tryz.prog.doorFits [] = true := by kernel_rfl
theorem p6 : Tryz.prog.mayEnter = true := by
  obtain ⟨r, h⟩ := take3 w3
  exact mayEnter_of (by rw [h, behind_cut]) later reflect door
theorem p7 : Tryz.prog.liftsFinal = false := by
  obtain ⟨r, h⟩ := take3 w3
  exact liftsFinal_of (r := r) (by rw [h, behind_cut])
theorem p8 : Tryz.prog.make = some .cut := by
  obtain ⟨r, h⟩ := take3 w3
  exact make_of (r := r) (by rw [h, behind_cut])
theorem mainIs : Tryz.prog.mainIs = some (true, "fa26b72c75ac2a8628cf58f61129b090e830502a93132e8bf89773f63a309af4".toList) := by
  obtain ⟨r, h⟩ := take3 w3
  exact mainIs_of h (by kernel_rfl)
theorem p1 : laidOutB Tryz.prog = true := by kernel_rfl
theorem p2 : mapsRowed Tryz.prog = true := by kernel_rfl
theorem p5 : Tryz.prog.stopsHeard = true := by kernel_rfl
theorem p9 : Tryz.prog.plainKeys = true := by kernel_rfl
end Go.Proofs.YtmpngkngkoigmaaGreatDoor.base
