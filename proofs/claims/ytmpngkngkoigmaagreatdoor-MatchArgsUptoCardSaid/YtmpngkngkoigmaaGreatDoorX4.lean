/-
  What is proved: the given card of the law docstorelaw15.MatchArgs holds: every call within the bounds returns true, nothing that stood is changed. Conditions: the bulk of the call's data is at most 1048576 (the statement's own condition, the upto form), and what the row itself lists (the package variables laid as their initialisers lay them).
-/
import Derived.Test.YtmpngkngkoigmaaGreatDoorY4
import Derived.Test.YtmpngkngkoigmaaGreatDoorW25
set_option linter.unusedVariables false
set_option linter.unusedSimpArgs false
set_option maxRecDepth 100000
set_option maxHeartbeats 4000000
namespace Go.Proofs.YtmpngkngkoigmaaGreatDoor.lawMatchArgs
open Go.ChangeShapes Go.WideShapes Go.ChangeAt Go.RowKit Go.Fw Go.Proofs.YtmpngkngkoigmaaGreatDoor.base

theorem contract (H : Type) (enc : TypeId × Value → H) (W : World) (base : Nat) (args : Array Value) (ds gs : List (DataW H)) (before : List MemPlace)
    (hval : ∀ (j : Nat) t v, Tryz.f4.params[j]? = some t → args[j]? = some v → Value.okWide Tryz.prog W .any base t v)
    (hW : DataW.Whole enc Tryz.prog Tryz.f4.params.toList Rows.matchArgsSpec.vars false W args.toList ds gs before) (hk : Rows.uptoSmall H (ds ++ gs) = true)
    (hL : laidMetH Tryz.prog Rows.matchArgsUptoRow.laid W) :
    Calls Tryz.prog 4 args W fun e W' => ∃ v, e = .returned v ∧ Rows.matchArgsSpec.post enc Tryz.prog Tryz.f4 false true false false W args v W' := by
  have hW' := hW
  obtain ⟨p, q, hA0, hV, rfl, hfz, hnd⟩ := hW
  have hA : DataW.TrodAll enc Tryz.prog W 0 (fun _ => true) true Tryz.f4.params.toList args.toList ds p := hA0
  rw [Tryz.params4] at hA
  rw [Tryz.params4] at hval
  obtain ⟨v0, vs0, d0, ds0, p0, q0, hargs, rfl, rfl, h0, r0⟩ := trodAll_cons hA
  obtain ⟨rfl, rfl, rfl⟩ := trodAll_nil r0
  obtain rfl : args = #[v0] := by cases args; simp_all
  obtain ⟨rfl, rfl⟩ := trodVars_none hV
  have hb := small hk
  simp only [List.append_nil, List.map_cons, List.map_nil, List.sum_cons, List.sum_nil, Nat.add_zero] at hb
  obtain ⟨fuel, h0⟩ := h0
  obtain ⟨xs, n, rfl, hx, hlen, hxl, hfld⟩ := DataW.trod_struct Tryz.underlying40 h0
  rw [show Tryz.prog.cellsOf 40 = 16 by kernel_rfl] at hlen
  have hxl : xs.length = 4 := hxl
  obtain ⟨x0, x1, x2, x3, rfl⟩ : ∃ a b c d, xs = [a, b, c, d] := by
    match xs, hxl with
    | [a, b, c, d], _ => exact ⟨_, _, _, _, rfl⟩
  obtain ⟨cs, rfl⟩ : ∃ cs : List Value, v0 = .agg cs.toArray := by
    cases v0 with
    | agg cs => exact ⟨cs.toList, by simp⟩
    | _ => simp [Value.cells] at hlen
  simp only [Value.cells] at hlen hfld
  have hlen : cs.length = 16 := hlen
  have f0 := hfld 0 { name := "Path", type := 22, offset := 0, embedded := false, tag := "", pkgPath := "", byteOffset := 0 } rfl
  have f1 := hfld 1 { name := "X", type := 26, offset := 1, embedded := false, tag := "", pkgPath := "", byteOffset := 24 } rfl
  have f2 := hfld 2 { name := "Y", type := 26, offset := 6, embedded := false, tag := "", pkgPath := "", byteOffset := 104 } rfl
  have f3 := hfld 3 { name := "Doc", type := 26, offset := 11, embedded := false, tag := "", pkgPath := "", byteOffset := 184 } rfl
  simp only [cells22, cells26, List.drop_zero, List.getElem?_cons_zero, List.getElem?_cons_succ] at f0 f1 f2 f3
  have hd0 : d0 = .agg [x0.1, x1.1, x2.1, x3.1] := congrArg Prod.fst hx
  have hag := bulkF.agg (H := H) [x0.1, x1.1, x2.1, x3.1]
  rw [← hd0] at hag
  simp only [List.map_cons, List.map_nil, List.sum_cons, List.sum_nil] at hag
  obtain ⟨pp, A, m, c, hcp, hp⟩ := repB_of_trod bulkF 1048576 lim _ _ _ f0 (by omega)
  obtain ⟨x, hx1, -⟩ := repV_of_trod bulkF 1048576 lim _ _ _ f1 (by omega)
  obtain ⟨y, hy1, -⟩ := repV_of_trod bulkF 1048576 lim _ _ _ f2 (by omega)
  obtain ⟨d, hd1, hdn⟩ := repV_of_trod bulkF 1048576 lim _ _ _ f3 (by omega)
  have hcs : cs = .slice A m c :: ((cs.drop 1).take 5 ++ ((cs.drop 6).take 5 ++ (cs.drop 11).take 5)) := by
    have e : cs = cs.take 1 ++ ((cs.drop 1).take 5 ++ ((cs.drop 6).take 5 ++ (cs.drop 11).take 5)) := by
      have e3 : (cs.drop 11).take 5 = cs.drop 11 := List.take_of_length_le (by rw [List.length_drop]; omega)
      have e2 : (cs.drop 6).take 5 ++ cs.drop 11 = cs.drop 6 := by
        have := List.take_append_drop 5 (cs.drop 6)
        rw [List.drop_drop] at this
        exact this
      have e1 : (cs.drop 1).take 5 ++ cs.drop 6 = cs.drop 1 := by
        have := List.take_append_drop 5 (cs.drop 1)
        rw [List.drop_drop] at this
        exact this
      rw [e3, e2, e1, List.take_append_drop]
    have e0 : cs.take 1 = [.slice A m c] := hcp
    rw [e0] at e
    exact e
  have walk := c4 pp x y d _ _ _ _ W A m c _ _ _ hp hx1 hy1 hd1 (by omega)
  rw [← hcs] at walk
  refine walk.mono fun e W' ⟨v, he, hkp, hv⟩ => ⟨v, he, ?_⟩
  subst hv
  refine post_of_kp kids full hT (by simpa using hW') rfl rfl rfl hkp (fun _ _ _ => ?_) ?_
  · exact trodAll_cons_mk (shut_bool Tryz.underlying4 _) trodAll_mk0
  · exact ok_one resT rfl (okWide_bool_mk Tryz.underlying4 _)

theorem liftedUpto (os : Os) (started : os.Started) (H : Type) (enc : TypeId × Value → H) (F : Stop.Interp) :
    ReturnsInHanded {} Tryz.checked os 4 .any ((Rows.OpenSpec.upto Rows.matchArgsSpec).preRow enc Tryz.prog Tryz.f4 Rows.matchArgsUptoRow.domain false Rows.matchArgsUptoRow.laid) (((Rows.OpenSpec.upto Rows.matchArgsSpec).at F).post enc Tryz.prog Tryz.f4 false true false false) := by
  obtain ⟨places, hx⟩ := reads os enc
  refine returnsInHanded_of_row (C := Tryz.checked) (s := Rows.OpenSpec.upto Rows.matchArgsSpec) own started (by kernel_rfl) Tryz.func4
    (witness_row_at (enc := enc) (C := Tryz.checked) false (laidWorld os) wargs rfl (by kernel_rfl) (by kernel_rfl) (by kernel_rfl)
      (OpenSpec.preRow_of_cond 8 hx (by kernel_rfl) (fun k hk => by cases hk; kernel_rfl) (by kernel_rfl) (laid_met os))) ?_
  intro W base args ds gs before hval hW _ hcond _ hL _ _
  exact contract H enc W base args ds gs before hval hW (hcond _ rfl) hL

theorem saidUpto : Rows.MatchArgsUptoSaid :=
  OpenClaim.holds_of_cond 4 Tryz.f4 rfl rfl rfl rfl rfl rfl rfl ⟨rfl, rfl, rfl, rfl, rfl⟩ rfl rfl rfl rfl rfl hfn Tryz.func4 closed hinst hwrap
    (fun os started H enc _ F => by rw [OpenClaim.pre_eq_preRow]; exact liftedUpto os started H enc F)

theorem plain (f : FuncId) (fn : Func) (hf : Tryz.pinned.checked.prog.funcNamed "docstore/docstorelaw15.MatchArgs" = some f) (hf2 : Tryz.pinned.checked.prog.funcs[f]? = some fn) :
    false = Tryz.pinned.checked.prog.looks [] ∧ ∀ (j : Nat) t, fn.params[j]? = some t → Tryz.pinned.checked.prog.wantsStandIn t = false := by
  obtain rfl : f = 4 := (Option.some.inj (hfn.symm.trans hf)).symm
  obtain rfl : fn = Tryz.f4 := (Option.some.inj (Tryz.func4.symm.trans hf2)).symm
  exact ⟨by kernel_rfl, hS⟩

theorem cardUpto : Rows.MatchArgsUptoCardSaid :=
  Claim7.holds_tied_plain_at .later [] _ _ _ _ saidUpto (fun _ h => by cases h) byText (fun _ h => by cases h) matchArgsUpto_row_tie rfl ⟨rfl, rfl⟩ mainIs rfl plain goes
end Go.Proofs.YtmpngkngkoigmaaGreatDoor.lawMatchArgs
