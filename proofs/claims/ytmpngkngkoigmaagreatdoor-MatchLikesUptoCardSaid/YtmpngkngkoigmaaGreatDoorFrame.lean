/- Helping lemmas for the cards of this seat's laws, of the texts: X1. They state no law of their own. -/
import Derived.Test.YtmpngkngkoigmaaGreatDoorCards
import Derived.Test.YtmpngkngkoigmaaGreatDoorTie
import Derived.WalkKit
import Derived.ProofKit
import Derived.OpenShut
import Derived.Deep.DeepHandedRow
import Derived.Deep.DeepLaidRun
import Derived.Lib.LaidTab
import Derived.Test.YtmpngkngkoigmaaGreatDoorRd
set_option linter.unusedVariables false
set_option linter.unusedSimpArgs false
namespace Go.Proofs.YtmpngkngkoigmaaGreatDoor.base
open Go.ChangeShapes Go.WideShapes Go.ChangeAt Go.RowKit Go.Fw

theorem own : ownKnob Tryz.prog.godebug = none := by kernel_rfl
theorem kids : Kids Tryz.prog (· < Tryz.prog.types.size) := kids_rows (by kernel_rfl) (by kernel_rfl)
theorem full : ∀ t e, t < Tryz.prog.types.size → Tryz.prog.underlying t = some (.slice e) → 0 < Tryz.prog.cellsOf e := slices_full_of Tryz.prog (by kernel_rfl)

/-- The cells that a datum is read off. -/
def cellL : DataW Unit → List Value
  | .lit (.int k n) => [.int k n]
  | .lit (.string bs) => [.string ⟨bs.toArray⟩]
  | .lit (.bool b) => [.bool b]
  | .agg l => cellLs l
  | _ => []
  where cellLs : List (DataW Unit) → List Value
  | [] => []
  | d :: r => cellL d ++ cellLs r

def setCells (cs : List Value) : Obj → Obj
  | .cells _ t frozen => .cells cs.toArray t frozen
  | o => o

/-- The settled world in which the listed tables hold what their initialisers lay. -/
noncomputable def laidWorld (os : Os) : World :=
  let w := World.holding Tryz.prog os ⟨#[], #[], []⟩
  { w with heap := (((w.heap.modify 1 (setCells (cellL Rows.laid_docstore_expr_operators))).modify 2 (setCells (cellL Rows.laid_unicode_utf8_first))).modify 3 (setCells (cellL Rows.laid_unicode_utf8_acceptRanges))).modify 4 (setCells (cellL Rows.laid_docstore_docstoreref09_Stops)) }

theorem all_sum {H : Type} : ∀ l : List (DataW H), Rows.uptoBulkAll l = (l.map Rows.uptoBulk).sum
  | [] => by simp [Rows.uptoBulkAll]
  | d :: l => by simp only [Rows.uptoBulkAll, List.map_cons, List.sum_cons, all_sum l]

theorem bulkF {H : Type} : BulkF (Rows.uptoBulk (H := H)) where
  pos d := by
    cases d with
    | lit l => cases l <;> simp [Rows.uptoBulk]
    | nil => simp [Rows.uptoBulk]
    | ptr d => simp [Rows.uptoBulk]
    | slice elems spare => simp [Rows.uptoBulk]
    | agg parts => simp [Rows.uptoBulk]
    | iface t d => simp [Rows.uptoBulk]
    | map entries => simp [Rows.uptoBulk]
    | held h => simp [Rows.uptoBulk]
  str s := by simp [Rows.uptoBulk]
  slice es sp := by simp only [Rows.uptoBulk, all_sum]; omega
  agg l := by simp only [Rows.uptoBulk, all_sum]; omega

theorem small {H : Type} {l : List (DataW H)} (hk : Rows.uptoSmall H l = true) : (l.map Rows.uptoBulk).sum ≤ 1048576 := by
  have h : Rows.uptoBulkAll l ≤ 1048576 := of_decide_eq_true hk
  rw [all_sum] at h
  exact h
theorem lim : 1048576 * 128 ≤ LIM := by rw [LIM_eq]; omega

section
variable {H : Type} {enc : TypeId × Value → H} {W : World} {b0 : Nat} {v : Value} {d : DataW H} {ps : List MemPlace}
set_option maxRecDepth 100000 in
theorem arg_val (hv : Value.okWide Tryz.prog W .any b0 26 v) (h : DataW.Trod enc Tryz.prog W 0 (fun _ => true) true 26 v d ps) (hb : Rows.uptoBulk d ≤ 1048576) :
    ∃ (x : Val) (cs : List Value), v = .agg cs.toArray ∧ RepV (fun _ => True) W x cs ∧ nodesV x ≤ Rows.uptoBulk d := by
  obtain ⟨cs, rfl, -⟩ := okWide_struct Tryz.underlying26 hv
  obtain ⟨fuel, h⟩ := h
  obtain ⟨x, h1, h2⟩ := repV_of_trod bulkF 1048576 lim fuel _ (d, ps) h hb
  exact ⟨x, cs.toList, by simp, h1, h2⟩
set_option maxRecDepth 100000 in
theorem arg_path (hv : Value.okWide Tryz.prog W .any b0 22 v) (h : DataW.Trod enc Tryz.prog W 0 (fun _ => true) true 22 v d ps) (hb : Rows.uptoBulk d ≤ 1048576) :
    ∃ (p : List ByteArray) (A : Option Addr) (m c : Nat), v = .slice A m c ∧ RepB (fun _ => True) W A m c p := by
  obtain ⟨a, l, k, rfl⟩ := okWide_slice Tryz.underlying22 hv
  obtain ⟨fuel, h⟩ := h
  obtain ⟨p, A, m, c, h1, h2⟩ := repB_of_trod bulkF 1048576 lim fuel _ (d, ps) h hb
  simp only [Value.cells, List.cons.injEq, and_true] at h1
  exact ⟨p, A, m, c, h1, h2⟩
set_option maxRecDepth 100000 in
theorem arg_str (hv : Value.okWide Tryz.prog W .any b0 9 v) (h : DataW.Trod enc Tryz.prog W 0 (fun _ => true) true 9 v d ps) (hb : Rows.uptoBulk d ≤ 1048576) :
    ∃ s : ByteArray, v = .string s ∧ s.size + 1 ≤ 1048576 := by
  obtain ⟨s, rfl⟩ := okWide_string Tryz.underlying9 hv
  obtain ⟨fuel, h⟩ := h
  obtain ⟨s', h1, h2, -⟩ := DataW.trod_string Tryz.underlying9 h
  simp only [Value.cells, List.cons.injEq, and_true, Value.string.injEq] at h1
  subst h1
  have h2 : d = .lit (.string s.data.toList) := congrArg Prod.fst h2
  subst h2
  have hs := bulkF.str (H := H) s.data.toList
  have hz : s.size = s.data.toList.length := rfl
  exact ⟨s, rfl, by omega⟩
theorem types_of {l : List TypeId} (h : (l.all fun t => decide (t < Tryz.prog.types.size)) = true) : ∀ t ∈ l, t < Tryz.prog.types.size := fun t ht => of_decide_eq_true (List.all_eq_true.mp h t ht)
set_option maxRecDepth 100000 in
theorem wants_of {l : Array TypeId} (h : (l.toList.all fun t => !(Tryz.prog.wantsStandIn t)) = true) : ∀ (j : Nat) t, l[j]? = some t → Tryz.prog.wantsStandIn t = false := by
  intro j t ht
  have hm : t ∈ l.toList := Array.mem_toList_iff.mpr (Array.mem_of_getElem? ht)
  have := List.all_eq_true.mp h t hm
  revert this
  cases Tryz.prog.wantsStandIn t
  · exact fun _ => rfl
  · exact fun e => e.symm
end
end Go.Proofs.YtmpngkngkoigmaaGreatDoor.base
