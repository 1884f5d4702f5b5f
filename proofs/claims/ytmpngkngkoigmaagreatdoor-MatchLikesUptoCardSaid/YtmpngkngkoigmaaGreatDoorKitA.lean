/- Helping lemmas for the cards of this seat's laws, of the texts: Fw1, Fw2, Fw3, Fw4, Fw5, Fw6. They state no law of their own. -/
import Derived.WalkKit
import Derived.KernelRfl
import Derived.OrdersHeld
import Derived.Deep.LoopGhost
set_option linter.unusedVariables false
set_option linter.unusedSimpArgs false
namespace Go.Fw
open Go

/-! ### Worlds: what may have changed -/

/-- Nothing that stood in w has changed in w', but for the blocks of D. -/
structure Kp (D : Nat → Prop) (w w' : World) : Prop where
  os : w'.os = w.os
  tape : w'.tape = w.tape
  output : w'.output = w.output
  size : w.heap.size ≤ w'.heap.size
  block : ∀ k, k < w.heap.size → ¬ D k → w'.heap[k]? = w.heap[k]?

def No : Nat → Prop := fun _ => False

theorem Kp.refl (D : Nat → Prop) (w : World) : Kp D w w := ⟨rfl, rfl, rfl, Nat.le_refl _, fun _ _ _ => rfl⟩
theorem Kp.trans {D : Nat → Prop} {a b c : World} (h : Kp D a b) (k : Kp D b c) : Kp D a c :=
  ⟨k.os.trans h.os, k.tape.trans h.tape, k.output.trans h.output, Nat.le_trans h.size k.size,
   fun i hi hd => (k.block i (Nat.lt_of_lt_of_le hi h.size) hd).trans (h.block i hi hd)⟩
theorem Kp.mono {D D' : Nat → Prop} {a b : World} (h : Kp D a b) (hd : ∀ k, k < a.heap.size → D k → D' k) : Kp D' a b :=
  ⟨h.os, h.tape, h.output, h.size, fun i hi hn => h.block i hi fun hd' => hn (hd i hi hd')⟩
theorem Kp.of_no {D : Nat → Prop} {a b : World} (h : Kp No a b) : Kp D a b := h.mono fun _ _ h => h.elim
theorem Kp.drew {D : Nat → Prop} {a b : World} (h : Kp D a b) : Kp D a { b with drawn := b.drawn + 1 } :=
  ⟨h.os, h.tape, h.output, h.size, h.block⟩
theorem Kp.then {D : Nat → Prop} {a b c : World} (h : Kp D a b) (k : Kp No b c) : Kp D a c := h.trans k.of_no
theorem Kp.alloc (w : World) (o : Obj) : Kp No w { w with heap := w.heap.push o } :=
  ⟨rfl, rfl, rfl, by simp, fun k hk _ => by simp [Array.getElem?_push]; omega⟩
theorem Kp.below {B : Nat} {w w' : World} (h : Kp (fun k => B ≤ k) w w') : Go.RowKit.Below B w w' ∨ w.heap.size < B := by
  by_cases hb : B ≤ w.heap.size
  · exact .inl ⟨h.os, h.tape, h.output, h.size, fun k hk => h.block k (by omega) (by omega)⟩
  · exact .inr (by omega)
theorem Kp.toBelow {w w' : World} (h : Kp No w w') : Go.RowKit.Below w.heap.size w w' :=
  ⟨h.os, h.tape, h.output, h.size, fun k hk => h.block k hk id⟩
theorem Kp.ofBelow {w w' : World} (h : Go.RowKit.Below w.heap.size w w') : Kp No w w' :=
  ⟨h.os, h.tape, h.output, h.size, fun k hk _ => h.block k hk⟩
theorem Kp.heap {D : Nat → Prop} {w w' : World} (h : Kp D w w') {b : Nat} {o : Obj} (hb : w.heap[b]? = some o) (hd : ¬ D b) : w'.heap[b]? = some o := by
  rw [h.block b (Array.getElem?_eq_some_iff.1 hb).1 hd]; exact hb
theorem Kp.cell {D : Nat → Prop} {w w' : World} (h : Kp D w w') {a : Addr} {v : Value} (hc : w.cell? a = some v) (hd : ¬ D a.block) : w'.cell? a = some v := by
  have hlt := World.block_lt_of_cell? w a hc
  have := h.block a.block hlt hd
  simp only [World.cell?, this] at hc ⊢; exact hc

/-! ### Regions, in one order -/

/-- The operations that only compute or read: whatever order they come in. -/
def quietK : Op → Bool
  | .move _ | .assign _ | .pick .. | .build .. | .load .. | .nilCheck _ | .binOp .. | .unOp .. | .convert .. | .makeInterface .. | .makeFunc .. | .slice .. | .fieldAddr .. | .field ..
  | .indexAddr .. | .index .. | .extract .. => true
  | .call { callee := .builtin .len, .. } | .call { callee := .builtin .min, .. } | .call { callee := .builtin .max, .. } => true
  | _ => false

section
variable {P : Program} {ops : Array Oper} {Q : Exit → Act → World → Prop} {md : Region.Mode} {nk : List Nat}

/-- Carried out in the given order; a quiet operation yields its value in every later world, too. -/
def wpSeqK (P : Program) (ops : Array Oper) (nk : List Nat) (Q : Exit → Act → World → Prop) : List (Nat × Oper) → Act → World → Prop
  | [], a, w => Q .normal a w
  | (i, o) :: rest, a, w =>
    if Region.wanted o (yielded ops a.tmps) then
      (∃ v, (∀ w', Kp No w w' → (execOp a.eval o).run P w' = .ok (.value v) w') ∧ wpSeqK P ops nk Q rest (a.put o.dst v) w) ∨
      (quietK o.op = false ∧ o.wp P a w (fun a' w' => (nk.contains i = false → Kp No w w') ∧ wpSeqK P ops nk Q rest a' w') Q)
    else wpSeqK P ops nk Q rest (a.put o.dst undef) w

theorem wp_of_value {o : Oper} {a : Act} {w : World} {v : Value} {K : Act → World → Prop} (h : (execOp a.eval o).run P w = .ok (.value v) w)
    (hK : K (a.put o.dst v) w) : o.wp P a w K Q := by
  unfold Oper.wp; rw [h]; exact hK

/-- In the lexical order. -/
theorem wpList_of_seqK : ∀ (l : List Oper) (i : Nat) (a : Act) (w : World), wpSeqK P ops nk Q (l.zipIdx i |>.map fun p => (p.2, p.1)) a w → wpList P ops Q l a w
  | [], _, _, _, h => h
  | o :: l, i, a, w, h => by
    simp only [List.zipIdx_cons, List.map_cons, wpSeqK] at h
    simp only [wpList]
    split
    · rename_i hw
      rw [if_pos hw] at h
      refine .inl ?_
      rcases h with ⟨v, hv, hr⟩ | ⟨_, hr⟩
      · exact wp_of_value (hv w (Kp.refl _ _)) (wpList_of_seqK l (i + 1) _ _ hr)
      · exact Oper.wp_mono (fun a' w' h' => wpList_of_seqK l (i + 1) _ _ h'.2) hr
    · rename_i hw
      rw [if_neg hw] at h
      exact wpList_of_seqK l (i + 1) _ _ h

def lexL (ops : Array Oper) : List (Nat × Oper) := ops.toList.zipIdx.map fun p => (p.2, p.1)

theorem wp_region_seq {id : Nat} {a : Act} {w : World} (h : wpSeqK P ops nk Q (lexL ops) a w) : (Code.region id ops false).wp P Q a w :=
  wp_region_list (wpList_of_seqK _ 0 _ _ h)

/-- Whatever order is picked. -/
def wpAnyK (P : Program) (md : Region.Mode) (ops : Array Oper) (nk : List Nat) (Q : Exit → Act → World → Prop) : Nat → Array Bool → Act → World → Prop
  | 0, listed, a, w => Region.ready md ops listed = [] ∧ Q .normal a w
  | fuel + 1, listed, a, w =>
    (Region.ready md ops listed = [] → Q .normal a w) ∧
    ∀ i ∈ Region.ready md ops listed, wpOp P ops Q i (fun a' w' => (nk.contains i = false → Kp No w w') ∧ wpAnyK P md ops nk Q fuel (listed.setIfInBounds i true) a' w') a w

theorem wpAny_of_K : ∀ (fuel : Nat) (listed : Array Bool) (a : Act) (w : World), wpAnyK P md ops nk Q fuel listed a w → wpAny P md ops Q fuel listed a w
  | 0, _, _, _, h => h
  | fuel + 1, _, _, _, h => ⟨h.1, fun i hi => wpOp_mono (fun a' w' h' => wpAny_of_K fuel _ a' w' h'.2) (h.2 i hi)⟩

def After (w : World) : World → Prop := fun w' => Kp No w w'

theorem YieldsIf.later {o : Oper} {v : Value} {a : Act} {w w' : World} (h : YieldsIf P ops (After w) o v a) (hk : Kp No w w') : YieldsIf P ops (After w') o v a :=
  h.imp (fun ⟨hw, hv⟩ => ⟨hw, fun w'' h'' => hv w'' (hk.trans h'')⟩) id

/-- Operation j comes behind operation i. -/
def behind (md : Region.Mode) (ops : Array Oper) (i : Nat) : Nat → Nat → Bool
  | 0, _ => false
  | fuel + 1, j => match ops[j]? with
    | some oj => oj.after.any fun e => Region.binds md e && (e.on == i || behind md ops i fuel e.on)
    | none => false

/-- What is done has all done that it waits for. -/
def Closed (md : Region.Mode) (ops : Array Oper) (listed : Array Bool) : Prop :=
  ∀ (k : Nat) (ok : Oper), ops[k]? = some ok → listed.getD k true = true → ∀ e ∈ ok.after, Region.binds md e = true → listed.getD e.on true = true

theorem behind_done {listed : Array Bool} (hc : Closed md ops listed) {i : Nat} : ∀ (fuel j : Nat), (∀ oj, ops[j]? = some oj → ∀ e ∈ oj.after, Region.binds md e = true → listed.getD e.on true = true) →
    behind md ops i fuel j = true → listed.getD i true = true
  | 0, j, _, h => by cases h
  | fuel + 1, j, hj, h => by
    unfold behind at h
    cases ho : ops[j]? with
    | none => rw [ho] at h; cases h
    | some oj =>
      rw [ho] at h
      simp only [Array.any_eq_true] at h
      obtain ⟨k, hk, he⟩ := h
      simp only [Bool.and_eq_true, Bool.or_eq_true, beq_iff_eq] at he
      have h1 := hj oj ho _ (Array.getElem_mem hk) he.1
      rcases he.2 with h2 | h2
      · rw [← h2]; exact h1
      · exact behind_done hc fuel _ (fun o2 ho2 => hc _ o2 ho2 h1) h2

theorem ready_closed {listed : Array Bool} (hc : Closed md ops listed) {j : Nat} (hj : j ∈ Region.ready md ops listed) : Closed md ops (listed.setIfInBounds j true) := by
  obtain ⟨hjun, oj, hoj, hall⟩ := mem_ready.1 hj
  have mono : ∀ k, listed.getD k true = true → (listed.setIfInBounds j true).getD k true = true := by
    intro k hk
    by_cases hjk : j = k
    · subst hjk
      simp only [Array.getD_eq_getD_getElem?, Array.getElem?_setIfInBounds]
      split
      · split <;> rfl
      · rw [← Array.getD_eq_getD_getElem?]; exact hk
    · rw [getD_set_ne true hjk]; exact hk
  have hall' : ∀ e ∈ oj.after, Region.binds md e = true → listed.getD e.on true = true := by
    intro e he hb
    have h1 := hall e he hb
    rcases Nat.lt_or_ge e.on listed.size with h' | h'
    · simp [h'] at h1 ⊢; exact h1
    · simp [Array.getElem?_eq_none h'] at h1
  intro k ok hk hl e he hb
  by_cases hjk : j = k
  · subst hjk
    rw [hoj] at hk
    obtain rfl := Option.some.inj hk
    exact mono _ (hall' e he hb)
  · rw [getD_set_ne true hjk] at hl
    exact mono _ (hc k ok hk hl e he hb)

/-- A quiet operation that may come up now may be taken first. -/
theorem wpAnyK_first {i : Nat} {oi : Oper} {v : Value} (hi : ops[i]? = some oi) (hsel : ∀ (j : Nat) (o : Oper) cs b, ops[j]? = some o → o.op ≠ .select cs b)
    (hQ : ∀ c a w, Q (.panic c) (a.put oi.dst v) w → Q (.panic c) a w) :
    ∀ (fuel : Nat) (listed : Array Bool) (a : Act) (w : World), Closed md ops listed →
      (∀ j oj, ops[j]? = some oj → j ≠ i → listed.getD j true = false → behind md ops i ops.size j = false → oi.apart ops oj = true ∧ nk.contains j = false) →
      i ∈ Region.ready md ops listed → YieldsIf P ops (After w) oi v a →
      wpAnyK P md ops nk Q fuel (listed.setIfInBounds i true) (a.put oi.dst v) w → wpAnyK P md ops nk Q (fuel + 1) listed a w := by
  intro fuel
  induction fuel with
  | zero =>
    intro listed a w hcl _ hr hy H
    refine ⟨fun h => (by rw [h] at hr; cases hr), fun j hj => ?_⟩
    by_cases hji : j = i
    · subst hji; exact hy.wpOp hi (Kp.refl _ _) ⟨fun _ => Kp.refl _ _, H⟩
    · have := ready_mono hj hji
      rw [H.1] at this
      cases this
  | succ fuel ih =>
    intro listed a w hcl hfree hr hy H
    refine ⟨fun h => (by rw [h] at hr; cases hr), fun j hj => ?_⟩
    by_cases hji : j = i
    · subst hji; exact hy.wpOp hi (Kp.refl _ _) ⟨fun _ => Kp.refl _ _, H⟩
    · have h1 := H.2 j (ready_mono hj hji)
      obtain ⟨hjun, oj, hoj, hall⟩ := mem_ready.1 hj
      have hall' : ∀ o2, ops[j]? = some o2 → ∀ e ∈ o2.after, Region.binds md e = true → listed.getD e.on true = true := by
        intro o2 ho2 e he hb
        rw [hoj] at ho2
        obtain rfl := Option.some.inj ho2
        have h1 := hall e he hb
        rcases Nat.lt_or_ge e.on listed.size with h' | h'
        · simp [h'] at h1 ⊢; exact h1
        · simp [Array.getElem?_eq_none h'] at h1
      have hnot : behind md ops i ops.size j = false := by
        rw [Bool.eq_false_iff]
        intro hb
        have h2 := behind_done hcl _ _ hall' hb
        have h0 := (mem_ready.1 hr).1
        rw [h0] at h2; cases h2
      have hfj := hfree j oj hoj hji hjun hnot
      have h2 := wpOp_putIf hoj hfj.1 (fun cs b => hsel i oi cs b hi) (fun cs b => hsel j oj cs b hoj) hQ hy h1
      have hfree' : ∀ k ok, ops[k]? = some ok → k ≠ i → (listed.setIfInBounds j true).getD k true = false →
          behind md ops i ops.size k = false → oi.apart ops ok = true ∧ nk.contains k = false := fun k ok hk hki hun hno => by
        refine hfree k ok hk hki ?_ hno
        by_cases hjk : j = k
        · subst hjk; exact hjun
        · rw [getD_set_ne true hjk] at hun; exact hun
      refine wpOp_mono (fun a' w' h3 => ⟨h3.2.1, ih (listed.setIfInBounds j true) a' w' (ready_closed hcl hj) hfree' (ready_mono hr (Ne.symm hji)) (YieldsIf.later h3.1 (h3.2.1 hfj.2)) ?_⟩) h2
      rw [Array.setIfInBounds_comm _ _ hji]
      exact h3.2.2

/-- All that wait not for i are apart from it and keep what stands. -/
def freeK (md : Region.Mode) (ops : Array Oper) (nk : List Nat) (listed : Array Bool) (i : Nat) : Bool :=
  match ops[i]? with
  | none => false
  | some oi => (List.range ops.size).all fun j => j == i || listed.getD j true ||
      match ops[j]? with
      | some oj => behind md ops i ops.size j || (oi.apart ops oj && !nk.contains j)
      | none => true

theorem freeK_spec {i : Nat} {oi : Oper} {listed : Array Bool} (hi : ops[i]? = some oi) (h : freeK md ops nk listed i = true) (j : Nat) (oj : Oper)
    (hj : ops[j]? = some oj) (hji : j ≠ i) (hun : listed.getD j true = false) (hno : behind md ops i ops.size j = false) :
    oi.apart ops oj = true ∧ nk.contains j = false := by
  unfold freeK at h
  simp only [hi, List.all_eq_true, List.mem_range] at h
  have hlt : j < ops.size := (Array.getElem?_eq_some_iff.1 hj).1
  have := h j hlt
  simp only [hj, Bool.or_eq_true, beq_iff_eq, Bool.and_eq_true] at this
  rcases this with (h1 | h1) | h1
  · exact absurd h1 hji
  · rw [hun] at h1; cases h1
  · rcases h1 with h1 | h1
    · rw [hno] at h1; cases h1
    · exact ⟨h1.1, by simpa using h1.2⟩

/-- The order is one that serves for every order: quiet operations as soon as they may, the others when nothing else may. -/
def okOrd (md : Region.Mode) (ops : Array Oper) (nk : List Nat) : List Nat → Array Bool → Bool
  | [], listed => (Region.ready md ops listed).isEmpty
  | i :: rest, listed =>
    (match ops[i]? with
     | none => false
     | some o => if quietK o.op then (Region.ready md ops listed).contains i && freeK md ops nk listed i else Region.ready md ops listed == [i]) &&
    okOrd md ops nk rest (listed.setIfInBounds i true)

def ordL (ops : Array Oper) (ord : List Nat) : List (Nat × Oper) := ord.filterMap fun i => (ops[i]?).map fun o => (i, o)

theorem wpAnyK_of_seq (hs : Region.noSelect ops = true) (hQ : ∀ c a w, ¬ Q (.panic c) a w) (hQo : ∀ a w, ¬ Q .outgrown a w) : ∀ (ord : List Nat) (listed : Array Bool) (a : Act) (w : World), Closed md ops listed →
    okOrd md ops nk ord listed = true → wpSeqK P ops nk Q (ordL ops ord) a w → wpAnyK P md ops nk Q ord.length listed a w
  | [], listed, a, w, _, hok, h => ⟨by simpa [okOrd] using hok, h⟩
  | i :: ord, listed, a, w, hcl, hok, h => by
    simp only [okOrd, Bool.and_eq_true] at hok
    obtain ⟨h1, h2⟩ := hok
    cases ho : ops[i]? with
    | none => simp [ho] at h1
    | some o =>
      simp only [ho] at h1
      simp only [ordL, List.filterMap_cons, ho, Option.map_some] at h
      have ih := fun a w (hr : i ∈ Region.ready md ops listed) => wpAnyK_of_seq hs hQ hQo ord (listed.setIfInBounds i true) a w (ready_closed hcl hr) h2
      simp only [List.length_cons]
      simp only [wpSeqK] at h
      by_cases hq : quietK o.op = true
      · simp only [hq, if_true, Bool.and_eq_true] at h1
        have hr : i ∈ Region.ready md ops listed := by simpa using h1.1
        by_cases hw : Region.wanted o (yielded ops a.tmps) = true
        · rw [if_pos hw] at h
          rcases h with ⟨v, hv, hr'⟩ | ⟨hn, _⟩
          · exact wpAnyK_first ho (Region.noSelect_spec hs) (fun c a w h => absurd h (hQ c _ w)) _ listed a w hcl (freeK_spec ho h1.2) hr (.inl ⟨hw, fun w' hw' => hv w' hw'⟩) (ih _ _ hr hr')
          · rw [hq] at hn; cases hn
        · rw [if_neg hw] at h
          exact wpAnyK_first (v := undef) ho (Region.noSelect_spec hs) (fun c a w h => absurd h (hQ c _ w)) _ listed a w hcl (freeK_spec ho h1.2) hr (.inr ⟨by simpa using hw, rfl⟩) (ih _ _ hr h)
      · simp only [hq] at h1
        have hr1 : Region.ready md ops listed = [i] := by simpa using h1
        have hr : i ∈ Region.ready md ops listed := by rw [hr1]; exact List.mem_singleton.2 rfl
        refine ⟨fun h0 => (by rw [hr1] at h0; cases h0), fun j hj => ?_⟩
        rw [hr1] at hj
        have hji : j = i := by simpa using hj
        subst hji
        unfold wpOp
        simp only [ho]
        split
        · rename_i hw
          rw [if_pos hw] at h
          refine .inl ?_
          rcases h with ⟨v, hv, hr'⟩ | ⟨_, hr'⟩
          · exact wp_of_value (hv w (Kp.refl _ _)) ⟨fun _ => Kp.refl _ _, ih _ _ hr hr'⟩
          · exact Oper.wp_mono (fun a' w' h' => ⟨h'.1, ih _ _ hr h'.2⟩) hr'
        · rename_i hw
          rw [if_neg hw] at h
          exact ⟨fun _ => Kp.refl _ _, ih _ _ hr h⟩

def onlyN (Q : Exit → Act → World → Prop) : Exit → Act → World → Prop
  | .normal, a, w => Q .normal a w
  | _, _, _ => False

theorem wp_region_ord {id : Nat} {a : Act} {w : World} (hm : P.follows .mixedOrders = true) (hs : Region.noSelect ops = true) (ord : List Nat)
    (hok : okOrd .any ops nk ord (Array.replicate ops.size false) = true) (hl : ord.length = ops.size)
    (h : wpSeqK P ops nk (onlyN Q) (ordL ops ord) a { w with drawn := w.drawn + 1 }) : (Code.region id ops true).wp P Q a w := by
  refine Code.wp_mono (Q := onlyN Q) (fun e a w h => by cases e <;> first | exact h | exact h.elim) ?_
  refine wp_region_any hm (wpAny_of_K (nk := nk) _ _ _ _ ?_)
  rw [← hl]
  exact wpAnyK_of_seq hs (fun _ _ _ h => h) (fun _ _ h => h) ord _ _ _ (fun k ok hk hl' => by
    have hlt := (Array.getElem?_eq_some_iff.1 hk).1
    simp [hl, hlt] at hl') (by rw [hl]; exact hok) h
end
end Go.Fw

set_option linter.unusedVariables false
set_option linter.unusedSimpArgs false
namespace Go.Fw
open Go

/-! ### The symbolic state -/

/-- A local variable's block. -/
structure Bx where
  b : Nat
  T : TypeId
  cells : List Value
  new : Bool

/-- A slot's content: a value, or the address of a cell of a local block. -/
inductive SV where
  | val (v : Value)
  | loc (i off : Nat)
  | sb (b : Bool)

def bxb : List Bx → Nat → Nat
  | [], _ => 0
  | x :: _, 0 => x.b
  | _ :: r, i + 1 => bxb r i

def den (L : List Bx) : SV → Value
  | .val v => v
  | .loc i off => .pointer (some ⟨bxb L i, off, none⟩)
  | .sb b => .bool b

/-- a Bool that may be undecided is told from a decided one -/
def toSV : Value → SV
  | .bool b => .sb b
  | v => .val v

theorem den_toSV (L : List Bx) (v : Value) : den L (toSV v) = v := by cases v <;> rfl

def valOf : SV → Option Value
  | .val v => some v
  | .sb b => some (.bool b)
  | .loc _ _ => none

def look : List (Nat × SV) → Nat → Option SV
  | [], _ => none
  | (k, v) :: r, t => if k = t then some v else look r t

/-- A row of the call's own: a slice's value, its element type, the cells up to its length. -/
structure Rw where
  v : Value
  e : TypeId
  size : Nat
  n : Nat
  xs : List Value
  new : Bool

structure Sym where
  n : Nat
  env : List (Nat × SV)
  L : List Bx
  R : List Rw
  base : Nat
  w : World
  D : Nat → Prop

/-- The blocks of rows and of local variables are all different. -/
def Sym.blocks (s : Sym) : List Nat := s.R.filterMap (fun r => r.v.ownBlock) ++ s.L.map (fun x => x.b)

structure Fits (s : Sym) (a : Act) (w' : World) : Prop where
  size : a.tmps.size = s.n
  defers : a.defers = []
  env : ∀ t sv, look s.env t = some sv → a.tmps.getD t undef = den s.L sv
  wf : ∀ t i off, look s.env t = some (.loc i off) → i < s.L.length
  kp : Kp s.D s.w w'
  loc : ∀ (i : Nat) (bx : Bx), s.L[i]? = some bx → w'.heap[bx.b]? = some (.cells bx.cells.toArray bx.T (0, 0))
  row : ∀ (i : Nat) (r : Rw), s.R[i]? = some r → w'.ownsRow s.base r.e r.size r.v r.n r.xs
  dist : s.blocks.Nodup
  lb : s.base ≤ s.w.heap.size ∧ ∀ (i : Nat) (bx : Bx), s.L[i]? = some bx → s.base ≤ bx.b
  fresh : ∀ (i : Nat) (bx : Bx), s.L[i]? = some bx → bx.new = true → s.w.heap.size ≤ bx.b
  rfresh : ∀ (i : Nat) (r : Rw), s.R[i]? = some r → r.new = true → ∀ g, r.v.ownBlock = some g → s.w.heap.size ≤ g

def Sym.put (s : Sym) (d : Option Tmp) (sv : SV) : Sym :=
  match d with
  | some d => { s with env := (d, sv) :: s.env }
  | none => s

def dok (s : Sym) : Option Tmp → Bool
  | some d => decide (d < s.n)
  | none => true

theorem bxb_eq {L : List Bx} : ∀ {i : Nat} {bx : Bx}, L[i]? = some bx → bxb L i = bx.b := by
  induction L with
  | nil => intro i bx h; simp at h
  | cons x r ih =>
    intro i bx h
    cases i with
    | zero => simp at h; subst h; rfl
    | succ i => simp at h; exact ih h

theorem bxb_append {L : List Bx} (x : Bx) : ∀ {i : Nat}, i < L.length → bxb (L ++ [x]) i = bxb L i := by
  induction L with
  | nil => intro i h; simp at h
  | cons y r ih =>
    intro i h
    cases i with
    | zero => rfl
    | succ i => simp at h; exact ih h

theorem bxb_last {L : List Bx} (x : Bx) : bxb (L ++ [x]) L.length = x.b := by
  induction L with
  | nil => rfl
  | cons y r ih => exact ih

def svOk (L : List Bx) : SV → Prop
  | .val _ => True
  | .loc i _ => i < L.length
  | .sb _ => True

theorem svOk_toSV (L : List Bx) (v : Value) : svOk L (toSV v) := by cases v <;> trivial

theorem valOf_den {sv : SV} {v : Value} (L : List Bx) (h : valOf sv = some v) : den L sv = v := by
  cases sv <;> simp [valOf] at h <;> subst h <;> rfl

theorem Fits.put {s : Sym} {a : Act} {w' : World} (h : Fits s a w') {d : Option Tmp} {sv : SV} (hd : dok s d = true) (hsv : svOk s.L sv) :
    Fits (s.put d sv) (a.put d (den s.L sv)) w' := by
  cases d with
  | none => exact h
  | some d =>
    have hlt : d < s.n := by simpa [dok] using hd
    refine ⟨by simp [Act.put, Sym.put, h.size], h.defers, ?_, ?_, h.kp, h.loc, h.row, h.dist, h.lb, h.fresh, h.rfresh⟩
    · intro t sv' ht
      simp only [Sym.put, look] at ht
      simp only [Act.put]
      by_cases hdt : d = t
      · subst hdt
        rw [if_pos rfl] at ht
        obtain rfl : sv = sv' := by simpa using ht
        simp [Sym.put, Array.getD_eq_getD_getElem?, Array.getElem?_setIfInBounds, h.size, hlt]
      · rw [if_neg hdt] at ht
        have := h.env t sv' ht
        simpa [Sym.put, Array.getD_eq_getD_getElem?, Array.getElem?_setIfInBounds, hdt] using this
    · intro t i off ht
      simp only [Sym.put, look] at ht
      by_cases hdt : d = t
      · rw [if_pos hdt] at ht
        obtain rfl : sv = .loc i off := by simpa using ht
        exact hsv
      · rw [if_neg hdt] at ht
        exact h.wf t i off ht

/-- What is known in a world is known in a later one. -/
theorem ownsRow_kp {w w' : World} {D : Nat → Prop} {base e size n : Nat} {v : Value} {xs : List Value} (h : w.ownsRow base e size v n xs) (hk : Kp D w w') (hd : ∀ g, v.ownBlock = some g → ¬ D g) : w'.ownsRow base e size v n xs := by
  refine ⟨h.1, ?_⟩
  rcases h.2 with hn | ⟨g, cap, cur, rfl, hb, hgg, rest⟩
  · exact .inl hn
  · exact .inr ⟨g, cap, cur, rfl, hb, hk.heap hgg (hd g (by simp [Value.ownBlock])), rest⟩

theorem Fits.later {s : Sym} {a : Act} {w' w'' : World} (h : Fits s a w') (hk : Kp No w' w'') : Fits s a w'' :=
  ⟨h.size, h.defers, h.env, h.wf, h.kp.then hk, fun i bx hi => hk.heap (h.loc i bx hi) id, fun i r hi => ownsRow_kp (h.row i r hi) hk (fun _ _ h => h), h.dist, h.lb, h.fresh, h.rfresh⟩

def evS (s : Sym) : Operand → Option SV
  | .tmp t => look s.env t
  | .const v => some (.val v)
  | .global g => some (.val (.pointer (some ⟨g, 0, none⟩)))
  | .func f => some (.val (.func (.func f) #[] #[]))

theorem Fits.ev {s : Sym} {a : Act} {w' : World} (h : Fits s a w') {x : Operand} {sv : SV} (hx : evS s x = some sv) : a.eval x = den s.L sv ∧ svOk s.L sv := by
  cases x with
  | tmp t =>
    refine ⟨h.env t sv hx, ?_⟩
    cases sv with
    | val v => trivial
    | sb b => trivial
    | loc i off => exact h.wf t i off hx
  | const v => simp [evS] at hx; subst hx; exact ⟨rfl, trivial⟩
  | global g => simp [evS] at hx; subst hx; exact ⟨rfl, trivial⟩
  | func f => simp [evS] at hx; subst hx; exact ⟨rfl, trivial⟩

/-! ### Tables of a program -/

structure Tb where
  fo : Nat → Nat → Option Nat
  sz : Nat → Option (Bool × Nat)
  el : Nat → Option (Nat × Nat × Nat)
  zero : Nat → Option (List Value)
  pl : Nat → Option (List (Nat × Nat))
  bool : Nat → Bool
  str : Nat → Bool
  intk : Nat → Option IntKind
  fn : Nat → Bool

def aggD : TypeDesc → Bool
  | .struct _ => true
  | .array _ _ => true
  | _ => false

structure TbOk (P : Program) (tb : Tb) : Prop where
  fo : ∀ T j o, tb.fo T j = some o → ∃ fs f i, P.underlying T = some (.struct fs) ∧ fs[j]? = some f ∧ f.offset = o ∧ P.info? f.type = some i ∧ i.size ≠ 0
  sz : ∀ T b n, tb.sz T = some (b, n) → ∃ d i, P.underlying T = some d ∧ P.info? T = some i ∧ i.size = n ∧ aggD d = b
  el : ∀ T e n m, tb.el T = some (e, n, m) → P.underlying T = some (.slice e) ∧ ∃ i z, P.info? e = some i ∧ i.size = n ∧ i.bytes = m ∧ i.zero = some z ∧ z.cells.size = n ∧ 0 < n ∧ 0 < m
  zero : ∀ T zs, tb.zero T = some zs → ∃ i v, P.info? T = some i ∧ i.zero = some v ∧ v.cells = zs.toArray
  pl : ∀ T ps, tb.pl T = some ps → ∃ fs, P.underlying T = some (.struct fs) ∧ ps = fs.toList.map (fun f => (f.offset, P.cellsOf f.type)) ∧ (∀ f ∈ fs.toList, (P.info? f.type).isSome = true)
  bool : ∀ T, tb.bool T = true → P.underlying T = some .bool
  str : ∀ T, tb.str T = true → P.underlying T = some .string
  intk : ∀ T k, tb.intk T = some k → P.underlying T = some (.int k)
  fn : ∀ f, tb.fn f = true → ∃ fn, P.funcs[f]? = some fn ∧ (fn.name == "runtime.NumGoroutine") = false ∧ fn.body.isSome = true

/-! ### What computes without looking at memory that is not ours -/

def takeC (off n : Nat) (cs : List Value) : List Value := (cs.drop off).take n

def putL : List Value → Nat → List Value → List Value
  | cells, _, [] => cells
  | cells, off, c :: cs => putL (cells.set off c) (off + 1) cs

def bldL (ps : List (Nat × Nat)) : List Value → List (Nat × Value) → Option (List Value)
  | cells, [] => some cells
  | cells, (i, v) :: rest =>
    match ps[i]? with
    | none => none
    | some (off, size) => if v.cells.toList.length = size ∧ off + size ≤ cells.length then bldL ps (putL cells off v.cells.toList) rest else none

def evParts (s : Sym) : List (Nat × Operand) → Option (List (Nat × Value))
  | [] => some []
  | (i, x) :: r =>
    match evS s x, evParts s r with
    | some sv, some l => some ((i, den s.L sv) :: l)
    | _, _ => none

def evArgs (s : Sym) : List Operand → Option (List Value)
  | [] => some []
  | x :: r =>
    match evS s x, evArgs s r with
    | some sv, some l => some (den s.L sv :: l)
    | _, _ => none

/-- int's arithmetic, kept from simp -/
def wr (k : IntKind) (n : Int) : Int := k.wrap n

def binV : BinOp → Value → Value → Option Value
  | .add, .int k a, .int k' b => if k = k' then some (.int k (wr k (a + b))) else none
  | .sub, .int k a, .int k' b => if k = k' then some (.int k (wr k (a - b))) else none
  | .mul, .int k a, .int k' b => if k = k' then some (.int k (wr k (a * b))) else none
  | .eql, .int k a, .int k' b => if k = k' then some (.bool (a == b)) else none
  | .neq, .int k a, .int k' b => if k = k' then some (.bool (a != b)) else none
  | .lss, .int k a, .int k' b => if k = k' then some (.bool (decide (a < b))) else none
  | .leq, .int k a, .int k' b => if k = k' then some (.bool (decide (a ≤ b))) else none
  | .gtr, .int k a, .int k' b => if k = k' then some (.bool (decide (b < a))) else none
  | .geq, .int k a, .int k' b => if k = k' then some (.bool (decide (b ≤ a))) else none
  | .eql, .string a, .string b => some (.bool (a.data.toList == b.data.toList))
  | .neq, .string a, .string b => some (.bool (!(a.data.toList == b.data.toList)))
  | .lss, .string a, .string b => some (.bool (Op.bytesLess a.data.toList b.data.toList))
  | _, _, _ => none

def binB : BinOp → Value → Value → Option Value
  | .eql, .bool a, .bool b => some (.bool (a == b))
  | .neq, .bool a, .bool b => some (.bool (a != b))
  | _, _, _ => none

/-- a slice against nil -/
def binN : BinOp → Value → Value → Option Value
  | .eql, .slice a _ _, .slice none 0 0 => some (.bool a.isNone)
  | .neq, .slice a _ _, .slice none 0 0 => some (.bool (!a.isNone))
  | _, _, _ => none

def getA : List Value → Nat → Option Value
  | [], _ => none
  | v :: _, 0 => some v
  | _ :: r, i + 1 => getA r i

def evalOp (tb : Tb) (s : Sym) : Op → Option SV
  | .move x => evS s x
  | .assign x => evS s x
  | .pick c a b =>
    match evS s c with
    | some (.val (.bool true)) => evS s a
    | some (.val (.bool false)) => evS s b
    | _ => none
  | .fieldAddr T x j =>
    match tb.fo T j, evS s x with
    | some fo, some (.loc i off) => some (.loc i (off + fo))
    | some fo, some (.val (.pointer (some ⟨b, off, none⟩))) => some (.val (.pointer (some ⟨b, off + fo, none⟩)))
    | _, _ => none
  | .load T x =>
    match evS s x with
    | some (.loc i off) =>
      match s.L[i]?, tb.sz T with
      | some bx, some (true, n) => if off + n ≤ bx.cells.length then some (.val (.agg (takeC off n bx.cells).toArray)) else none
      | some bx, some (false, _) => (getA bx.cells off).map toSV
      | _, _ => none
    | _ => none
  | .binOp op T x y _ =>
    match (evS s x).bind valOf, (evS s y).bind valOf with
    | some a, some b =>
      match binV op a b with
      | some v => some (toSV v)
      | none => if tb.bool T then (binB op a b).map toSV else if (tb.el T).isSome then (binN op a b).map toSV else none
    | _, _ => none
  | .unOp .not _ x =>
    match evS s x with
    | some (.sb b) => some (.sb (!b))
    | some (.val (.bool b)) => some (.val (.bool (!b)))
    | _ => none
  | .build T parts =>
    match tb.pl T, tb.zero T, evParts s parts.toList with
    | some ps, some zs, some l => (bldL ps zs l).map fun cs => .val (.agg cs.toArray)
    | _, _, _ => none
  | .extract x i =>
    match evS s x with
    | some (.val (.tuple vs)) => (getA vs.toList i).map toSV
    | _ => none
  | .convert src dst x =>
    match tb.intk dst, evS s x with
    | some k, some (.val (.int _ n)) => if (tb.intk src).isSome then some (.val (.int k (wr k n))) else none
    | _, _ => none
  | .makeFunc fn first captured =>
    match evArgs s first.toList, evArgs s captured.toList with
    | some f, some c => some (.val (.func fn f.toArray c.toArray))
    | _, _ => none
  | .call { callee := .builtin .len, args, argTypes } =>
    match argTypes[0]?, args.toList with
    | some T, [x] =>
      match evS s x with
      | some (.val (.slice _ n _)) => if (tb.el T).isSome then some (.val (.int .i64 (n : Int))) else none
      | some (.val (.string b)) => if tb.str T then some (.val (.int .i64 (b.size : Int))) else none
      | _ => none
    | _, _ => none
  | .call { callee := .builtin .min, args, argTypes } =>
    match args.toList with
    | [x, y] =>
      match evS s x, evS s y with
      | some (.val (.int k a)), some (.val (.int _ b)) => some (.val (.int k (if b < a then b else a)))
      | _, _ => none
    | _ => none
  | .call { callee := .builtin .max, args, argTypes } =>
    match args.toList with
    | [x, y] =>
      match evS s x, evS s y with
      | some (.val (.int k a)), some (.val (.int _ b)) => some (.val (.int k (if b > a then b else a)))
      | _, _ => none
    | _ => none
  | _ => none
end Go.Fw

set_option linter.unusedVariables false
set_option linter.unusedSimpArgs false
namespace Go.Fw
open Go

section
variable {P : Program}

/-- In every state that fits: the operation yields this value, and does nothing else. -/
def Quiet (P : Program) (s : Sym) (o : Oper) (sv : SV) : Prop :=
  ∀ a w', Fits s a w' → svOk s.L sv ∧ (execOp a.eval o).run P w' = .ok (.value (den s.L sv)) w'

theorem add_mk (b off n : Nat) : (⟨b, off, none⟩ : Addr).add n = ⟨b, off + n, none⟩ := by
  unfold Addr.add; split <;> simp_all

/-- The cells from an address on. -/
def RowAt (w : World) (b off : Nat) (cs : List Value) : Prop := ∀ (j : Nat) (v : Value), cs[j]? = some v → w.cell? ⟨b, off + j, none⟩ = some v

theorem run_load_cell {w : World} {a : Addr} {v : Value} (h : w.cell? a = some v) : (load a).run P w = .ok v w := by
  simp [load, Sem.run, h]

theorem run_loadCellsFrom (w : World) (b off : Nat) : ∀ (cs : List Value) (i : Nat) (acc : Array Value),
    (∀ (j : Nat) (v : Value), cs[j]? = some v → w.cell? ⟨b, off + (i + j), none⟩ = some v) →
    (loadCellsFrom ⟨b, off, none⟩ i cs.length acc).run P w = .ok (acc ++ cs.toArray) w
  | [], i, acc, h => by simp [loadCellsFrom, Sem.run, pure]
  | v :: cs, i, acc, h => by
    have h0 := h 0 v rfl
    have ih := run_loadCellsFrom w b off cs (i + 1) (acc.push v) (fun j u hj => by have := h (j + 1) u (by simpa using hj); rw [show i + 1 + j = i + (j + 1) from by omega]; exact this)
    simp only [List.length_cons, loadCellsFrom]
    simp only [add_mk, load, bind, Sem.bind, Sem.run]
    simp only [Nat.add_zero] at h0
    rw [h0]
    simp only []
    rw [ih]
    simp

theorem run_loadCells (w : World) (b off : Nat) (cs : List Value) (h : RowAt w b off cs) : (loadCells ⟨b, off, none⟩ cs.length).run P w = .ok cs.toArray w := by
  have := run_loadCellsFrom (P := P) w b off cs 0 #[] (fun j v hj => by simpa using h j v hj)
  simpa [loadCells] using this

theorem run_sizeOf {T : TypeId} {i : TypeInfo} (h : P.info? T = some i) (w : World) : (sizeOf T).run P w = .ok i.size w := by
  simp [sizeOf, typeInfo, h]

theorem run_isAgg {T : TypeId} {d : TypeDesc} (h : P.underlying T = some d) (w : World) : (isAgg T).run P w = .ok (aggD d) w := by
  simp only [isAgg]
  simp [run_underlying h]
  cases d <;> rfl

theorem run_loadAt_agg {tb : Tb} (ht : TbOk P tb) {T n : Nat} (hs : tb.sz T = some (true, n)) {w : World} {b off : Nat} {cs : List Value} (hl : cs.length = n) (h : RowAt w b off cs) :
    (Instr.loadAt T (.pointer (some ⟨b, off, none⟩))).run P w = .ok (.agg cs.toArray) w := by
  obtain ⟨d, i, h1, h2, h3, h4⟩ := ht.sz T true n hs
  have ha := run_isAgg h1 w
  rw [h4] at ha
  have hc := run_loadCells (P := P) w b off cs h
  simp only [Instr.loadAt, Instr.sureAddr, loadVar]
  simp [ha, run_sizeOf h2, h3, ← hl, hc]

theorem run_loadAt_one {tb : Tb} (ht : TbOk P tb) {T n : Nat} (hs : tb.sz T = some (false, n)) {w : World} {b off : Nat} {v : Value} (h : w.cell? ⟨b, off, none⟩ = some v) :
    (Instr.loadAt T (.pointer (some ⟨b, off, none⟩))).run P w = .ok v w := by
  obtain ⟨d, i, h1, h2, h3, h4⟩ := ht.sz T false n hs
  have ha := run_isAgg h1 w
  rw [h4] at ha
  simp only [Instr.loadAt, Instr.sureAddr, loadVar]
  simp [ha, load, Sem.run, h]

theorem getA_eq : ∀ (l : List Value) (i : Nat), getA l i = l[i]?
  | [], _ => by simp [getA]
  | v :: r, 0 => by simp [getA]
  | v :: r, i + 1 => by simp [getA, getA_eq r i]

theorem Fits.cellAt {s : Sym} {a : Act} {w' : World} (h : Fits s a w') {i : Nat} {bx : Bx} (hi : s.L[i]? = some bx) (off : Nat) : w'.cell? ⟨bx.b, off, none⟩ = bx.cells[off]? := by
  have := h.loc i bx hi
  simp [World.cell?, this]

theorem Fits.rowAt {s : Sym} {a : Act} {w' : World} (h : Fits s a w') {i : Nat} {bx : Bx} (hi : s.L[i]? = some bx) (off n : Nat) : RowAt w' bx.b off (takeC off n bx.cells) := by
  intro j v hj
  rw [h.cellAt hi]
  simp only [takeC, List.getElem?_take, List.getElem?_drop] at hj
  split at hj
  · exact hj
  · cases hj

theorem run_fieldAt {tb : Tb} (ht : TbOk P tb) {T j fo : Nat} (hf : tb.fo T j = some fo) (b off : Nat) (w : World) :
    (Instr.fieldAt T (.pointer (some ⟨b, off, none⟩)) j).run P w = .ok (.pointer (some ⟨b, off + fo, none⟩)) w := by
  obtain ⟨fs, f, i, h1, h2, h3, h4, h5⟩ := ht.fo T j fo hf
  simp [Instr.fieldAt, run_underlying h1, h2, Instr.sureAddr, fieldPlace, sizeOf, typeInfo, h4, h5, add_mk, h3]

theorem evArgs_eq {s : Sym} {a : Act} {w' : World} (h : Fits s a w') : ∀ {xs : List Operand} {vs : List Value}, evArgs s xs = some vs → xs.map a.eval = vs
  | [], vs, he => by simp [evArgs] at he; subst he; rfl
  | x :: r, vs, he => by
    simp only [evArgs] at he
    split at he
    · rename_i sv l hx hr
      obtain rfl : den s.L sv :: l = vs := by simpa using he
      simp [(h.ev hx).1, evArgs_eq h hr]
    · cases he

theorem evParts_eq {s : Sym} {a : Act} {w' : World} (h : Fits s a w') : ∀ {xs : List (Nat × Operand)} {vs : List (Nat × Value)}, evParts s xs = some vs → xs.map (fun x => (x.1, a.eval x.2)) = vs
  | [], vs, he => by simp [evParts] at he; subst he; rfl
  | (i, x) :: r, vs, he => by
    simp only [evParts] at he
    split at he
    · rename_i sv l hx hr
      obtain rfl : (i, den s.L sv) :: l = vs := by simpa using he
      simp [(h.ev hx).1, evParts_eq h hr]
    · cases he

theorem foldl_putL : ∀ (l : List Value) (j off : Nat) (cs : Array Value),
    ((l.zipIdx j).foldl (fun (cs : Array Value) (x : Value × Nat) => cs.setIfInBounds (off + x.2) x.1) cs) = (putL cs.toList (off + j) l).toArray
  | [], j, off, cs => by simp [putL]
  | v :: l, j, off, cs => by
    simp only [List.zipIdx_cons, List.foldl_cons, putL]
    rw [foldl_putL l (j + 1) off]
    simp [Nat.add_assoc]

theorem putL_length : ∀ (l : List Value) (off : Nat) (cs : List Value), (putL cs off l).length = cs.length
  | [], _, _ => rfl
  | v :: l, off, cs => by simp [putL, putL_length l]

theorem fill_eq (ps : List (Nat × Nat)) (place : Nat → Option (Nat × Nat)) (hp : ∀ i, place i = ps[i]?) : ∀ (l : List (Nat × Value)) (cells : Array Value) (out : List Value),
    bldL ps cells.toList l = some out → Instr.fill place cells l = some out.toArray
  | [], cells, out, h => by simp [bldL] at h; subst h; simp [Instr.fill]
  | (i, v) :: rest, cells, out, h => by
    simp only [bldL] at h
    simp only [Instr.fill, hp]
    split at h
    · cases h
    · rename_i off size hi
      rw [hi]
      simp only []
      split at h
      · rename_i hc
        have hsz : v.cells.size = size := by simpa using hc.1
        have h1 : ¬ (v.cells.size ≠ size ∨ off + v.cells.size > cells.size) := by
          have := hc.2; simp at this; omega
        have h1' : (decide (v.cells.size ≠ size) || decide (off + v.cells.size > cells.size)) = false := by
          have := hc.2; simp at this; simp [hsz]; omega
        simp only [h1', Bool.false_eq_true, if_false]
        have hf : (v.cells.zipIdx.foldl (fun (cs : Array Value) (x : Value × Nat) => cs.setIfInBounds (off + x.2) x.1) cells) = (putL cells.toList off v.cells.toList).toArray := by
          rw [← Array.foldl_toList]
          have := foldl_putL v.cells.toList 0 off cells
          simpa [Array.toList_zipIdx] using this
        rw [hf]
        exact fill_eq ps place hp rest _ out (by simpa using h)
      · cases h

theorem run_places (w : World) : ∀ (fs : List Field) (hi : ∀ f ∈ fs, (P.info? f.type).isSome = true),
    (fs.mapM (fun (f : Field) => Prod.mk f.offset <$> sizeOf f.type)).run P w = .ok (fs.map fun f => (f.offset, P.cellsOf f.type)) w
  | [], _ => by simp [List.mapM_nil, Sem.run, pure]
  | f :: fs, hi => by
    have ih := run_places w fs (fun g hg => hi g (List.mem_cons_of_mem _ hg))
    obtain ⟨i, h⟩ := Option.isSome_iff_exists.1 (hi f List.mem_cons_self)
    rw [List.mapM_cons]
    simp only [Program.cellsOf] at ih
    simp [run_sizeOf h, ih, Program.cellsOf, h]

theorem run_build {tb : Tb} (ht : TbOk P tb) {T : TypeId} {ps : List (Nat × Nat)} {zs : List Value} (h1 : tb.pl T = some ps) (h2 : tb.zero T = some zs)
    {l : List (Nat × Value)} {out : List Value} (hb : bldL ps zs l = some out) (w : World) : (Instr.build T l.toArray).run P w = .ok (.agg out.toArray) w := by
  obtain ⟨fs, hu, hps, hall⟩ := ht.pl T ps h1
  obtain ⟨i, v, hi, hz, hv⟩ := ht.zero T zs h2
  have hpl := run_places (P := P) w fs.toList hall
  rw [← hps] at hpl
  have hfill := fill_eq ps (fun i => ps[i]?) (fun i => rfl) l zs.toArray out (by simpa using hb)
  simp only [Instr.build]
  simp only [zeroValue, typeInfo]
  simp [hi, hz, run_underlying hu, hv]
  rw [Array.mapM_eq_mapM_toList]
  simp [hpl, hfill]

theorem eqGuard_bool (op : BinOp) (t : TypeId) (x y : Operand) (a b : Bool) (w : World) : (eqGuard op t x y (.bool a) (.bool b)).run P w = .ok () w := by
  cases op <;> simp [eqGuard]

theorem eqGuard_slice (op : BinOp) (t : TypeId) (x y : Operand) (a b : Option Addr) (n m c d : Nat) (w : World) : (eqGuard op t x y (.slice a n c) (.slice b m d)).run P w = .ok () w := by
  cases op <;> simp [eqGuard]

theorem eqGuard_int (op : BinOp) (t : TypeId) (x y : Operand) (k k' : IntKind) (n m : Int) (w : World) : (eqGuard op t x y (.int k n) (.int k' m)).run P w = .ok () w := by
  cases op <;> simp [eqGuard]

theorem eqGuard_string (op : BinOp) (t : TypeId) (x y : Operand) (n m : ByteArray) (w : World) : (eqGuard op t x y (.string n) (.string m)).run P w = .ok () w := by
  cases op <;> simp [eqGuard]

theorem binV_run {op : BinOp} {T : TypeId} {x y : Operand} {a b v : Value} (h : binV op a b = some v) (w : World) :
    (eqGuard op T x y a b).run P w = .ok () w ∧ (binOp op T a b).run P w = .ok v w := by
  unfold binV at h
  split at h <;> first
    | (split at h
       · rename_i hk
         subst hk
         obtain rfl := Option.some.inj h
         exact ⟨eqGuard_int _ _ _ _ _ _ _ _ _, by simp [binOp, Op.intArith, Op.intCmp, wr]⟩
       · cases h)
    | (obtain rfl := Option.some.inj h
       exact ⟨eqGuard_string _ _ _ _ _ _ _, by simp [binOp, Op.stringOp, ByteArray.toList_eq]⟩)
    | cases h

theorem equalIn_bool {d : Nat} {T : TypeId} (hu : P.underlying T = some .bool) (a b : Bool) (w : World) : (Op.equalIn (d + 1) T (.bool a) (.bool b)).run P w = .ok (a == b) w := by
  simp [Op.equalIn, run_underlying hu]

theorem equalIn_slice {d : Nat} {T e : TypeId} (hu : P.underlying T = some (.slice e)) (a : Option Addr) (n c : Nat) (w : World) : (Op.equalIn (d + 1) T (.slice a n c) (.slice none 0 0)).run P w = .ok a.isNone w := by
  cases a <;> simp [Op.equalIn, run_underlying hu]

theorem binB_run {tb : Tb} (ht : TbOk P tb) {op : BinOp} {T : TypeId} {x y : Operand} {a b v : Value} (hT : tb.bool T = true) (h : binB op a b = some v) (w : World) :
    (eqGuard op T x y a b).run P w = .ok () w ∧ (binOp op T a b).run P w = .ok v w := by
  have hu := ht.bool T hT
  unfold binB at h
  split at h
  · obtain rfl := Option.some.inj h
    refine ⟨eqGuard_bool _ _ _ _ _ _ _, ?_⟩
    rename_i p q
    have he := equalIn_bool (P := P) (d := 9999) hu p q w
    simp only [binOp, Op.equal, Op.maxDepth]
    simp [he]
  · obtain rfl := Option.some.inj h
    refine ⟨eqGuard_bool _ _ _ _ _ _ _, ?_⟩
    rename_i p q
    have he := equalIn_bool (P := P) (d := 9999) hu p q w
    simp only [binOp, Op.equal, Op.maxDepth]
    simp [he, bne]
  · cases h

theorem binN_run {tb : Tb} (ht : TbOk P tb) {op : BinOp} {T : TypeId} {x y : Operand} {a b v : Value} (hT : (tb.el T).isSome = true) (h : binN op a b = some v) (w : World) :
    (eqGuard op T x y a b).run P w = .ok () w ∧ (binOp op T a b).run P w = .ok v w := by
  obtain ⟨⟨e, n, m⟩, hel⟩ := Option.isSome_iff_exists.1 hT
  have hu := (ht.el T e n m hel).1
  unfold binN at h
  split at h
  · obtain rfl := Option.some.inj h
    refine ⟨eqGuard_slice _ _ _ _ _ _ _ _ _ _ _, ?_⟩
    rename_i p q r
    have he := equalIn_slice (P := P) (d := 9999) hu p q r w
    simp only [binOp, Op.equal, Op.maxDepth]
    simp [he]
  · obtain rfl := Option.some.inj h
    refine ⟨eqGuard_slice _ _ _ _ _ _ _ _ _ _ _, ?_⟩
    rename_i p q r
    have he := equalIn_slice (P := P) (d := 9999) hu p q r w
    simp only [binOp, Op.equal, Op.maxDepth]
    simp [he]
  · cases h

/-- What is computed is what Go computes. -/
theorem evalOp_quiet {tb : Tb} (ht : TbOk P tb) {s : Sym} {o : Oper} {sv : SV} (h : evalOp tb s o.op = some sv) : Quiet P s o sv := by
  obtain ⟨dst, op, type, pos, after, guard⟩ := o
  intro a w' hf
  simp only at h
  cases op <;> simp only [evalOp] at h <;> try (cases h; done)
  case move x => have := hf.ev h; exact ⟨this.2, by simp [execOp, this.1]⟩
  case assign x => have := hf.ev h; exact ⟨this.2, by simp [execOp, this.1]⟩
  case pick c x y =>
    split at h
    · rename_i hc
      have h1 := hf.ev hc; have := hf.ev h
      exact ⟨this.2, by simp [execOp, this.1, h1.1, den, asBool]⟩
    · rename_i hc
      have h1 := hf.ev hc; have := hf.ev h
      exact ⟨this.2, by simp [execOp, this.1, h1.1, den, asBool]⟩
    · cases h
  case fieldAddr T x j =>
    split at h
    · rename_i fo i off hfo hx
      obtain rfl := Option.some.inj h
      have := hf.ev hx
      exact ⟨this.2, by simp [execOp, this.1, den, run_fieldAt ht hfo]⟩
    · rename_i fo b off hfo hx
      obtain rfl := Option.some.inj h
      have := hf.ev hx
      exact ⟨trivial, by simp [execOp, this.1, den, run_fieldAt ht hfo]⟩
    · cases h
  case load T x =>
    split at h
    · rename_i i off hx
      split at h
      · rename_i bx n hL hsz
        split at h
        · rename_i hle
          obtain rfl := Option.some.inj h
          have h1 := hf.ev hx
          have hrow := hf.rowAt hL off n
          have hlen : (takeC off n bx.cells).length = n := by simp [takeC]; omega
          exact ⟨trivial, by simp [execOp, h1.1, den, bxb_eq hL, run_loadAt_agg ht hsz hlen hrow]⟩
        · cases h
      · rename_i bx n hL hsz
        rw [getA_eq] at h
        obtain ⟨v, hv, rfl⟩ := Option.map_eq_some_iff.1 h
        have h1 := hf.ev hx
        have hc := hf.cellAt hL off
        rw [hv] at hc
        refine ⟨svOk_toSV _ _, ?_⟩
        rw [den_toSV]
        simp [execOp, h1.1, den, bxb_eq hL, run_loadAt_one ht hsz hc]
      · cases h
    · cases h
  case binOp op T x y yT =>
    split at h
    · rename_i p q hp hq
      obtain ⟨sp, hp1, hp2⟩ := Option.bind_eq_some_iff.1 hp
      obtain ⟨sq, hq1, hq2⟩ := Option.bind_eq_some_iff.1 hq
      have h1 := (hf.ev hp1).1; have h2 := (hf.ev hq1).1
      rw [valOf_den s.L hp2] at h1
      rw [valOf_den s.L hq2] at h2
      have key : ∀ v, (eqGuard op T x y p q).run P w' = .ok () w' ∧ (binOp op T p q).run P w' = .ok v w' → svOk s.L (toSV v) ∧ (execOp a.eval ⟨dst, .binOp op T x y yT, type, pos, after, guard⟩).run P w' = .ok (.value (den s.L (toSV v))) w' := by
        intro v hv
        refine ⟨svOk_toSV _ _, ?_⟩
        rw [den_toSV]
        simp [execOp, h1, h2, hv.1, hv.2]
      split at h
      · rename_i v hv
        obtain rfl := Option.some.inj h
        exact key _ (binV_run hv w')
      · split at h
        · rename_i hb
          obtain ⟨v, hv, rfl⟩ := Option.map_eq_some_iff.1 h
          exact key _ (binB_run ht hb hv w')
        · split at h
          · rename_i hb
            obtain ⟨v, hv, rfl⟩ := Option.map_eq_some_iff.1 h
            exact key _ (binN_run ht hb hv w')
          · cases h
    · cases h
  case unOp op T x =>
    cases op <;> simp only at h <;> try (cases h; done)
    split at h
    · rename_i b hx
      obtain rfl := Option.some.inj h
      exact ⟨trivial, by simp [execOp, (hf.ev hx).1, den, Op.unary]⟩
    · rename_i b hx
      obtain rfl := Option.some.inj h
      exact ⟨trivial, by simp [execOp, (hf.ev hx).1, den, Op.unary]⟩
    · cases h
  case build T parts =>
    split at h
    · rename_i ps zs l h1 h2 h3
      obtain ⟨cs, hcs, rfl⟩ := Option.map_eq_some_iff.1 h
      have hp := evParts_eq hf h3
      have hp' : (parts.map fun (x : Nat × Operand) => (x.1, a.eval x.2)) = l.toArray := by
        rw [← hp]; apply Array.ext'; simp
      refine ⟨trivial, ?_⟩
      have := run_build ht h1 h2 hcs w'
      simp [execOp, hp', this, den]
    · cases h
  case extract x i =>
    split at h
    · rename_i vs hx
      rw [getA_eq] at h
      obtain ⟨v, hv, rfl⟩ := Option.map_eq_some_iff.1 h
      have hv' : vs[i]? = some v := by simpa using hv
      refine ⟨svOk_toSV _ _, ?_⟩
      rw [den_toSV]
      simp [execOp, (hf.ev hx).1, den, Instr.extract, hv']
    · cases h
  case convert src dst' x =>
    split at h
    · rename_i k k' n hk hx
      split at h
      · rename_i hs
        obtain ⟨k'', hs'⟩ := Option.isSome_iff_exists.1 hs
        obtain rfl := Option.some.inj h
        refine ⟨trivial, ?_⟩
        simp [execOp, (hf.ev hx).1, den, convert, run_underlying (ht.intk _ _ hk), run_underlying (ht.intk _ _ hs'), Conv.intToInt, wr]
      · cases h
    · cases h
  case makeFunc fn first captured =>
    split at h
    · rename_i f c h1 h2
      obtain rfl := Option.some.inj h
      have e1 := evArgs_eq hf h1
      have e2 := evArgs_eq hf h2
      have e1' : first.map a.eval = f.toArray := by rw [← e1]; apply Array.ext'; simp
      have e2' : captured.map a.eval = c.toArray := by rw [← e2]; apply Array.ext'; simp
      exact ⟨trivial, by simp [execOp, Instr.makeFunc, e1', e2', den]⟩
    · cases h
  case call c =>
    obtain ⟨callee, args, argTypes⟩ := c
    cases callee with
    | value f => simp only at h; cases h
    | invoke r m => simp only at h; cases h
    | builtin b =>
      cases b <;> simp only at h <;> try (cases h; done)
      case len =>
        split at h
        · rename_i T x hT hx
          have hargs : args = #[x] := by
            have := congrArg List.toArray hx; simpa using this
          subst hargs
          split at h
          · rename_i p n c hp
            split at h
            · rename_i hel
              obtain ⟨⟨e, n', m⟩, hel'⟩ := Option.isSome_iff_exists.1 hel
              obtain rfl := Option.some.inj h
              exact ⟨trivial, by simp [execOp, resolve, invoke, builtin, (hf.ev hp).1, den, Builtin.len_, hT, run_underlying (ht.el _ _ _ _ hel').1, goInt]⟩
            · cases h
          · rename_i p hp
            split at h
            · rename_i hel
              obtain rfl := Option.some.inj h
              exact ⟨trivial, by simp [execOp, resolve, invoke, builtin, (hf.ev hp).1, den, Builtin.len_, hT, run_underlying (ht.str _ hel), goInt]⟩
            · cases h
          · cases h
        · cases h
      case min =>
        split at h
        · rename_i x y hx
          have hargs : args = #[x, y] := by
            have := congrArg List.toArray hx; simpa using this
          subst hargs
          split at h
          · rename_i k p k' q hp hq
            obtain rfl := Option.some.inj h
            exact ⟨trivial, by simp [execOp, resolve, invoke, builtin, (hf.ev hp).1, (hf.ev hq).1, den, Builtin.min_, Builtin.min2]⟩
          · cases h
        · cases h
      case max =>
        split at h
        · rename_i x y hx
          have hargs : args = #[x, y] := by
            have := congrArg List.toArray hx; simpa using this
          subst hargs
          split at h
          · rename_i k p k' q hp hq
            obtain rfl := Option.some.inj h
            exact ⟨trivial, by simp [execOp, resolve, invoke, builtin, (hf.ev hp).1, (hf.ev hq).1, den, Builtin.max_, Builtin.max2]⟩
          · cases h
        · cases h
end
end Go.Fw

set_option linter.unusedVariables false
set_option linter.unusedSimpArgs false
namespace Go.Fw
open Go

section
variable {P : Program} {ops : Array Oper} {nk : List Nat} {Q : Exit → Act → World → Prop} {s : Sym}

/-! ### Statements over all states that fit -/

def SWp (P : Program) (c : Code) (Q : Exit → Act → World → Prop) (s : Sym) : Prop := ∀ a w, Fits s a w → c.wp P Q a w
def SQ (Q : Exit → Act → World → Prop) (e : Exit) (s : Sym) : Prop := ∀ a w, Fits s a w → Q e a w
def SSeq (P : Program) (ops : Array Oper) (nk : List Nat) (Q : Exit → Act → World → Prop) (l : List (Nat × Oper)) (s : Sym) : Prop :=
  ∀ a w, Fits s a w → wpSeqK P ops nk Q l a w

theorem swp_seq {x y : Code} (h : SWp P x (Exit.then (y.wp P Q) Q) s) : SWp P (.seq x y) Q s := fun a w hf => wp_seq (h a w hf)
theorem swp_skip (h : SQ Q .normal s) : SWp P .skip Q s := fun a w hf => wp_skip (h a w hf)
theorem swp_ret (h : SQ Q .ret s) : SWp P .ret Q s := fun a w hf => wp_ret (h a w hf)
theorem swp_exit {id : Nat} (h : SQ Q (.exit id) s) : SWp P (.exit id) Q s := fun a w hf => wp_exit (h a w hf)
theorem swp_block {id : Nat} {c : Code} (h : SWp P c (Exit.inBlock id Q) s) : SWp P (.block id c) Q s := fun a w hf => wp_block (h a w hf)
theorem swp_cond {c : Operand} {x y : Code} {b : Bool} (hc : evS s c = some (.val (.bool b))) (ht : b = true → SWp P x Q s) (hf : b = false → SWp P y Q s) : SWp P (.cond c x y) Q s :=
  fun a w hfit => wp_cond_split (hfit.ev hc).1 (fun h => ht h a w hfit) (fun h => hf h a w hfit)
theorem swp_condS {c : Operand} {x y : Code} {b : Bool} (hc : evS s c = some (.sb b)) (ht : b = true → SWp P x Q s) (hf : b = false → SWp P y Q s) : SWp P (.cond c x y) Q s :=
  fun a w hfit => wp_cond_split (hfit.ev hc).1 (fun h => ht h a w hfit) (fun h => hf h a w hfit)
theorem swp_cond_t {c : Operand} {x y : Code} (hc : evS s c = some (.val (.bool true))) (ht : SWp P x Q s) : SWp P (.cond c x y) Q s :=
  swp_cond hc (fun _ => ht) (fun h => by cases h)
theorem swp_cond_f {c : Operand} {x y : Code} (hc : evS s c = some (.val (.bool false))) (ht : SWp P y Q s) : SWp P (.cond c x y) Q s :=
  swp_cond hc (fun h => by cases h) (fun _ => ht)
theorem swp_region {id : Nat} {l : List Oper} (h : SSeq P l.toArray (List.range l.length) Q (lexL l.toArray) s) : SWp P (.region id l.toArray false) Q s :=
  fun a w hf => wp_region_seq (h a w hf)

theorem Fits.drew {a : Act} {w : World} (h : Fits s a w) : Fits s a { w with drawn := w.drawn + 1 } :=
  ⟨h.size, h.defers, h.env, h.wf, h.kp.drew, h.loc, h.row, h.dist, h.lb, h.fresh, h.rfresh⟩

theorem swp_draw {id : Nat} {l : List Oper} (hm : P.follows .mixedOrders = true) (ord nk : List Nat) (hs : Region.noSelect l.toArray = true)
    (hok : okOrd .any l.toArray nk ord (Array.replicate l.length false) = true) (hl : ord.length = l.length)
    (h : SSeq P l.toArray nk (onlyN Q) (ordL l.toArray ord) s) : SWp P (.region id l.toArray true) Q s :=
  fun a w hf => wp_region_ord hm hs ord (by simpa using hok) (by simpa using hl) (h a _ hf.drew)

theorem sq_then {y : Code} (h : SWp P y Q s) : SQ (Exit.then (y.wp P Q) Q) .normal s := h
theorem sq_then_ret {N : Act → World → Prop} (h : SQ Q .ret s) : SQ (Exit.then N Q) .ret s := h
theorem sq_then_exit {N : Act → World → Prop} {id : Nat} (h : SQ Q (.exit id) s) : SQ (Exit.then N Q) (.exit id) s := h
theorem sq_in {id : Nat} (h : SQ Q .normal s) : SQ (Exit.inBlock id Q) .normal s := h
theorem sq_in_ret {id : Nat} (h : SQ Q .ret s) : SQ (Exit.inBlock id Q) .ret s := h
theorem sq_in_exit {id : Nat} (h : SQ Q .normal s) : SQ (Exit.inBlock id Q) (.exit id) s := fun a w hf => by
  simp only [Exit.inBlock, if_true]; exact h a w hf
theorem sq_in_exit_ne {id id' : Nat} (hne : (id' == id) = false) (h : SQ Q (.exit id') s) : SQ (Exit.inBlock id Q) (.exit id') s := fun a w hf => by
  simp only [Exit.inBlock]; rw [if_neg (by simpa using hne)]; exact h a w hf
theorem sq_only (h : SQ Q .normal s) : SQ (onlyN Q) .normal s := h

/-- Two ways meet again: what is known on each is enough for this state. -/
theorem swp_join {c : Code} (Q' : Exit → Act → World → Prop) (h : SWp P c Q' s) (hQ : ∀ e a w, Q' e a w → Q e a w) : SWp P c Q s :=
  fun a w hf => Code.wp_mono (hQ) (h a w hf)

/-! ### Operations -/

/-- The same, where what computes has been computed. -/
def SSt (P : Program) (l : List Oper) (nk : List Nat) (Q : Exit → Act → World → Prop) (l1 : List (Nat × Oper)) (s : Sym) : Prop := SSeq P l.toArray nk Q l1 s

theorem sseq_nil (h : SQ Q .normal s) : SSeq P ops nk Q [] s := h
theorem sst_nil {l : List Oper} (h : SQ Q .normal s) : SSt P l nk Q [] s := h

def getO : List Oper → Nat → Option Oper
  | [], _ => none
  | o :: _, 0 => some o
  | _ :: r, i + 1 => getO r i

theorem getO_eq : ∀ (l : List Oper) (i : Nat), getO l i = l[i]?
  | [], _ => by simp [getO]
  | v :: r, 0 => by simp [getO]
  | v :: r, i + 1 => by simp [getO, getO_eq r i]

def boolV : SV → Option Bool
  | .val (.bool true) => some true
  | .val (.bool false) => some false
  | _ => none

def isUndef : SV → Bool
  | .val (.tuple _) => true
  | _ => false

def guardV (l : List Oper) (s : Sym) : Option (Nat × Bool) → Option Bool
  | none => some true
  | some (j, want) =>
    match (getO l j).bind (·.dst) with
    | some t =>
      match look s.env t with
      | some sv =>
        match boolV sv with
        | some b => some (b == want)
        | none => if isUndef sv then some false else none
      | none => none
    | none => none

theorem boolV_eq {sv : SV} {b : Bool} (h : boolV sv = some b) : sv = .val (.bool b) := by
  unfold boolV at h
  split at h
  · simp at h; subst h; rfl
  · simp at h; subst h; rfl
  · cases h

theorem yielded_of {l : List Oper} {a : Act} {w : World} (hf : Fits s a w) {j t : Nat} (hj : (getO l j).bind (·.dst) = some t) {sv : SV} (ht : look s.env t = some sv) :
    (∀ b, sv = .val (.bool b) → yielded l.toArray a.tmps j = some b) ∧ (isUndef sv = true → yielded l.toArray a.tmps j = none) := by
  have hd := hf.env t sv ht
  rw [getO_eq] at hj
  have hj' : ((l.toArray[j]?).bind (·.dst)) = some t := by simpa using hj
  constructor
  · intro b hb
    subst hb
    simp only [den] at hd
    simp only [yielded, hj', Option.bind_some]
    rw [Array.getD_eq_getD_getElem?] at hd
    cases hg : a.tmps[t]? with
    | none => rw [hg] at hd; simp [undef] at hd
    | some v => rw [hg] at hd; simp at hd; subst hd; rfl
  · intro hu
    simp only [yielded, hj', Option.bind_some]
    rw [Array.getD_eq_getD_getElem?] at hd
    cases hg : a.tmps[t]? with
    | none => rfl
    | some v =>
      rw [hg] at hd
      simp at hd
      unfold isUndef at hu
      split at hu
      · simp only [den] at hd; subst hd; rfl
      · cases hu

theorem guardV_eq {l : List Oper} {a : Act} {w : World} (hf : Fits s a w) {o : Oper} {b : Bool} (h : guardV l s o.guard = some b) : Region.wanted o (yielded l.toArray a.tmps) = b := by
  unfold Region.wanted
  cases hg : o.guard with
  | none => rw [hg] at h; simp [guardV] at h; simp [h]
  | some g =>
    obtain ⟨j, want⟩ := g
    rw [hg] at h
    simp only [guardV] at h
    split at h
    · rename_i t ht
      split at h
      · rename_i sv hsv
        have hy := yielded_of hf ht hsv
        split at h
        · rename_i b' hb'
          have := hy.1 b' (boolV_eq hb')
          simp only [this]
          obtain rfl := Option.some.inj h
          cases b' <;> cases want <;> rfl
        · split at h
          · rename_i hu
            simp only [hy.2 hu]
            obtain rfl := Option.some.inj h
            rfl
          · cases h
      · cases h
    · cases h

def evalOps (tb : Tb) (l : List Oper) : List (Nat × Oper) → Sym → List (Nat × Oper) × Sym
  | [], s => ([], s)
  | (i, o) :: rest, s =>
    match guardV l s o.guard with
    | none => ((i, o) :: rest, s)
    | some false => if dok s o.dst then evalOps tb l rest (s.put o.dst (.val undef)) else ((i, o) :: rest, s)
    | some true =>
      match evalOp tb s o.op with
      | none => ((i, o) :: rest, s)
      | some sv => if dok s o.dst then evalOps tb l rest (s.put o.dst sv) else ((i, o) :: rest, s)

/-- One operation that is quiet in this state. -/
theorem sseq_quiet {l : List Oper} {i : Nat} {o : Oper} {rest : List (Nat × Oper)} {sv : SV} (hg : guardV l s o.guard = some true) (hd : dok s o.dst = true) (hq : Quiet P s o sv)
    (h : SSeq P l.toArray nk Q rest (s.put o.dst sv)) : SSeq P l.toArray nk Q ((i, o) :: rest) s := by
  intro a w hf
  simp only [wpSeqK]
  rw [if_pos (guardV_eq hf hg)]
  exact .inl ⟨den s.L sv, fun w' hk => (hq a w' (hf.later hk)).2, h _ _ (hf.put hd (hq a w hf).1)⟩

theorem sseq_pass {l : List Oper} {i : Nat} {o : Oper} {rest : List (Nat × Oper)} (hg : guardV l s o.guard = some false) (hd : dok s o.dst = true)
    (h : SSeq P l.toArray nk Q rest (s.put o.dst (.val undef))) : SSeq P l.toArray nk Q ((i, o) :: rest) s := by
  intro a w hf
  simp only [wpSeqK]
  rw [if_neg (by rw [guardV_eq hf hg]; decide)]
  exact h _ _ (hf.put (sv := .val undef) hd trivial)

theorem sseq_eval {tb : Tb} (ht : TbOk P tb) {l : List Oper} : ∀ {l1 : List (Nat × Oper)} {s : Sym} {l2 : List (Nat × Oper)} {s2 : Sym}, evalOps tb l l1 s = (l2, s2) → SSt P l nk Q l2 s2 → SSeq P l.toArray nk Q l1 s
  | [], s, l2, s2, he, h => by simp [evalOps] at he; obtain ⟨rfl, rfl⟩ := he; exact h
  | (i, o) :: rest, s, l2, s2, he, h => by
    simp only [evalOps] at he
    split at he
    · simp at he; obtain ⟨rfl, rfl⟩ := he; exact h
    · rename_i hg
      split at he
      · rename_i hd
        exact sseq_pass hg hd (sseq_eval ht he h)
      · simp at he; obtain ⟨rfl, rfl⟩ := he; exact h
    · rename_i hg
      split at he
      · simp at he; obtain ⟨rfl, rfl⟩ := he; exact h
      · rename_i sv hsv
        split at he
        · rename_i hd
          exact sseq_quiet hg hd (evalOp_quiet ht hsv) (sseq_eval ht he h)
        · simp at he; obtain ⟨rfl, rfl⟩ := he; exact h

/-- A Bool in a slot is decided. -/
theorem sseq_split {l : List Oper} {l1 : List (Nat × Oper)} (t : Nat) {b : Bool} (ht : look s.env t = some (.sb b))
    (h1 : b = true → SSeq P l.toArray nk Q l1 { s with env := (t, .val (.bool true)) :: s.env })
    (h2 : b = false → SSeq P l.toArray nk Q l1 { s with env := (t, .val (.bool false)) :: s.env }) : SSeq P l.toArray nk Q l1 s := by
  intro a w hf
  have key : ∀ b', b = b' → Fits { s with env := (t, .val (.bool b')) :: s.env } a w := by
    intro b' hb
    subst hb
    refine ⟨hf.size, hf.defers, ?_, ?_, hf.kp, hf.loc, hf.row, hf.dist, hf.lb, hf.fresh, hf.rfresh⟩
    · intro t' sv ht'
      simp only [look] at ht'
      split at ht'
      · rename_i htt
        subst htt
        obtain rfl := Option.some.inj ht'
        have h3 := hf.env t _ ht
        exact h3
      · exact hf.env t' sv ht'
    · intro t' i off ht'
      simp only [look] at ht'
      split at ht'
      · cases ht'
      · exact hf.wf t' i off ht'
  cases b with
  | true => exact h1 rfl a w (key _ rfl)
  | false => exact h2 rfl a w (key _ rfl)

theorem sst_quiet {l : List Oper} {i : Nat} {o : Oper} {rest : List (Nat × Oper)} {sv : SV} (hg : guardV l s o.guard = some true) (hd : dok s o.dst = true) (hq : Quiet P s o sv)
    (h : SSeq P l.toArray nk Q rest (s.put o.dst sv)) : SSt P l nk Q ((i, o) :: rest) s := sseq_quiet hg hd hq h

theorem sst_split {l : List Oper} {l1 : List (Nat × Oper)} (t : Nat) {b : Bool} (ht : look s.env t = some (.sb b))
    (h1 : b = true → SSeq P l.toArray nk Q l1 { s with env := (t, .val (.bool true)) :: s.env })
    (h2 : b = false → SSeq P l.toArray nk Q l1 { s with env := (t, .val (.bool false)) :: s.env }) : SSt P l nk Q l1 s := sseq_split t ht h1 h2

theorem sst_guard {l : List Oper} {i : Nat} {o : Oper} {rest : List (Nat × Oper)} {j t : Nat} {want b : Bool} (hg : o.guard = some (j, want)) (hj : (getO l j).bind (·.dst) = some t) (ht : look s.env t = some (.sb b))
    (h1 : b = true → SSeq P l.toArray nk Q ((i, o) :: rest) { s with env := (t, .val (.bool true)) :: s.env })
    (h2 : b = false → SSeq P l.toArray nk Q ((i, o) :: rest) { s with env := (t, .val (.bool false)) :: s.env }) : SSt P l nk Q ((i, o) :: rest) s := sseq_split t ht h1 h2
end
end Go.Fw

set_option linter.unusedVariables false
set_option linter.unusedSimpArgs false
namespace Go.Fw
open Go

section
variable {P : Program} {ops : Array Oper} {nk : List Nat} {Q : Exit → Act → World → Prop} {s : Sym}

/-! ### Entering and leaving a function -/

def argEnv : Nat → List Value → List (Nat × SV)
  | _, [] => []
  | i, v :: vs => (i, .val v) :: argEnv (i + 1) vs

theorem look_argEnv : ∀ (vs : List Value) (i t : Nat) (sv : SV), look (argEnv i vs) t = some sv → ∃ v, sv = .val v ∧ i ≤ t ∧ vs[t - i]? = some v
  | [], i, t, sv, h => by simp [argEnv, look] at h
  | v :: vs, i, t, sv, h => by
    simp only [argEnv, look] at h
    split at h
    · rename_i hit
      subst hit
      obtain rfl := Option.some.inj h
      exact ⟨v, rfl, Nat.le_refl _, by simp⟩
    · rename_i hne
      obtain ⟨u, h1, h2, h3⟩ := look_argEnv vs (i + 1) t sv h
      refine ⟨u, h1, by omega, ?_⟩
      rw [show t - i = (t - (i + 1)) + 1 from by omega]
      simpa using h3

def start (n : Nat) (args : List Value) (base : Nat) (w : World) : Sym := ⟨n, argEnv 0 args, [], [], base, w, No⟩

theorem calls_intro {f : FuncId} {fn : Func} {c : Code} {n : Nat} {args : List Value} {w : World} {R : Ending → World → Prop} (base : Nat)
    (hf : P.funcs[f]? = some fn) (hb : fn.body = some c) (hn : fn.ntmps = n) (hlen : args.length ≤ n) (hbase : base ≤ w.heap.size)
    (h : SWp P c (bodyPost P fn R) (start n args base w)) : Calls P f args.toArray w R := by
  refine calls_of_wp hf hb (h _ _ ?_)
  subst hn
  refine ⟨by simp [start]; omega, rfl, ?_, ?_, Kp.refl _ _, ?_, ?_, by simp [Sym.blocks, start], ⟨hbase, ?_⟩, ?_, ?_⟩
  · intro t sv ht
    obtain ⟨v, rfl, _, hv⟩ := look_argEnv args 0 t sv ht
    have hlt : t < args.length := by
      have := (List.getElem?_eq_some_iff.1 hv).1; omega
    simp only [den]
    rw [Array.getD_eq_getD_getElem?, Array.getElem?_append_left (by simpa using hlt)]
    simp at hv
    simp [hv]
  · intro t i off ht
    obtain ⟨v, h1, _⟩ := look_argEnv args 0 t _ ht
    cases h1
  all_goals (intro i bx hi; simp [start] at hi)

/-- What a result variable holds. -/
def resV (tb : Tb) (s : Sym) : ResultVar → Option Value
  | .tmp t => (look s.env t).map (den s.L)
  | .cell t T =>
    match look s.env t with
    | some (.loc i off) =>
      match s.L[i]?, tb.sz T with
      | some bx, some (true, n) => if off + n ≤ bx.cells.length then some (.agg (takeC off n bx.cells).toArray) else none
      | some bx, some (false, _) => getA bx.cells off
      | _, _ => none
    | _ => none

def resVs (tb : Tb) (s : Sym) : List ResultVar → Option (List Value)
  | [] => some []
  | r :: rs =>
    match resV tb s r, resVs tb s rs with
    | some v, some l => some (v :: l)
    | _, _ => none

def oneOr : List Value → Value
  | [v] => v
  | vs => .tuple vs.toArray

def resSem (tmps : Array Value) : ResultVar → Sem Value
  | .tmp t => pure (tmps.getD t undef)
  | .cell t T => do loadVar T (← asAddr (tmps.getD t undef))

theorem results_eq (fn : Func) (tmps : Array Value) : results fn tmps = (do
  let vs ← fn.results.mapM (resSem tmps)
  pure (if h : vs.size = 1 then vs[0] else .tuple vs)) := by
  unfold results
  congr 1

theorem run_resV {tb : Tb} (ht : TbOk P tb) {a : Act} {w : World} (hf : Fits s a w) {r : ResultVar} {v : Value} (h : resV tb s r = some v) :
    (resSem a.tmps r).run P w = .ok v w := by
  cases r with
  | tmp t =>
    simp only [resV] at h
    obtain ⟨sv, hsv, rfl⟩ := Option.map_eq_some_iff.1 h
    simp only [resSem, hf.env t sv hsv]; rfl
  | cell t T =>
    simp only [resV] at h
    split at h
    · rename_i i off hl
      have he := hf.env t _ hl
      split at h
      · rename_i bx n hL hsz
        split at h
        · rename_i hle
          obtain rfl := Option.some.inj h
          have hlen : (takeC off n bx.cells).length = n := by simp [takeC]; omega
          have := run_loadAt_agg ht hsz hlen (hf.rowAt hL off n)
          simp only [Instr.loadAt, Instr.sureAddr] at this
          simp only [resSem, he, den, bxb_eq hL, asAddr]
          simpa using this
        · cases h
      · rename_i bx n hL hsz
        rw [getA_eq] at h
        have hc := hf.cellAt hL off
        rw [h] at hc
        have := run_loadAt_one ht hsz hc
        simp only [Instr.loadAt, Instr.sureAddr] at this
        simp only [resSem, he, den, bxb_eq hL, asAddr]
        simpa using this
      · cases h
    · cases h

theorem run_resVs {tb : Tb} (ht : TbOk P tb) {a : Act} {w : World} (hf : Fits s a w) : ∀ {rs : List ResultVar} {vs : List Value}, resVs tb s rs = some vs →
    (rs.mapM (resSem a.tmps)).run P w = .ok vs w
  | [], vs, h => by simp [resVs] at h; subst h; simp [List.mapM_nil]
  | r :: rs, vs, h => by
    simp only [resVs] at h
    split at h
    · rename_i v l h1 h2
      obtain rfl := Option.some.inj h
      have e1 := run_resV ht hf h1
      have e2 := run_resVs ht hf h2
      rw [List.mapM_cons]
      simp [e1, e2]
    · cases h

theorem run_results {tb : Tb} (ht : TbOk P tb) {fn : Func} {a : Act} {w : World} (hf : Fits s a w) {rs : List ResultVar} (hr : fn.results = rs.toArray) {vs : List Value} (h : resVs tb s rs = some vs) :
    (results fn a.tmps).run P w = .ok (oneOr vs) w := by
  have := run_resVs ht hf h
  rw [results_eq, hr, Array.mapM_eq_mapM_toList]
  simp [this]
  match vs, h with
  | [], _ => rfl
  | [v], _ => rfl
  | v :: u :: r, _ => rfl

theorem sq_ret {tb : Tb} (ht : TbOk P tb) {fn : Func} {R : Ending → World → Prop} {rs : List ResultVar} (hr : fn.results = rs.toArray) {vs : List Value} (hv : resVs tb s rs = some vs)
    (h : ∀ w', Kp s.D s.w w' → (∀ r ∈ s.R, w'.ownsRow s.base r.e r.size r.v r.n r.xs) → R (.returned (oneOr vs)) w') : SQ (bodyPost P fn R) .ret s :=
  fun a w hf => ⟨hf.defers, _, run_results ht hf hr hv, h w hf.kp fun r hm => by
    obtain ⟨i, hi, rfl⟩ := List.getElem_of_mem hm
    exact hf.row i _ (by rw [List.getElem?_eq_getElem hi])⟩

theorem sq_end {tb : Tb} (ht : TbOk P tb) {fn : Func} {R : Ending → World → Prop} {rs : List ResultVar} (hr : fn.results = rs.toArray) {vs : List Value} (hv : resVs tb s rs = some vs)
    (h : ∀ w', Kp s.D s.w w' → (∀ r ∈ s.R, w'.ownsRow s.base r.e r.size r.v r.n r.xs) → R (.returned (oneOr vs)) w') : SQ (bodyPost P fn R) .normal s :=
  sq_ret (s := s) ht hr hv h

/-! ### New blocks -/

theorem Fits.block_lt {a : Act} {w : World} (hf : Fits s a w) : ∀ b ∈ s.blocks, b < w.heap.size := by
  intro b hb
  simp only [Sym.blocks, List.mem_append, List.mem_filterMap, List.mem_map] at hb
  rcases hb with ⟨r, hr, hv⟩ | ⟨bx, hbx, rfl⟩
  · obtain ⟨i, hi, rfl⟩ := List.getElem_of_mem hr
    exact ((hf.row i _ (by rw [List.getElem?_eq_getElem hi])).lt b hv).2
  · obtain ⟨i, hi, rfl⟩ := List.getElem_of_mem hbx
    exact (Array.getElem?_eq_some_iff.1 (hf.loc i _ (by rw [List.getElem?_eq_getElem hi]))).1

theorem den_app {L : List Bx} (x : Bx) {sv : SV} (h : svOk L sv) : den (L ++ [x]) sv = den L sv := by
  cases sv with
  | val v => rfl
  | sb b => rfl
  | loc i off => simp only [den]; rw [bxb_append x h]

def Sym.addL (s : Sym) (bx : Bx) : Sym := { s with L := s.L ++ [bx] }

theorem Fits.addL {a : Act} {w : World} (hf : Fits s a w) (T : TypeId) (cs : List Value) :
    Fits (s.addL ⟨w.heap.size, T, cs, true⟩) a { w with heap := w.heap.push (.cells cs.toArray T) } := by
  have hk := Kp.alloc w (.cells cs.toArray T)
  have h2 := hf.later hk
  have hnew : w.heap.size ∉ s.blocks := fun h => Nat.lt_irrefl _ (hf.block_lt _ h)
  refine ⟨h2.size, h2.defers, ?_, ?_, h2.kp, ?_, h2.row, ?_, ⟨h2.lb.1, ?_⟩, ?_, h2.rfresh⟩
  · intro t sv ht
    have := h2.env t sv ht
    rw [this]
    refine (den_app _ ?_).symm
    cases sv with
    | val v => trivial
    | sb b => trivial
    | loc i off => exact h2.wf t i off ht
  · intro t i off ht
    have := h2.wf t i off ht
    simp [Sym.addL]; omega
  · intro i bx hi
    simp only [Sym.addL, List.getElem?_append] at hi
    split at hi
    · exact h2.loc i bx hi
    · rename_i hlt
      have hz : i - s.L.length = 0 := by
        rcases Nat.eq_zero_or_pos (i - s.L.length) with h | h
        · exact h
        · obtain ⟨m, hm⟩ : ∃ m, i - s.L.length = m + 1 := ⟨i - s.L.length - 1, by omega⟩
          rw [hm] at hi; simp at hi
      rw [hz] at hi
      simp at hi
      subst hi
      simp
  · have hd := hf.dist
    simp only [Sym.blocks, Sym.addL, List.map_append, List.map_cons, List.map_nil, ← List.append_assoc]
    rw [List.nodup_append]
    refine ⟨hd, by simp, ?_⟩
    intro b hb c hc
    simp at hc
    subst hc
    intro hbc
    subst hbc
    exact hnew hb
  · intro i bx hi
    simp only [Sym.addL, List.getElem?_append] at hi
    split at hi
    · exact h2.lb.2 i bx hi
    · have := List.mem_of_getElem? hi
      simp at this
      subst this
      exact Nat.le_trans hf.lb.1 hf.kp.size
  · intro i bx hi hn
    simp only [Sym.addL, List.getElem?_append] at hi
    split at hi
    · exact h2.fresh i bx hi hn
    · have := List.mem_of_getElem? hi
      simp at this
      subst this
      exact hf.kp.size

theorem wp_value_new {o : Oper} {a : Act} {w w' : World} {v : Value} {K : Act → World → Prop} (h : (execOp a.eval o).run P w = .ok (.value v) w')
    (hK : K (a.put o.dst v) w') : o.wp P a w K Q := by
  unfold Oper.wp; rw [h]; exact hK

theorem dok_addL {bx : Bx} {d : Option Tmp} (h : dok s d = true) : dok (s.addL bx) d = true := by
  cases d with
  | none => rfl
  | some d => exact h

/-- A local variable with this content. -/
theorem sst_box {l : List Oper} {i : Nat} {o : Oper} {rest : List (Nat × Oper)} {T : TypeId} {x : Operand} (hop : o.op = .box T x) (hg : guardV l s o.guard = some true) (hd : dok s o.dst = true)
    {v : Value} {cs : List Value} (hx : evS s x = some (.val v)) (hcs : v.cells = cs.toArray)
    (h : ∀ b, s.w.heap.size ≤ b → (∀ k ∈ s.blocks, k < b) → SSeq P l.toArray nk Q rest ((s.addL ⟨b, T, cs, true⟩).put o.dst (.loc s.L.length 0))) : SSt P l nk Q ((i, o) :: rest) s := by
  intro a w hf
  simp only [wpSeqK]
  rw [if_pos (guardV_eq hf hg)]
  refine .inr ⟨by simp [hop, quietK], ?_⟩
  have hrun : (execOp a.eval o).run P w = .ok (.value (.pointer (some ⟨w.heap.size, 0, none⟩))) { w with heap := w.heap.push (.cells cs.toArray T) } := by
    unfold execOp
    simp only [hop, (hf.ev hx).1, den]
    simp [Instr.box, newVar, newRow, newObj, hcs, Sem.run, Sem.bind, bind, pure]
  refine wp_value_new hrun ⟨fun _ => Kp.alloc w _, h w.heap.size hf.kp.size hf.block_lt _ _ ?_⟩
  have hfit := (hf.addL T cs).put (d := o.dst) (sv := .loc s.L.length 0) (dok_addL hd) (by simp [svOk, Sym.addL])
  have hb : bxb (s.addL ⟨w.heap.size, T, cs, true⟩).L s.L.length = w.heap.size := bxb_last _
  simp only [den, hb] at hfit
  exact hfit

theorem sst_alloc {tb : Tb} (ht : TbOk P tb) {l : List Oper} {i : Nat} {o : Oper} {rest : List (Nat × Oper)} {T : TypeId} (hop : o.op = .alloc T) (hg : guardV l s o.guard = some true) (hd : dok s o.dst = true)
    {zs : List Value} (hz : tb.zero T = some zs)
    (h : ∀ b, s.w.heap.size ≤ b → (∀ k ∈ s.blocks, k < b) → SSeq P l.toArray nk Q rest ((s.addL ⟨b, T, zs, true⟩).put o.dst (.loc s.L.length 0))) : SSt P l nk Q ((i, o) :: rest) s := by
  intro a w hf
  simp only [wpSeqK]
  rw [if_pos (guardV_eq hf hg)]
  refine .inr ⟨by simp [hop, quietK], ?_⟩
  obtain ⟨ti, v, h1, h2, h3⟩ := ht.zero T zs hz
  have hrun : (execOp a.eval o).run P w = .ok (.value (.pointer (some ⟨w.heap.size, 0, none⟩))) { w with heap := w.heap.push (.cells zs.toArray T) } := by
    unfold execOp
    simp only [hop]
    simp [Instr.alloc, zeroValue, typeInfo, h1, h2, newVar, newRow, newObj, h3]
    rfl
  refine wp_value_new hrun ⟨fun _ => Kp.alloc w _, h w.heap.size hf.kp.size hf.block_lt _ _ ?_⟩
  have hfit := (hf.addL T zs).put (d := o.dst) (sv := .loc s.L.length 0) (dok_addL hd) (by simp [svOk, Sym.addL])
  have hb : bxb (s.addL ⟨w.heap.size, T, zs, true⟩).L s.L.length = w.heap.size := bxb_last _
  simp only [den, hb] at hfit
  exact hfit
end
end Go.Fw

set_option linter.unusedVariables false
set_option linter.unusedSimpArgs false
namespace Go.Fw
open Go

section
variable {P : Program} {ops : Array Oper} {nk : List Nat} {Q : Exit → Act → World → Prop} {s : Sym}

/-! ### Reading memory that is not ours -/

theorem RowAt.kp {D : Nat → Prop} {w w' : World} {b off : Nat} {cs : List Value} (h : RowAt w b off cs) (hk : Kp D w w') (hd : ¬ D b) : RowAt w' b off cs :=
  fun j v hj => hk.cell (h j v hj) hd

theorem q_far_agg {tb : Tb} (ht : TbOk P tb) {o : Oper} {T : TypeId} {x : Operand} (hop : o.op = .load T x) {n b off : Nat} (hsz : tb.sz T = some (true, n))
    (hx : evS s x = some (.val (.pointer (some ⟨b, off, none⟩)))) (hd : ¬ s.D b) {cs : List Value} (hl : cs.length = n) (hr : RowAt s.w b off cs) : Quiet P s o (.val (.agg cs.toArray)) := by
  intro a w hf
  refine ⟨trivial, ?_⟩
  unfold execOp
  simp only [hop, (hf.ev hx).1, den]
  simp [run_loadAt_agg ht hsz hl (hr.kp hf.kp hd)]

theorem q_far_one {tb : Tb} (ht : TbOk P tb) {o : Oper} {T : TypeId} {x : Operand} (hop : o.op = .load T x) {n b off : Nat} (hsz : tb.sz T = some (false, n))
    (hx : evS s x = some (.val (.pointer (some ⟨b, off, none⟩)))) (hd : ¬ s.D b) {v : Value} (hr : s.w.cell? ⟨b, off, none⟩ = some v) : Quiet P s o (.val v) := by
  intro a w hf
  refine ⟨trivial, ?_⟩
  unfold execOp
  simp only [hop, (hf.ev hx).1, den]
  simp [run_loadAt_one ht hsz (hf.kp.cell hr hd)]

theorem getElem?_takeC {cs : List Value} {off n j : Nat} (h : j < n) : (takeC off n cs)[j]? = cs[off + j]? := by
  simp [takeC, List.getElem?_take, List.getElem?_drop, h]

/-- An element of a row of ours. -/
theorem q_row_agg {tb : Tb} (ht : TbOk P tb) {o : Oper} {T : TypeId} {x : Operand} (hop : o.op = .load T x) {n b off : Nat} (hsz : tb.sz T = some (true, n))
    (hx : evS s x = some (.val (.pointer (some ⟨b, off, none⟩)))) (ix : Nat) {r : Rw} (hr : s.R[ix]? = some r) (hb : r.v.ownBlock = some b) (hle : off + n ≤ r.xs.length) :
    Quiet P s o (.val (.agg (takeC off n r.xs).toArray)) := by
  intro a w hf
  refine ⟨trivial, ?_⟩
  have hrow : RowAt w b off (takeC off n r.xs) := by
    intro j v hj
    have hjn : j < n := by
      have := (List.getElem?_eq_some_iff.1 hj).1
      simp [takeC] at this; omega
    rw [getElem?_takeC hjn] at hj
    have := (hf.row ix r hr).cells hb (off + j) v hj
    rw [add_mk] at this
    simpa using this
  unfold execOp
  simp only [hop, (hf.ev hx).1, den]
  simp [run_loadAt_agg ht hsz (show (takeC off n r.xs).length = n by simp [takeC]; omega) hrow]

theorem q_row_one {tb : Tb} (ht : TbOk P tb) {o : Oper} {T : TypeId} {x : Operand} (hop : o.op = .load T x) {n b off : Nat} (hsz : tb.sz T = some (false, n))
    (hx : evS s x = some (.val (.pointer (some ⟨b, off, none⟩)))) (ix : Nat) {r : Rw} (hr : s.R[ix]? = some r) (hb : r.v.ownBlock = some b) {v : Value} (hv : r.xs[off]? = some v) :
    Quiet P s o (.val v) := by
  intro a w hf
  refine ⟨trivial, ?_⟩
  have hc := (hf.row ix r hr).cells hb off v hv
  rw [add_mk] at hc
  simp only [Nat.zero_add] at hc
  unfold execOp
  simp only [hop, (hf.ev hx).1, den]
  simp [run_loadAt_one ht hsz hc]

theorem run_indexAt {tb : Tb} (ht : TbOk P tb) {T e size by' : Nat} (hel : tb.el T = some (e, size, by')) (b off n c : Nat) (k : IntKind) (j : Nat) (hj : j < n) (w : World) :
    (Instr.indexAt T (.slice (some ⟨b, off, none⟩) n c) (.int k j)).run P w = .ok (.pointer (some ⟨b, off + j * size, none⟩)) w := by
  obtain ⟨hu, i, z, hi, hs, _⟩ := ht.el T e size by' hel
  simp [Instr.indexAt, asIntOf, run_underlying hu, run_sizeOf hi, hs, add_mk]
  omega

theorem q_index {tb : Tb} (ht : TbOk P tb) {o : Oper} {T : TypeId} {x y : Operand} (hop : o.op = .indexAddr T x y) {e size by' : Nat} (hel : tb.el T = some (e, size, by'))
    {b off n c : Nat} (hx : evS s x = some (.val (.slice (some ⟨b, off, none⟩) n c))) {k : IntKind} {iv : Int} (hy : evS s y = some (.val (.int k iv))) (j : Nat) (hj : iv = (j : Int)) (hlt : j < n) :
    Quiet P s o (.val (.pointer (some ⟨b, off + j * size, none⟩))) := by
  intro a w hf
  refine ⟨trivial, ?_⟩
  subst hj
  unfold execOp
  simp only [hop, (hf.ev hx).1, (hf.ev hy).1, den]
  simp [run_indexAt ht hel b off n c k j hlt w]

/-- A byte of a string. -/
theorem q_strIndex {tb : Tb} (ht : TbOk P tb) {o : Oper} {T : TypeId} {x y : Operand} (hop : o.op = .index T x y) (hT : tb.str T = true)
    {sb : ByteArray} (hx : evS s x = some (.val (.string sb))) {k : IntKind} {iv : Int} (hy : evS s y = some (.val (.int k iv))) (j : Nat) (hj : iv = (j : Int)) {c : UInt8} (hc : sb.data.toList[j]? = some c) :
    Quiet P s o (.val (.int .u8 (c.toNat : Int))) := by
  intro a w hf
  refine ⟨trivial, ?_⟩
  subst hj
  have hc' : sb[j]? = some c := by
    have hlt := (List.getElem?_eq_some_iff.1 hc).1
    have hlt' : j < sb.size := by
      rw [Array.length_toList] at hlt; exact hlt
    rw [getElem?_pos sb j hlt']
    have := (List.getElem?_eq_some_iff.1 hc).2
    exact congrArg some this
  unfold execOp
  simp only [hop, (hf.ev hx).1, (hf.ev hy).1, den]
  simp [Instr.index, asIntOf, run_underlying (ht.str T hT), hc']

/-- A part of a slice. -/
theorem q_slice {tb : Tb} (ht : TbOk P tb) {o : Oper} {T : TypeId} {x : Operand} {lo hi : Option Operand} (hop : o.op = .slice T x lo hi none) {e size by' : Nat} (hel : tb.el T = some (e, size, by'))
    {A : Option Addr} {n c : Nat} (hx : evS s x = some (.val (.slice A n c))) (i j : Nat)
    (hlo : match lo with | none => i = 0 | some y => ∃ k, evS s y = some (.val (.int k (i : Int))))
    (hhi : match hi with | none => j = n | some y => ∃ k, evS s y = some (.val (.int k (j : Int)))) (hij : i ≤ j) (hjc : j ≤ c) :
    Quiet P s o (.val (.slice (if c = i then A else A.map (·.add (i * size))) (j - i) (c - i))) := by
  intro a w hf
  refine ⟨trivial, ?_⟩
  obtain ⟨hu, ti, z, hti, hs, _⟩ := ht.el T e size by' hel
  have hb : (Instr.sliceBounds true n c (lo.map a.eval) (hi.map a.eval) none).run P w = .ok (i, j, c) w := by
    cases lo with
    | none =>
      subst hlo
      cases hi with
      | none => subst hhi; simp [Instr.sliceBounds]
      | some y =>
        obtain ⟨k, hk⟩ := hhi
        simp [Instr.sliceBounds, (hf.ev hk).1, den, Instr.sliceBound, asIntOf, hjc]
    | some y' =>
      obtain ⟨k', hk'⟩ := hlo
      cases hi with
      | none => subst hhi; simp [Instr.sliceBounds, (hf.ev hk').1, den, Instr.sliceBound, asIntOf, hij]
      | some y =>
        obtain ⟨k, hk⟩ := hhi
        simp [Instr.sliceBounds, (hf.ev hk).1, (hf.ev hk').1, den, Instr.sliceBound, asIntOf, hjc, hij]
  unfold execOp
  simp only [hop, (hf.ev hx).1, den, Option.map_none]
  simp [Instr.sliceAt, Instr.slice, run_underlying hu, hb, run_sizeOf hti, hs]

theorem q_strSlice {tb : Tb} (ht : TbOk P tb) {o : Oper} {T : TypeId} {x : Operand} {lo hi : Option Operand} (hop : o.op = .slice T x lo hi none) (hT : tb.str T = true)
    {sb : ByteArray} (hx : evS s x = some (.val (.string sb))) (i j : Nat)
    (hlo : match lo with | none => i = 0 | some y => ∃ k, evS s y = some (.val (.int k (i : Int))))
    (hhi : match hi with | none => j = sb.size | some y => ∃ k, evS s y = some (.val (.int k (j : Int)))) (hij : i ≤ j) (hjc : j ≤ sb.size) :
    Quiet P s o (.val (.string (sb.extract i j))) := by
  intro a w hf
  refine ⟨trivial, ?_⟩
  have hu := ht.str T hT
  have hb : (Instr.sliceBounds false sb.size sb.size (lo.map a.eval) (hi.map a.eval) none).run P w = .ok (i, j, sb.size) w := by
    cases lo with
    | none =>
      subst hlo
      cases hi with
      | none => subst hhi; simp [Instr.sliceBounds]
      | some y =>
        obtain ⟨k, hk⟩ := hhi
        simp [Instr.sliceBounds, (hf.ev hk).1, den, Instr.sliceBound, asIntOf, hjc]
    | some y' =>
      obtain ⟨k', hk'⟩ := hlo
      cases hi with
      | none => subst hhi; simp [Instr.sliceBounds, (hf.ev hk').1, den, Instr.sliceBound, asIntOf, hij]
      | some y =>
        obtain ⟨k, hk⟩ := hhi
        simp [Instr.sliceBounds, (hf.ev hk).1, (hf.ev hk').1, den, Instr.sliceBound, asIntOf, hjc, hij]
  unfold execOp
  simp only [hop, (hf.ev hx).1, den, Option.map_none]
  simp [Instr.sliceAt, Instr.slice, run_underlying hu, hb]

/-! ### Calls -/

def oldL (L : List Bx) : List Bx := L.map fun x => { x with new := false }
def oldR (R : List Rw) : List Rw := R.map fun x => { x with new := false }

/-- The state behind a call, or wherever the world is taken anew. -/
def Sym.rebase (s : Sym) (w : World) : Sym := { s with w := w, D := No, L := oldL s.L, R := oldR s.R }

theorem bxb_old : ∀ (L : List Bx) (i : Nat), bxb (oldL L) i = bxb L i
  | [], _ => rfl
  | x :: L, 0 => rfl
  | x :: L, i + 1 => bxb_old L i

theorem den_old (L : List Bx) (sv : SV) : den (oldL L) sv = den L sv := by
  cases sv with
  | val v => rfl
  | sb b => rfl
  | loc i off => simp only [den, bxb_old]

theorem Fits.rebase {a : Act} {w : World} (hf : Fits s a w) : Fits (s.rebase w) a w := by
  refine ⟨hf.size, hf.defers, ?_, ?_, Kp.refl _ _, ?_, ?_, ?_, ⟨Nat.le_trans hf.lb.1 hf.kp.size, ?_⟩, ?_, ?_⟩
  · intro t sv ht
    rw [hf.env t sv ht]
    exact (den_old _ _).symm
  · intro t i off ht
    have := hf.wf t i off ht
    simpa [Sym.rebase, oldL] using this
  · intro i bx hi
    simp only [Sym.rebase, oldL, List.getElem?_map] at hi
    obtain ⟨b0, h0, rfl⟩ := Option.map_eq_some_iff.1 hi
    exact hf.loc i b0 h0
  · intro i r hi
    simp only [Sym.rebase, oldR, List.getElem?_map] at hi
    obtain ⟨b0, h0, rfl⟩ := Option.map_eq_some_iff.1 hi
    exact hf.row i b0 h0
  · have := hf.dist
    simpa [Sym.blocks, Sym.rebase, oldL, oldR, List.filterMap_map, Function.comp_def, List.map_map] using this
  · intro i bx hi
    simp only [Sym.rebase, oldL, List.getElem?_map] at hi
    obtain ⟨b0, h0, rfl⟩ := Option.map_eq_some_iff.1 hi
    exact hf.lb.2 i b0 h0
  · intro i bx hi hn
    simp only [Sym.rebase, oldL, List.getElem?_map] at hi
    obtain ⟨b0, h0, rfl⟩ := Option.map_eq_some_iff.1 hi
    cases hn
  · intro i bx hi hn
    simp only [Sym.rebase, oldR, List.getElem?_map] at hi
    obtain ⟨b0, h0, rfl⟩ := Option.map_eq_some_iff.1 hi
    cases hn

/-- What is known of the actual world. -/
structure At (s : Sym) (w : World) : Prop where
  kp : Kp s.D s.w w
  loc : ∀ bx ∈ s.L, w.heap[bx.b]? = some (.cells bx.cells.toArray bx.T (0, 0))
  row : ∀ r ∈ s.R, w.ownsRow s.base r.e r.size r.v r.n r.xs
  lt : ∀ b ∈ s.blocks, b < w.heap.size
  base : s.base ≤ w.heap.size
  lb : ∀ bx ∈ s.L, s.base ≤ bx.b
  dist : s.blocks.Nodup

theorem Fits.at {a : Act} {w : World} (hf : Fits s a w) : At s w := by
  refine ⟨hf.kp, ?_, ?_, hf.block_lt, Nat.le_trans hf.lb.1 hf.kp.size, ?_, hf.dist⟩
  · intro r hm
    obtain ⟨i, hi, rfl⟩ := List.getElem_of_mem hm
    exact hf.loc i _ (by rw [List.getElem?_eq_getElem hi])
  · intro r hm
    obtain ⟨i, hi, rfl⟩ := List.getElem_of_mem hm
    exact hf.row i _ (by rw [List.getElem?_eq_getElem hi])
  · intro r hm
    obtain ⟨i, hi, rfl⟩ := List.getElem_of_mem hm
    exact hf.lb.2 i _ (by rw [List.getElem?_eq_getElem hi])

theorem run_callFunc {tb : Tb} (ht : TbOk P tb) {f : FuncId} (hf : tb.fn f = true) (args : Array Value) (w : World) : (callFunc f args).run P w = .ok (.enter f args) w := by
  obtain ⟨fn, h1, h2, h3⟩ := ht.fn f hf
  have h3' : ¬ fn.body = none := by intro h; rw [h] at h3; cases h3
  have h2' : ¬ fn.name = "runtime.NumGoroutine" := by simpa using h2
  simp [callFunc, h1]
  rw [if_neg h2', if_neg h3']

/-- A call of a function, named or a function value. -/
theorem sst_call {tb : Tb} (ht : TbOk P tb) {l : List Oper} {i : Nat} {o : Oper} {rest : List (Nat × Oper)} {fx : Operand} {ags : Array Operand} {ats : Array TypeId}
    (hop : o.op = .call { callee := .value fx, args := ags, argTypes := ats }) (hg : guardV l s o.guard = some true) (hd : dok s o.dst = true)
    {f : FuncId} {first captured : List Value} (hfx : evS s fx = some (.val (.func (.func f) first.toArray captured.toArray))) (hfn : tb.fn f = true)
    {vs args : List Value} (hvs : evArgs s ags.toList = some vs) (hargs' : first ++ vs ++ captured = args) (R : Value → World → World → Prop)
    (hc : ∀ w1, At s w1 → Calls P f args.toArray w1 (fun e w2 => ∃ v, e = .returned v ∧ Kp No w1 w2 ∧ R v w1 w2))
    (h : ∀ v w1 w2, At s w1 → Kp No w1 w2 → R v w1 w2 → SSeq P l.toArray nk Q rest ((s.rebase w2).put o.dst (toSV v))) : SSt P l nk Q ((i, o) :: rest) s := by
  intro a w hf
  simp only [wpSeqK]
  rw [if_pos (guardV_eq hf hg)]
  refine .inr ⟨by rw [hop]; rfl, ?_⟩
  subst hargs'
  have hargs : ags.map a.eval = vs.toArray := by
    rw [← evArgs_eq hf hvs]; apply Array.ext'; simp
  have hrun : (execOp a.eval o).run P w = .ok (.enter f (first ++ vs ++ captured).toArray) w := by
    unfold execOp
    simp only [hop]
    simp [resolve, hargs, (hf.ev hfx).1, den, Deferred.ofValue, invoke, run_callFunc ht hfn]
  unfold Oper.wp
  rw [hrun]
  simp only [Oper.upon]
  refine (hc w hf.at).mono ?_
  rintro e w2 ⟨v, rfl, hk, hR⟩
  refine ⟨fun _ => hk, h v w w2 hf.at hk hR _ _ ?_⟩
  have := ((hf.later hk).rebase).put (d := o.dst) (sv := toSV v) (by cases hd' : o.dst with | none => rfl | some d => rw [hd'] at hd; exact hd) (svOk_toSV _ _)
  rw [den_toSV] at this
  exact this

/-! ### Stores into local variables -/

def setBx : List Bx → Nat → List Value → List Bx
  | [], _, _ => []
  | x :: r, 0, cs => { x with cells := cs } :: r
  | x :: r, i + 1, cs => x :: setBx r i cs

theorem setBx_get : ∀ (L : List Bx) (i j : Nat) (cs : List Value), (setBx L i cs)[j]? = (L[j]?).map fun x => if i = j then { x with cells := cs } else x
  | [], i, j, cs => by simp [setBx]
  | x :: r, 0, 0, cs => by simp [setBx]
  | x :: r, 0, j + 1, cs => by simp [setBx]
  | x :: r, i + 1, 0, cs => by simp [setBx]
  | x :: r, i + 1, j + 1, cs => by simp [setBx, setBx_get r i j cs]

theorem setBx_bxb : ∀ (L : List Bx) (i j : Nat) (cs : List Value), bxb (setBx L i cs) j = bxb L j
  | [], i, j, cs => by simp [setBx]
  | x :: r, 0, 0, cs => rfl
  | x :: r, 0, j + 1, cs => rfl
  | x :: r, i + 1, 0, cs => rfl
  | x :: r, i + 1, j + 1, cs => setBx_bxb r i j cs

theorem setBx_map : ∀ (L : List Bx) (i : Nat) (cs : List Value), (setBx L i cs).map (·.b) = L.map (·.b)
  | [], i, cs => rfl
  | x :: r, 0, cs => rfl
  | x :: r, i + 1, cs => by simp [setBx, setBx_map r i cs]

theorem setBx_length : ∀ (L : List Bx) (i : Nat) (cs : List Value), (setBx L i cs).length = L.length
  | [], i, cs => rfl
  | x :: r, 0, cs => rfl
  | x :: r, i + 1, cs => by simp [setBx, setBx_length r i cs]

def dirty (D : Nat → Prop) (b : Nat) : Nat → Prop := fun k => k = b ∨ D k

def Sym.stored (s : Sym) (i : Nat) (bx : Bx) (cs : List Value) : Sym := { s with L := setBx s.L i cs, D := if bx.new then s.D else dirty s.D bx.b }
end
end Go.Fw
