/- Helping lemmas for the cards of this seat's laws, of the texts: W1, W2, W3, W4. They state no law of their own. -/
import Derived.Test.YtmpngkngkoigmaaGreatDoorKitC
set_option linter.unusedVariables false
set_option linter.unusedSimpArgs false
set_option maxRecDepth 10000
set_option maxHeartbeats 2000000
namespace Go.Fw
open Go
attribute [local irreducible] SWp SQ SSeq SSt Quiet Next Meet
theorem c143 (x : Int) (w : World) : Calls Go.Proofs.Tryz.prog 143 #[.int .i64 x] w fun e w2 => ∃ v, e = .returned v ∧ Kp No w w2 ∧ v = .bool false := by
  refine calls_intro (args := [_]) w.heap.size Go.Proofs.Tryz.func143 rfl Go.Proofs.Tryz.ntmps143 (by simp) (Nat.le_refl _) ?_
  (repeat' (first | refine G0 ?_ | refine sst_box rfl rfl rfl rfl rfl (fun b hb hlt => ?_) | refine sst_alloc tb_ok rfl rfl rfl EV (fun b hb hlt => ?_)))
  refine sq_ret tb_ok rfl EV (fun w' hk hr => ?_)
  exact ⟨_, rfl, hk, by simp [oneOr]⟩

theorem c99 (x y : Int) (w : World) : Calls Go.Proofs.Tryz.prog 99 #[.int .i64 x, .int .i64 y] w fun e w2 => ∃ v, e = .returned v ∧ Kp No w w2 ∧ v = .int .i64 (cmpI x y) := by
  refine calls_intro (args := [_, _]) w.heap.size Go.Proofs.Tryz.func99 rfl Go.Proofs.Tryz.ntmps99 (by simp) (Nat.le_refl _) ?_
  (repeat' (first | refine G0 ?_ | refine sst_box rfl rfl rfl rfl rfl (fun b hb hlt => ?_) | refine sst_alloc tb_ok rfl rfl rfl EV (fun b hb hlt => ?_)))
  refine sst_call tb_ok rfl rfl rfl rfl rfl EV AP (fun v _ _ => v = .bool false) ?_ ?_
  · exact fun w1 h1 => c143 _ _
  rintro v w1 w2 h1 hk1 rfl
  (repeat' (first | refine G0 ?_ | refine sst_box rfl rfl rfl rfl rfl (fun b hb hlt => ?_) | refine sst_alloc tb_ok rfl rfl rfl EV (fun b hb hlt => ?_)))
  refine sst_call tb_ok rfl rfl rfl rfl rfl EV AP (fun v _ _ => v = .bool false) ?_ ?_
  · exact fun w1 h1 => c143 _ _
  rintro v w3 w4 h3 hk3 rfl
  have hk4 : Kp No w w4 := ((h1.kp.then hk1).then h3.kp).then hk3
  (repeat' (first | refine G0 ?_ | refine sst_box rfl rfl rfl rfl rfl (fun b hb hlt => ?_) | refine sst_alloc tb_ok rfl rfl rfl EV (fun b hb hlt => ?_)))
  refine swp_condS rfl (fun h => ?_) (fun h => ?_)
  · cases h
  (repeat' (first | refine G0 ?_ | refine sst_box rfl rfl rfl rfl rfl (fun b hb hlt => ?_) | refine sst_alloc tb_ok rfl rfl rfl EV (fun b hb hlt => ?_)))
  refine swp_condS rfl (fun h => ?_) (fun h => ?_)
  · cases h
  (repeat' (first | refine G0 ?_ | refine sst_box rfl rfl rfl rfl rfl (fun b hb hlt => ?_) | refine sst_alloc tb_ok rfl rfl rfl EV (fun b hb hlt => ?_)))
  refine swp_condS rfl (fun h => ?_) (fun h => ?_)
  · (repeat' (first | refine G0 ?_ | refine sst_box rfl rfl rfl rfl rfl (fun b hb hlt => ?_) | refine sst_alloc tb_ok rfl rfl rfl EV (fun b hb hlt => ?_)))
    refine sq_ret tb_ok rfl EV (fun w' hk hr => ?_)
    exact ⟨_, rfl, hk4.then hk, by simp at h; simp [oneOr, cmpI, h]⟩
  (repeat' (first | refine G0 ?_ | refine sst_box rfl rfl rfl rfl rfl (fun b hb hlt => ?_) | refine sst_alloc tb_ok rfl rfl rfl EV (fun b hb hlt => ?_)))
  refine swp_condS rfl (fun h5 => ?_) (fun h5 => ?_)
  · (repeat' (first | refine G0 ?_ | refine sst_box rfl rfl rfl rfl rfl (fun b hb hlt => ?_) | refine sst_alloc tb_ok rfl rfl rfl EV (fun b hb hlt => ?_)))
    refine sq_ret tb_ok rfl EV (fun w' hk hr => ?_)
    exact ⟨_, rfl, hk4.then hk, by simp at h h5; simp [oneOr, cmpI, h5]; omega⟩
  (repeat' (first | refine G0 ?_ | refine sst_box rfl rfl rfl rfl rfl (fun b hb hlt => ?_) | refine sst_alloc tb_ok rfl rfl rfl EV (fun b hb hlt => ?_)))
  refine sq_ret tb_ok rfl EV (fun w' hk hr => ?_)
  exact ⟨_, rfl, hk4.then hk, by simp at h h5; simp [oneOr, cmpI]; omega⟩

theorem q230 {s : Sym} {o : Oper} {x y : Operand} {ats : Array TypeId} (hop : o.op = .call { callee := .value (.func 230), args := #[x, y], argTypes := ats }) {a b : ByteArray} (hx : evS s x = some (.val (.string a))) (hy : evS s y = some (.val (.string b))) :
    Quiet Go.Proofs.Tryz.prog s o (.val (.int .i64 (cmpB a.data.toList b.data.toList))) := by
  unfold Quiet
  intro ac w hf
  refine ⟨trivial, ?_⟩
  have h := run_callFunc_extern (P := Go.Proofs.Tryz.prog) (f := 230) (e := Extern.BytealgCompare.compare) Go.Proofs.Tryz.func230 (by kernel_rfl) (by kernel_rfl) (by kernel_rfl) (by kernel_rfl) #[.string a, .string b] w
  have h2 := Lib.run_compareString (P := Go.Proofs.Tryz.prog) a b w
  have hfe : ac.eval (.func 230) = .func (.func 230) #[] #[] := rfl
  unfold execOp
  simp only [hop]
  simp [resolve, (hf.ev hx).1, (hf.ev hy).1, den, hfe, Deferred.ofValue, invoke, h, h2]

theorem c206 (a b : ByteArray) (w : World) : Calls Go.Proofs.Tryz.prog 206 #[.string a, .string b] w fun e w2 => ∃ v, e = .returned v ∧ Kp No w w2 ∧ v = .int .i64 (cmpB a.data.toList b.data.toList) := by
  refine calls_intro (args := [_, _]) w.heap.size Go.Proofs.Tryz.func206 rfl Go.Proofs.Tryz.ntmps206 (by simp) (Nat.le_refl _) ?_
  (repeat' (first | refine G0 ?_ | refine sst_box rfl rfl rfl rfl rfl (fun b hb hlt => ?_) | refine sst_alloc tb_ok rfl rfl rfl EV (fun b hb hlt => ?_)))
  refine sst_quiet rfl rfl (q230 rfl rfl rfl) ?_
  (repeat' (first | refine G0 ?_ | refine sst_box rfl rfl rfl rfl rfl (fun b hb hlt => ?_) | refine sst_alloc tb_ok rfl rfl rfl EV (fun b hb hlt => ?_)))
  refine sq_ret tb_ok rfl EV (fun w' hk hr => ?_)
  exact ⟨_, rfl, hk, by simp [oneOr]⟩

theorem c156 (a b : ByteArray) (w : World) : Calls Go.Proofs.Tryz.prog 156 #[.string a, .string b] w fun e w2 => ∃ v, e = .returned v ∧ Kp No w w2 ∧ v = .int .i64 (cmpB a.data.toList b.data.toList) := by
  refine calls_intro (args := [_, _]) w.heap.size Go.Proofs.Tryz.func156 rfl Go.Proofs.Tryz.ntmps156 (by simp) (Nat.le_refl _) ?_
  (repeat' (first | refine G0 ?_ | refine sst_box rfl rfl rfl rfl rfl (fun b hb hlt => ?_) | refine sst_alloc tb_ok rfl rfl rfl EV (fun b hb hlt => ?_)))
  refine sst_call tb_ok rfl rfl rfl rfl rfl EV AP (fun v _ _ => v = .int .i64 (cmpB a.data.toList b.data.toList)) ?_ ?_
  · exact fun w1 h1 => c206 _ _ _
  rintro v w1 w2 h1 hk1 rfl
  (repeat' (first | refine G0 ?_ | refine sst_box rfl rfl rfl rfl rfl (fun b hb hlt => ?_) | refine sst_alloc tb_ok rfl rfl rfl EV (fun b hb hlt => ?_)))
  refine sq_ret tb_ok rfl EV (fun w' hk hr => ?_)
  exact ⟨_, rfl, (h1.kp.then hk1).then hk, by simp [oneOr]⟩
end Go.Fw

set_option linter.unusedVariables false
set_option linter.unusedSimpArgs false
set_option maxRecDepth 10000
set_option maxHeartbeats 2000000
namespace Go.Fw
open Go
attribute [local irreducible] SWp SQ SSeq SSt Quiet Next Meet

/-- What value.Compare does at two values. -/
def Cmp114 (x y : Val) : Prop := ∀ (S S' : Nat → Prop) (w : World) (cs cs' : List Value), RepV S w x cs → RepV S' w y cs' →
  Calls Go.Proofs.Tryz.prog 114 #[.agg cs.toArray, .agg cs'.toArray] w fun e w2 => ∃ v, e = .returned v ∧ Kp No w w2 ∧ v = .int .i64 (cmpV x y)

theorem cmpL_drop (l l' : List Val) (i : Nat) (x y : Val) (hx : l[i]? = some x) (hy : l'[i]? = some y) : cmpL (l.drop i) (l'.drop i) = if cmpV x y ≠ 0 then cmpV x y else cmpL (l.drop (i + 1)) (l'.drop (i + 1)) := by
  have h1 := (List.getElem?_eq_some_iff.1 hx)
  have h2 := (List.getElem?_eq_some_iff.1 hy)
  obtain ⟨h1, e1⟩ := h1
  obtain ⟨h2, e2⟩ := h2
  rw [List.drop_eq_getElem_cons h1, List.drop_eq_getElem_cons h2, e1, e2]
  rfl

theorem wr_small {x : Int} (h : -9223372036854775808 ≤ x ∧ x ≤ 9223372036854775807) : wr .i64 x = x := IntWalk.i64_in _ h

theorem cmpL_end (l l' : List Val) (i : Nat) (h : i = l.length ∨ i = l'.length) (h1 : i ≤ l.length) (h2 : i ≤ l'.length) : cmpL (l.drop i) (l'.drop i) = cmpI l.length l'.length := by
  rcases h with h | h
  · subst h
    simp
    cases hd : l'.drop l.length with
    | nil =>
      have := congrArg List.length hd
      simp at this
      have : l.length = l'.length := by omega
      simp [cmpL, cmpI, this]
    | cons y ys =>
      have := congrArg List.length hd
      simp at this
      simp only [cmpL, cmpI]
      rw [if_pos (by omega)]
  · subst h
    simp
    cases hd : l.drop l'.length with
    | nil =>
      have := congrArg List.length hd
      simp at this
      have : l.length = l'.length := by omega
      simp [cmpL, cmpI, this]
    | cons y ys =>
      have := congrArg List.length hd
      simp at this
      simp only [cmpL, cmpI]
      rw [if_neg (by omega), if_pos (by omega)]

theorem lists_of (l l' : List Val) (H : ∀ x ∈ l, ∀ y, Cmp114 x y) (S S' : Nat → Prop) (w : World) (A A' : Option Addr) (n n' c c' : Nat) (hl : RepS S w A n c l) (hl' : RepS S' w A' n' c' l') :
    Calls Go.Proofs.Tryz.prog 157 #[.slice A n c, .slice A' n' c'] w fun e w2 => ∃ v, e = .returned v ∧ Kp No w w2 ∧ v = .int .i64 (cmpL l l') := by
  have hn := hl.1
  have hn' := hl'.1
  have hb := hl.2.1
  have hb' := hl'.2.1
  rw [LIM_eq] at hb hb'
  obtain ⟨m, hm, hmn, hmn'⟩ : ∃ m : Nat, (if (n' : Int) < (n : Int) then (n' : Int) else (n : Int)) = (m : Int) ∧ m ≤ n ∧ m ≤ n' := by
    by_cases h : n' < n
    · exact ⟨n', by rw [if_pos (by omega)], by omega, Nat.le_refl _⟩
    · exact ⟨n, by rw [if_neg (by omega)], Nat.le_refl _, by omega⟩
  have hmm : m = n ∨ m = n' := by
    split at hm <;> omega
  refine calls_intro (args := [_, _]) w.heap.size Go.Proofs.Tryz.func157 rfl Go.Proofs.Tryz.ntmps157 (by simp) (Nat.le_refl _) ?_
  (repeat' (first | refine G0 ?_ | refine sst_box rfl rfl rfl rfl rfl (fun b hb hlt => ?_) | refine sst_alloc tb_ok rfl rfl rfl EV (fun b hb hlt => ?_)))
  rw [hm]
  refine swp_loop (X := World × Nat) (fun x => Kp No w x.1 ∧ x.2 ≤ m ∧ cmpL l l' = cmpL (l.drop x.2) (l'.drop x.2))
    (fun x => ⟨33, [(12, .val (.int .i64 (x.2 : Int))), (11, .val (.int .i64 (m : Int))), (0, .val (.slice A n c)), (1, .val (.slice A' n' c'))], [], [], w.heap.size, x.1, No⟩) (fun x => m - x.2) ?_ ?_
  · intro w1 h1
    refine ⟨(w1, 0), ⟨h1.kp, Nat.zero_le _, by simp⟩, ?_⟩
    (refine WKmk ?_; try trivial)
  · rintro ⟨w1, i⟩ ⟨hk1, him, hc⟩
    simp only at hk1 him hc
    (repeat' (first | refine G0 ?_ | refine sst_box rfl rfl rfl rfl rfl (fun b hb hlt => ?_) | refine sst_alloc tb_ok rfl rfl rfl EV (fun b hb hlt => ?_)))
    refine swp_condS rfl (fun h => ?_) (fun h => ?_)
    · have him : i < m := by simp at h; omega
      have hx : l[i]? = some (l[i]'(by omega)) := List.getElem?_eq_getElem (by omega)
      have hy : l'[i]? = some (l'[i]'(by omega)) := List.getElem?_eq_getElem (by omega)
      generalize l[i]'(by omega) = x at hx
      generalize l'[i]'(by omega) = y at hy
      obtain ⟨b, off, cs, rfl, hSb, hin, hcl, hrow, hrx⟩ := hl.get hx
      obtain ⟨b', off', cs', rfl, hSb', hin', hcl', hrow', hry⟩ := hl'.get hy
      (repeat' (first | refine G0 ?_ | refine sst_box rfl rfl rfl rfl rfl (fun b hb hlt => ?_) | refine sst_alloc tb_ok rfl rfl rfl EV (fun b hb hlt => ?_)))
      refine swp_draw mixed [0, 1, 2, 3, 4, 5, 6, 7, 8, 9] [] (by kernel_rfl) (by kernel_rfl) rfl ?_
      (repeat' (first | refine G0 ?_ | refine sst_box rfl rfl rfl rfl rfl (fun b hb hlt => ?_) | refine sst_alloc tb_ok rfl rfl rfl EV (fun b hb hlt => ?_)))
      refine sst_quiet rfl rfl (q_index tb_ok rfl el_23 rfl rfl i rfl hin) ?_
      (repeat' (first | refine G0 ?_ | refine sst_box rfl rfl rfl rfl rfl (fun b hb hlt => ?_) | refine sst_alloc tb_ok rfl rfl rfl EV (fun b hb hlt => ?_)))
      refine sst_quiet rfl rfl (q_far_agg tb_ok rfl sz_26 rfl id hcl (hrow.kp hk1 id)) ?_
      (repeat' (first | refine G0 ?_ | refine sst_box rfl rfl rfl rfl rfl (fun b hb hlt => ?_) | refine sst_alloc tb_ok rfl rfl rfl EV (fun b hb hlt => ?_)))
      refine sst_quiet rfl rfl (q_index tb_ok rfl el_23 rfl rfl i rfl hin') ?_
      (repeat' (first | refine G0 ?_ | refine sst_box rfl rfl rfl rfl rfl (fun b hb hlt => ?_) | refine sst_alloc tb_ok rfl rfl rfl EV (fun b hb hlt => ?_)))
      refine sst_quiet rfl rfl (q_far_agg tb_ok rfl sz_26 rfl id hcl' (hrow'.kp hk1 id)) ?_
      (repeat' (first | refine G0 ?_ | refine sst_box rfl rfl rfl rfl rfl (fun b hb hlt => ?_) | refine sst_alloc tb_ok rfl rfl rfl EV (fun b hb hlt => ?_)))
      refine sst_call tb_ok rfl rfl rfl rfl rfl EV AP (fun v _ _ => v = .int .i64 (cmpV x y)) ?_ ?_
      · intro w2 h2
        have hk2 := hk1.then h2.kp
        exact H x (List.mem_of_getElem? hx) y S S' w2 cs cs' (hrx.kp hk2) (hry.kp hk2)
      rintro v w2 w3 h2 hk3 rfl
      have hkk : Kp No w w3 := (hk1.then h2.kp).then hk3
      have hd := cmpL_drop l l' i x y hx hy
      (repeat' (first | refine G0 ?_ | refine sst_box rfl rfl rfl rfl rfl (fun b hb hlt => ?_) | refine sst_alloc tb_ok rfl rfl rfl EV (fun b hb hlt => ?_)))
      refine swp_condS rfl (fun h => ?_) (fun h => ?_)
      · (repeat' (first | refine G0 ?_ | refine sst_box rfl rfl rfl rfl rfl (fun b hb hlt => ?_) | refine sst_alloc tb_ok rfl rfl rfl EV (fun b hb hlt => ?_)))
        refine sq_ret tb_ok rfl EV (fun w' hk hr => ?_)
        refine ⟨_, rfl, hkk.then hk, ?_⟩
        simp at h
        simp only [oneOr]
        rw [hc, hd, if_pos h]
      · (repeat' (first | refine G0 ?_ | refine sst_box rfl rfl rfl rfl rfl (fun b hb hlt => ?_) | refine sst_alloc tb_ok rfl rfl rfl EV (fun b hb hlt => ?_)))
        refine sq_next fun w4 h4 => ?_
        refine ⟨(w4, i + 1), ⟨hkk.then h4.kp, by simp; omega, ?_⟩, by simp; omega, ?_⟩
        · simp at h
          simp only
          rw [hc, hd, if_neg (by simpa using h)]
        · (refine WKmk ?_; try trivial)
          rw [wr_small (by omega)]
          simp
    · have him : i = m := by simp at h; omega
      (repeat' (first | refine G0 ?_ | refine sst_box rfl rfl rfl rfl rfl (fun b hb hlt => ?_) | refine sst_alloc tb_ok rfl rfl rfl EV (fun b hb hlt => ?_)))
      refine sst_call tb_ok rfl rfl rfl rfl rfl EV AP (fun v _ _ => v = .int .i64 (cmpI n n')) ?_ ?_
      · exact fun w1 h1 => c99 _ _ _
      rintro v w2 w3 h2 hk3 rfl
      (repeat' (first | refine G0 ?_ | refine sst_box rfl rfl rfl rfl rfl (fun b hb hlt => ?_) | refine sst_alloc tb_ok rfl rfl rfl EV (fun b hb hlt => ?_)))
      refine sq_ret tb_ok rfl EV (fun w' hk hr => ?_)
      refine ⟨_, rfl, ((hk1.then h2.kp).then hk3).then hk, ?_⟩
      simp only [oneOr]
      rw [hc, cmpL_end l l' i (by omega) (by omega) (by omega), hn, hn']

theorem cmpD_drop (l l' : List (ByteArray × Val)) (i : Nat) (x y : ByteArray × Val) (hx : l[i]? = some x) (hy : l'[i]? = some y) : cmpD (l.drop i) (l'.drop i) =
    if cmpB x.1.data.toList y.1.data.toList ≠ 0 then cmpB x.1.data.toList y.1.data.toList else if cmpV x.2 y.2 ≠ 0 then cmpV x.2 y.2 else cmpD (l.drop (i + 1)) (l'.drop (i + 1)) := by
  obtain ⟨h1, e1⟩ := (List.getElem?_eq_some_iff.1 hx)
  obtain ⟨h2, e2⟩ := (List.getElem?_eq_some_iff.1 hy)
  rw [List.drop_eq_getElem_cons h1, List.drop_eq_getElem_cons h2, e1, e2]
  rfl

theorem cmpD_end (l l' : List (ByteArray × Val)) (i : Nat) (h : i = l.length ∨ i = l'.length) (h1 : i ≤ l.length) (h2 : i ≤ l'.length) : cmpD (l.drop i) (l'.drop i) = cmpI l.length l'.length := by
  rcases h with h | h
  · subst h
    simp
    cases hd : l'.drop l.length with
    | nil =>
      have := congrArg List.length hd
      simp at this
      have : l.length = l'.length := by omega
      simp [cmpD, cmpI, this]
    | cons y ys =>
      have := congrArg List.length hd
      simp at this
      simp only [cmpD, cmpI]
      rw [if_pos (by omega)]
  · subst h
    simp
    cases hd : l.drop l'.length with
    | nil =>
      have := congrArg List.length hd
      simp at this
      have : l.length = l'.length := by omega
      simp [cmpD, cmpI, this]
    | cons y ys =>
      have := congrArg List.length hd
      simp at this
      simp only [cmpD, cmpI]
      rw [if_neg (by omega), if_pos (by omega)]

theorem RowAt.head {w : World} {b off : Nat} {v : Value} {cs : List Value} (h : RowAt w b off (v :: cs)) : w.cell? ⟨b, off, none⟩ = some v := by
  have := h 0 v rfl
  simpa using this
theorem RowAt.tail {w : World} {b off : Nat} {v : Value} {cs : List Value} (h : RowAt w b off (v :: cs)) : RowAt w b (off + 1) cs := fun j u hj => by
  have := h (j + 1) u (by simpa using hj)
  rw [show off + 1 + j = off + (j + 1) from by omega]
  exact this

theorem docs_of (l l' : List (ByteArray × Val)) (H : ∀ x ∈ l, ∀ y, Cmp114 x.2 y) (S S' : Nat → Prop) (w : World) (A A' : Option Addr) (n n' c c' : Nat) (hl : RepD S w A n c l) (hl' : RepD S' w A' n' c' l') :
    Calls Go.Proofs.Tryz.prog 158 #[.slice A n c, .slice A' n' c'] w fun e w2 => ∃ v, e = .returned v ∧ Kp No w w2 ∧ v = .int .i64 (cmpD l l') := by
  have hn := hl.1
  have hn' := hl'.1
  have hb := hl.2.1
  have hb' := hl'.2.1
  rw [LIM_eq] at hb hb'
  obtain ⟨m, hm, hmn, hmn'⟩ : ∃ m : Nat, (if (n' : Int) < (n : Int) then (n' : Int) else (n : Int)) = (m : Int) ∧ m ≤ n ∧ m ≤ n' := by
    by_cases h : n' < n
    · exact ⟨n', by rw [if_pos (by omega)], by omega, Nat.le_refl _⟩
    · exact ⟨n, by rw [if_neg (by omega)], Nat.le_refl _, by omega⟩
  have hmm : m = n ∨ m = n' := by
    split at hm <;> omega
  refine calls_intro (args := [_, _]) w.heap.size Go.Proofs.Tryz.func158 rfl Go.Proofs.Tryz.ntmps158 (by simp) (Nat.le_refl _) ?_
  (repeat' (first | refine G0 ?_ | refine sst_box rfl rfl rfl rfl rfl (fun b hb hlt => ?_) | refine sst_alloc tb_ok rfl rfl rfl EV (fun b hb hlt => ?_)))
  rw [hm]
  refine swp_loop (X := World × Nat) (fun x => Kp No w x.1 ∧ x.2 ≤ m ∧ cmpD l l' = cmpD (l.drop x.2) (l'.drop x.2))
    (fun x => ⟨50, [(13, .val (.int .i64 (x.2 : Int))), (12, .val (.int .i64 (m : Int))), (0, .val (.slice A n c)), (1, .val (.slice A' n' c'))], [], [], w.heap.size, x.1, No⟩) (fun x => m - x.2) ?_ ?_
  · intro w1 h1
    refine ⟨(w1, 0), ⟨h1.kp, Nat.zero_le _, by simp⟩, ?_⟩
    (refine WKmk ?_; try trivial)
  · rintro ⟨w1, i⟩ ⟨hk1, him, hc⟩
    simp only at hk1 him hc
    (repeat' (first | refine G0 ?_ | refine sst_box rfl rfl rfl rfl rfl (fun b hb hlt => ?_) | refine sst_alloc tb_ok rfl rfl rfl EV (fun b hb hlt => ?_)))
    refine swp_condS rfl (fun h => ?_) (fun h => ?_)
    · have him : i < m := by simp at h; omega
      have hx : l[i]? = some (l[i]'(by omega)) := List.getElem?_eq_getElem (by omega)
      have hy : l'[i]? = some (l'[i]'(by omega)) := List.getElem?_eq_getElem (by omega)
      generalize l[i]'(by omega) = x at hx
      generalize l'[i]'(by omega) = y at hy
      obtain ⟨b, off, cs, rfl, hSb, hin, hcl, hrow, hrx, hxs⟩ := hl.get hx
      obtain ⟨b', off', cs', rfl, hSb', hin', hcl', hrow', hry, hys⟩ := hl'.get hy
      (repeat' (first | refine G0 ?_ | refine sst_box rfl rfl rfl rfl rfl (fun b hb hlt => ?_) | refine sst_alloc tb_ok rfl rfl rfl EV (fun b hb hlt => ?_)))
      refine swp_draw mixed [0, 1, 2, 3, 4, 5, 6, 7, 8, 9, 10, 11] [] (by kernel_rfl) (by kernel_rfl) rfl ?_
      (repeat' (first | refine G0 ?_ | refine sst_box rfl rfl rfl rfl rfl (fun b hb hlt => ?_) | refine sst_alloc tb_ok rfl rfl rfl EV (fun b hb hlt => ?_)))
      refine sst_quiet rfl rfl (q_index tb_ok rfl el_24 rfl rfl i rfl hin) ?_
      (repeat' (first | refine G0 ?_ | refine sst_box rfl rfl rfl rfl rfl (fun b hb hlt => ?_) | refine sst_alloc tb_ok rfl rfl rfl EV (fun b hb hlt => ?_)))
      refine sst_quiet rfl rfl (q_far_one tb_ok rfl sz_9 rfl id (hk1.cell hrow.head id)) ?_
      (repeat' (first | refine G0 ?_ | refine sst_box rfl rfl rfl rfl rfl (fun b hb hlt => ?_) | refine sst_alloc tb_ok rfl rfl rfl EV (fun b hb hlt => ?_)))
      refine sst_quiet rfl rfl (q_index tb_ok rfl el_24 rfl rfl i rfl hin') ?_
      (repeat' (first | refine G0 ?_ | refine sst_box rfl rfl rfl rfl rfl (fun b hb hlt => ?_) | refine sst_alloc tb_ok rfl rfl rfl EV (fun b hb hlt => ?_)))
      refine sst_quiet rfl rfl (q_far_one tb_ok rfl sz_9 rfl id (hk1.cell hrow'.head id)) ?_
      (repeat' (first | refine G0 ?_ | refine sst_box rfl rfl rfl rfl rfl (fun b hb hlt => ?_) | refine sst_alloc tb_ok rfl rfl rfl EV (fun b hb hlt => ?_)))
      refine sst_call tb_ok rfl rfl rfl rfl rfl EV AP (fun v _ _ => v = .int .i64 (cmpB x.1.data.toList y.1.data.toList)) ?_ ?_
      · exact fun w2 h2 => c156 _ _ _
      rintro v w2 w3 h2 hk3 rfl
      have hkk : Kp No w w3 := (hk1.then h2.kp).then hk3
      have hd := cmpD_drop l l' i x y hx hy
      (repeat' (first | refine G0 ?_ | refine sst_box rfl rfl rfl rfl rfl (fun b hb hlt => ?_) | refine sst_alloc tb_ok rfl rfl rfl EV (fun b hb hlt => ?_)))
      refine swp_condS rfl (fun h5 => ?_) (fun h5 => ?_)
      · (repeat' (first | refine G0 ?_ | refine sst_box rfl rfl rfl rfl rfl (fun b hb hlt => ?_) | refine sst_alloc tb_ok rfl rfl rfl EV (fun b hb hlt => ?_)))
        refine sq_ret tb_ok rfl EV (fun w' hk hr => ?_)
        refine ⟨_, rfl, hkk.then hk, ?_⟩
        simp at h5
        simp only [oneOr]
        rw [hc, hd, if_pos h5]
      (repeat' (first | refine G0 ?_ | refine sst_box rfl rfl rfl rfl rfl (fun b hb hlt => ?_) | refine sst_alloc tb_ok rfl rfl rfl EV (fun b hb hlt => ?_)))
      refine swp_draw mixed [0, 1, 2, 3, 4, 5, 6, 7, 8, 9, 10, 11] [] (by kernel_rfl) (by kernel_rfl) rfl ?_
      (repeat' (first | refine G0 ?_ | refine sst_box rfl rfl rfl rfl rfl (fun b hb hlt => ?_) | refine sst_alloc tb_ok rfl rfl rfl EV (fun b hb hlt => ?_)))
      refine sst_quiet rfl rfl (q_index tb_ok rfl el_24 rfl rfl i rfl hin) ?_
      (repeat' (first | refine G0 ?_ | refine sst_box rfl rfl rfl rfl rfl (fun b hb hlt => ?_) | refine sst_alloc tb_ok rfl rfl rfl EV (fun b hb hlt => ?_)))
      refine sst_quiet rfl rfl (q_far_agg tb_ok rfl sz_26 rfl id hcl (hrow.tail.kp hkk id)) ?_
      (repeat' (first | refine G0 ?_ | refine sst_box rfl rfl rfl rfl rfl (fun b hb hlt => ?_) | refine sst_alloc tb_ok rfl rfl rfl EV (fun b hb hlt => ?_)))
      refine sst_quiet rfl rfl (q_index tb_ok rfl el_24 rfl rfl i rfl hin') ?_
      (repeat' (first | refine G0 ?_ | refine sst_box rfl rfl rfl rfl rfl (fun b hb hlt => ?_) | refine sst_alloc tb_ok rfl rfl rfl EV (fun b hb hlt => ?_)))
      refine sst_quiet rfl rfl (q_far_agg tb_ok rfl sz_26 rfl id hcl' (hrow'.tail.kp hkk id)) ?_
      (repeat' (first | refine G0 ?_ | refine sst_box rfl rfl rfl rfl rfl (fun b hb hlt => ?_) | refine sst_alloc tb_ok rfl rfl rfl EV (fun b hb hlt => ?_)))
      refine sst_call tb_ok rfl rfl rfl rfl rfl EV AP (fun v _ _ => v = .int .i64 (cmpV x.2 y.2)) ?_ ?_
      · intro w4 h4
        have hk2 := hkk.then h4.kp
        exact H x (List.mem_of_getElem? hx) y.2 S S' w4 cs cs' (hrx.kp hk2) (hry.kp hk2)
      rintro v w4 w5 h4 hk5 rfl
      have hk6 : Kp No w w5 := (hkk.then h4.kp).then hk5
      (repeat' (first | refine G0 ?_ | refine sst_box rfl rfl rfl rfl rfl (fun b hb hlt => ?_) | refine sst_alloc tb_ok rfl rfl rfl EV (fun b hb hlt => ?_)))
      refine swp_condS rfl (fun h6 => ?_) (fun h6 => ?_)
      · (repeat' (first | refine G0 ?_ | refine sst_box rfl rfl rfl rfl rfl (fun b hb hlt => ?_) | refine sst_alloc tb_ok rfl rfl rfl EV (fun b hb hlt => ?_)))
        refine sq_ret tb_ok rfl EV (fun w' hk hr => ?_)
        refine ⟨_, rfl, hk6.then hk, ?_⟩
        simp at h5 h6
        simp only [oneOr]
        rw [hc, hd, if_neg (by simpa using h5), if_pos h6]
      · (repeat' (first | refine G0 ?_ | refine sst_box rfl rfl rfl rfl rfl (fun b hb hlt => ?_) | refine sst_alloc tb_ok rfl rfl rfl EV (fun b hb hlt => ?_)))
        refine sq_next fun w7 h7 => ?_
        refine ⟨(w7, i + 1), ⟨hk6.then h7.kp, by simp; omega, ?_⟩, by simp; omega, ?_⟩
        · simp at h5 h6
          simp only
          rw [hc, hd, if_neg (by simpa using h5), if_neg (by simpa using h6)]
        · (refine WKmk ?_; try trivial)
          rw [wr_small (by omega)]
          simp
    · have him : i = m := by simp at h; omega
      (repeat' (first | refine G0 ?_ | refine sst_box rfl rfl rfl rfl rfl (fun b hb hlt => ?_) | refine sst_alloc tb_ok rfl rfl rfl EV (fun b hb hlt => ?_)))
      refine sst_call tb_ok rfl rfl rfl rfl rfl EV AP (fun v _ _ => v = .int .i64 (cmpI n n')) ?_ ?_
      · exact fun w1 h1 => c99 _ _ _
      rintro v w2 w3 h2 hk3 rfl
      (repeat' (first | refine G0 ?_ | refine sst_box rfl rfl rfl rfl rfl (fun b hb hlt => ?_) | refine sst_alloc tb_ok rfl rfl rfl EV (fun b hb hlt => ?_)))
      refine sq_ret tb_ok rfl EV (fun w' hk hr => ?_)
      refine ⟨_, rfl, ((hk1.then h2.kp).then hk3).then hk, ?_⟩
      simp only [oneOr]
      rw [hc, cmpD_end l l' i (by omega) (by omega) (by omega), hn, hn']

theorem sizeOf_l {k n : Int} {t : ByteArray} {l : List Val} {d : List (ByteArray × Val)} {z : Val} (h : z ∈ l) : SizeOf.sizeOf z < SizeOf.sizeOf (Val.mk k n t l d) := by
  have := List.sizeOf_lt_of_mem h
  simp only [Val.mk.sizeOf_spec]; omega
theorem sizeOf_d {k n : Int} {t : ByteArray} {l : List Val} {d : List (ByteArray × Val)} {z : ByteArray × Val} (h : z ∈ d) : SizeOf.sizeOf z.2 < SizeOf.sizeOf (Val.mk k n t l d) := by
  have := List.sizeOf_lt_of_mem h
  have h2 : SizeOf.sizeOf z = 1 + SizeOf.sizeOf z.1 + SizeOf.sizeOf z.2 := by cases z; rfl
  simp only [Val.mk.sizeOf_spec]; omega

theorem cmp_step (x y : Val) (H1 : ∀ z ∈ x.l, ∀ u, Cmp114 z u) (H2 : ∀ z ∈ x.d, ∀ u, Cmp114 z.2 u) : Cmp114 x y := by
  intro S S' w cs cs' hx hy
  obtain ⟨k, n, t, l, d⟩ := x
  obtain ⟨k', n', t', l', d'⟩ := y
  obtain ⟨A, c, B, c1, rfl, hk, hn, ht, hl, hd⟩ := hx.parts
  obtain ⟨A', c', B', c1', rfl, hk', hn', ht', hl', hd'⟩ := hy.parts
  simp only [Val.k, Val.n, Val.t, Val.l, Val.d] at *
  refine calls_intro (args := [_, _]) w.heap.size Go.Proofs.Tryz.func114 rfl Go.Proofs.Tryz.ntmps114 (by simp) (Nat.le_refl _) ?_
  (repeat' (first | refine G0 ?_ | refine sst_box rfl rfl rfl rfl rfl (fun b hb hlt => ?_) | refine sst_alloc tb_ok rfl rfl rfl EV (fun b hb hlt => ?_)))
  refine swp_condS rfl (fun h => ?_) (fun h => ?_)
  · (repeat' (first | refine G0 ?_ | refine sst_box rfl rfl rfl rfl rfl (fun b hb hlt => ?_) | refine sst_alloc tb_ok rfl rfl rfl EV (fun b hb hlt => ?_)))
    refine sst_call tb_ok rfl rfl rfl rfl rfl EV AP (fun v _ _ => v = .int .i64 (cmpI k k')) ?_ ?_
    · exact fun w1 h1 => c99 _ _ _
    rintro v w2 w3 h2 hk3 rfl
    (repeat' (first | refine G0 ?_ | refine sst_box rfl rfl rfl rfl rfl (fun b hb hlt => ?_) | refine sst_alloc tb_ok rfl rfl rfl EV (fun b hb hlt => ?_)))
    refine sq_ret tb_ok rfl EV (fun w' hk hr => ?_)
    refine ⟨_, rfl, ((h2.kp).then hk3).then hk, ?_⟩
    simp at h
    simp [oneOr, cmpV, h]
  have hkk : k = k' := by simpa using h
  subst hkk
  clear h
  have hint : ∀ w2 w3, Kp No w w2 → Kp No w2 w3 → (k = 3 ∨ k = 9 ∨ k = 10) → ∃ v, Ending.returned (oneOr [Value.int .i64 (cmpI n n')]) = .returned v ∧ Kp No w w3 ∧ v = .int .i64 (cmpV (.mk k n t l d) (.mk k n' t' l' d')) := by
    intro w2 w3 h1 h2 h3
    exact ⟨_, rfl, h1.then h2, by simp [oneOr, cmpV, h3]⟩
  have htx : ∀ w2 w3, Kp No w w2 → Kp No w2 w3 → ¬ (k = 3 ∨ k = 9 ∨ k = 10) → (k = 4 ∨ k = 7 ∨ k = 8) → ∃ v, Ending.returned (oneOr [Value.int .i64 (cmpB t.data.toList t'.data.toList)]) = .returned v ∧ Kp No w w3 ∧ v = .int .i64 (cmpV (.mk k n t l d) (.mk k n' t' l' d')) := by
    intro w2 w3 h1 h2 h3 h4
    exact ⟨_, rfl, h1.then h2, by simp only [oneOr, cmpV]; rw [if_neg (by simp), if_neg h3, if_pos h4]⟩
  (repeat' (first | refine G0 ?_ | refine sst_box rfl rfl rfl rfl rfl (fun b hb hlt => ?_) | refine sst_alloc tb_ok rfl rfl rfl EV (fun b hb hlt => ?_)))
  refine swp_if rfl (fun h3 => ?_) (fun h3 => ?_)
  rotate_left
  · (repeat' (first | refine G0 ?_ | refine sst_box rfl rfl rfl rfl rfl (fun b hb hlt => ?_) | refine sst_alloc tb_ok rfl rfl rfl EV (fun b hb hlt => ?_)))
    refine swp_if rfl (fun h9 => ?_) (fun h9 => ?_)
    rotate_left
    · (repeat' (first | refine G0 ?_ | refine sst_box rfl rfl rfl rfl rfl (fun b hb hlt => ?_) | refine sst_alloc tb_ok rfl rfl rfl EV (fun b hb hlt => ?_)))
      refine swp_if rfl (fun h10 => ?_) (fun h10 => ?_)
      rotate_left
      · (repeat' (first | refine G0 ?_ | refine sst_box rfl rfl rfl rfl rfl (fun b hb hlt => ?_) | refine sst_alloc tb_ok rfl rfl rfl EV (fun b hb hlt => ?_)))
        have hni : ¬ (k = 3 ∨ k = 9 ∨ k = 10) := by simp at h3 h9 h10; omega
        refine swp_if rfl (fun h4 => ?_) (fun h4 => ?_)
        rotate_left
        · (repeat' (first | refine G0 ?_ | refine sst_box rfl rfl rfl rfl rfl (fun b hb hlt => ?_) | refine sst_alloc tb_ok rfl rfl rfl EV (fun b hb hlt => ?_)))
          refine swp_if rfl (fun h7 => ?_) (fun h7 => ?_)
          rotate_left
          · (repeat' (first | refine G0 ?_ | refine sst_box rfl rfl rfl rfl rfl (fun b hb hlt => ?_) | refine sst_alloc tb_ok rfl rfl rfl EV (fun b hb hlt => ?_)))
            refine swp_if rfl (fun h8 => ?_) (fun h8 => ?_)
            rotate_left
            · (repeat' (first | refine G0 ?_ | refine sst_box rfl rfl rfl rfl rfl (fun b hb hlt => ?_) | refine sst_alloc tb_ok rfl rfl rfl EV (fun b hb hlt => ?_)))
              have hnt : ¬ (k = 4 ∨ k = 7 ∨ k = 8) := by simp at h4 h7 h8; omega
              refine swp_if rfl (fun h6 => ?_) (fun h6 => ?_)
              · (repeat' (first | refine G0 ?_ | refine sst_box rfl rfl rfl rfl rfl (fun b hb hlt => ?_) | refine sst_alloc tb_ok rfl rfl rfl EV (fun b hb hlt => ?_)))
                refine sst_call tb_ok rfl rfl rfl rfl rfl EV AP (fun v _ _ => v = .int .i64 (cmpL l l')) ?_ ?_
                · exact fun w1 h1 => lists_of l l' H1 S S' w1 _ _ _ _ _ _ (hl.kp h1.kp) (hl'.kp h1.kp)
                rintro v w2 w3 h2 hk3 rfl
                (repeat' (first | refine G0 ?_ | refine sst_box rfl rfl rfl rfl rfl (fun b hb hlt => ?_) | refine sst_alloc tb_ok rfl rfl rfl EV (fun b hb hlt => ?_)))
                refine sq_ret tb_ok rfl EV (fun w' hk hr => ?_)
                refine ⟨_, rfl, ((h2.kp).then hk3).then hk, ?_⟩
                simp at h6
                simp only [oneOr, cmpV]; rw [if_neg (by simp), if_neg hni, if_neg hnt, if_pos h6]
              (repeat' (first | refine G0 ?_ | refine sst_box rfl rfl rfl rfl rfl (fun b hb hlt => ?_) | refine sst_alloc tb_ok rfl rfl rfl EV (fun b hb hlt => ?_)))
              refine swp_if rfl (fun h5 => ?_) (fun h5 => ?_)
              · (repeat' (first | refine G0 ?_ | refine sst_box rfl rfl rfl rfl rfl (fun b hb hlt => ?_) | refine sst_alloc tb_ok rfl rfl rfl EV (fun b hb hlt => ?_)))
                refine sst_call tb_ok rfl rfl rfl rfl rfl EV AP (fun v _ _ => v = .int .i64 (cmpD d d')) ?_ ?_
                · exact fun w1 h1 => docs_of d d' H2 S S' w1 _ _ _ _ _ _ (hd.kp h1.kp) (hd'.kp h1.kp)
                rintro v w2 w3 h2 hk3 rfl
                (repeat' (first | refine G0 ?_ | refine sst_box rfl rfl rfl rfl rfl (fun b hb hlt => ?_) | refine sst_alloc tb_ok rfl rfl rfl EV (fun b hb hlt => ?_)))
                refine sq_ret tb_ok rfl EV (fun w' hk hr => ?_)
                refine ⟨_, rfl, ((h2.kp).then hk3).then hk, ?_⟩
                simp at h5 h6
                simp only [oneOr, cmpV]; rw [if_neg (by simp), if_neg hni, if_neg hnt, if_neg h6, if_pos h5]
              (repeat' (first | refine G0 ?_ | refine sst_box rfl rfl rfl rfl rfl (fun b hb hlt => ?_) | refine sst_alloc tb_ok rfl rfl rfl EV (fun b hb hlt => ?_)))
              refine sq_ret tb_ok rfl EV (fun w' hk hr => ?_)
              refine ⟨_, rfl, hk, ?_⟩
              simp at h5 h6
              simp only [oneOr, cmpV]; rw [if_neg (by simp), if_neg hni, if_neg hnt, if_neg h6, if_neg h5]
            · (repeat' (first | refine G0 ?_ | refine sst_box rfl rfl rfl rfl rfl (fun b hb hlt => ?_) | refine sst_alloc tb_ok rfl rfl rfl EV (fun b hb hlt => ?_)))
              refine sst_call tb_ok rfl rfl rfl rfl rfl EV AP (fun v _ _ => v = .int .i64 (cmpB t.data.toList t'.data.toList)) ?_ ?_
              · exact fun w1 h1 => c156 _ _ _
              rintro v w2 w3 h2 hk3 rfl
              (repeat' (first | refine G0 ?_ | refine sst_box rfl rfl rfl rfl rfl (fun b hb hlt => ?_) | refine sst_alloc tb_ok rfl rfl rfl EV (fun b hb hlt => ?_)))
              refine sq_ret tb_ok rfl EV (fun w' hk hr => ?_)
              exact htx _ _ (h2.kp.then hk3) hk hni (by simp at h8; omega)
          · (repeat' (first | refine G0 ?_ | refine sst_box rfl rfl rfl rfl rfl (fun b hb hlt => ?_) | refine sst_alloc tb_ok rfl rfl rfl EV (fun b hb hlt => ?_)))
            refine sst_call tb_ok rfl rfl rfl rfl rfl EV AP (fun v _ _ => v = .int .i64 (cmpB t.data.toList t'.data.toList)) ?_ ?_
            · exact fun w1 h1 => c156 _ _ _
            rintro v w2 w3 h2 hk3 rfl
            (repeat' (first | refine G0 ?_ | refine sst_box rfl rfl rfl rfl rfl (fun b hb hlt => ?_) | refine sst_alloc tb_ok rfl rfl rfl EV (fun b hb hlt => ?_)))
            refine sq_ret tb_ok rfl EV (fun w' hk hr => ?_)
            exact htx _ _ (h2.kp.then hk3) hk hni (by simp at h7; omega)
        · (repeat' (first | refine G0 ?_ | refine sst_box rfl rfl rfl rfl rfl (fun b hb hlt => ?_) | refine sst_alloc tb_ok rfl rfl rfl EV (fun b hb hlt => ?_)))
          refine sst_call tb_ok rfl rfl rfl rfl rfl EV AP (fun v _ _ => v = .int .i64 (cmpB t.data.toList t'.data.toList)) ?_ ?_
          · exact fun w1 h1 => c156 _ _ _
          rintro v w2 w3 h2 hk3 rfl
          (repeat' (first | refine G0 ?_ | refine sst_box rfl rfl rfl rfl rfl (fun b hb hlt => ?_) | refine sst_alloc tb_ok rfl rfl rfl EV (fun b hb hlt => ?_)))
          refine sq_ret tb_ok rfl EV (fun w' hk hr => ?_)
          exact htx _ _ (h2.kp.then hk3) hk hni (by simp at h4; omega)
      · (repeat' (first | refine G0 ?_ | refine sst_box rfl rfl rfl rfl rfl (fun b hb hlt => ?_) | refine sst_alloc tb_ok rfl rfl rfl EV (fun b hb hlt => ?_)))
        refine sst_call tb_ok rfl rfl rfl rfl rfl EV AP (fun v _ _ => v = .int .i64 (cmpI n n')) ?_ ?_
        · exact fun w1 h1 => c99 _ _ _
        rintro v w2 w3 h2 hk3 rfl
        (repeat' (first | refine G0 ?_ | refine sst_box rfl rfl rfl rfl rfl (fun b hb hlt => ?_) | refine sst_alloc tb_ok rfl rfl rfl EV (fun b hb hlt => ?_)))
        refine sq_ret tb_ok rfl EV (fun w' hk hr => ?_)
        exact hint _ _ (h2.kp.then hk3) hk (by simp at h10; omega)
    · (repeat' (first | refine G0 ?_ | refine sst_box rfl rfl rfl rfl rfl (fun b hb hlt => ?_) | refine sst_alloc tb_ok rfl rfl rfl EV (fun b hb hlt => ?_)))
      refine sst_call tb_ok rfl rfl rfl rfl rfl EV AP (fun v _ _ => v = .int .i64 (cmpI n n')) ?_ ?_
      · exact fun w1 h1 => c99 _ _ _
      rintro v w2 w3 h2 hk3 rfl
      (repeat' (first | refine G0 ?_ | refine sst_box rfl rfl rfl rfl rfl (fun b hb hlt => ?_) | refine sst_alloc tb_ok rfl rfl rfl EV (fun b hb hlt => ?_)))
      refine sq_ret tb_ok rfl EV (fun w' hk hr => ?_)
      exact hint _ _ (h2.kp.then hk3) hk (by simp at h9; omega)
  · (repeat' (first | refine G0 ?_ | refine sst_box rfl rfl rfl rfl rfl (fun b hb hlt => ?_) | refine sst_alloc tb_ok rfl rfl rfl EV (fun b hb hlt => ?_)))
    refine sst_call tb_ok rfl rfl rfl rfl rfl EV AP (fun v _ _ => v = .int .i64 (cmpI n n')) ?_ ?_
    · exact fun w1 h1 => c99 _ _ _
    rintro v w2 w3 h2 hk3 rfl
    (repeat' (first | refine G0 ?_ | refine sst_box rfl rfl rfl rfl rfl (fun b hb hlt => ?_) | refine sst_alloc tb_ok rfl rfl rfl EV (fun b hb hlt => ?_)))
    refine sq_ret tb_ok rfl EV (fun w' hk hr => ?_)
    exact hint _ _ (h2.kp.then hk3) hk (by simp at h3; omega)

theorem cmp_all (x y : Val) : Cmp114 x y := by
  refine cmp_step x y (fun z hz u => cmp_all z u) (fun z hz u => cmp_all z.2 u)
  termination_by SizeOf.sizeOf x
  decreasing_by
  · obtain ⟨k, n, t, l, d⟩ := x; exact sizeOf_l hz
  · obtain ⟨k, n, t, l, d⟩ := x; exact sizeOf_d hz

def eqV' (x y : Val) : Bool := cmpV x y == 0

theorem c109 (x y : Val) (S S' : Nat → Prop) (w : World) (cs cs' : List Value) (hx : RepV S w x cs) (hy : RepV S' w y cs') :
    Calls Go.Proofs.Tryz.prog 109 #[.agg cs.toArray, .agg cs'.toArray] w fun e w2 => ∃ v, e = .returned v ∧ Kp No w w2 ∧ v = .bool (eqV' x y) := by
  have h1 := hx.length
  have h2 := hy.length
  match cs, h1 with
  | [c1, c2, c3, c4, c5], _ =>
  match cs', h2 with
  | [d1, d2, d3, d4, d5], _ =>
  refine calls_intro (args := [_, _]) w.heap.size Go.Proofs.Tryz.func109 rfl Go.Proofs.Tryz.ntmps109 (by simp) (Nat.le_refl _) ?_
  (repeat' (first | refine G0 ?_ | refine sst_box rfl rfl rfl rfl rfl (fun b hb hlt => ?_) | refine sst_alloc tb_ok rfl rfl rfl EV (fun b hb hlt => ?_)))
  refine sst_call tb_ok rfl rfl rfl rfl rfl EV AP (fun v _ _ => v = .int .i64 (cmpV x y)) ?_ ?_
  · exact fun w1 h1 => cmp_all x y S S' w1 _ _ (hx.kp h1.kp) (hy.kp h1.kp)
  rintro v w2 w3 h2 hk3 rfl
  (repeat' (first | refine G0 ?_ | refine sst_box rfl rfl rfl rfl rfl (fun b hb hlt => ?_) | refine sst_alloc tb_ok rfl rfl rfl EV (fun b hb hlt => ?_)))
  refine sq_ret tb_ok rfl EV (fun w' hk hr => ?_)
  exact ⟨_, rfl, (h2.kp.then hk3).then hk, by simp [oneOr, eqV']⟩
end Go.Fw

set_option linter.unusedVariables false
set_option linter.unusedSimpArgs false
set_option maxRecDepth 10000
set_option maxHeartbeats 2000000
namespace Go.Fw
open Go
attribute [local irreducible] SWp SQ SSeq SSt Quiet Next Meet

def okc (c : UInt8) : Bool := decide (33 ≤ c.toNat) && decide (c.toNat ≤ 126) && decide (c.toNat ≠ 46)
def nameB (l : List UInt8) : Bool := !(l == []) && decide (l.length ≤ 32) && !(l.head? == some 36) && l.all okc

theorem size_len (s : ByteArray) : s.size = s.data.toList.length := (Array.length_toList).symm

theorem u8_eq (c : UInt8) (n : Nat) (h : n < 256) : ((c.toNat : Int) == (n : Int)) = (c == UInt8.ofNat n) := by
  rw [Bool.eq_iff_iff]
  simp only [beq_iff_eq]
  constructor
  · intro h1
    have : c.toNat = n := by omega
    rw [← this]; simp
  · intro h1
    subst h1
    simp [UInt8.toNat_ofNat']; omega

theorem c125 (s : ByteArray) (hs : s.size ≤ LIM) (w : World) : Calls Go.Proofs.Tryz.prog 125 #[.string s] w fun e w2 => ∃ v, e = .returned v ∧ Kp No w w2 ∧ v = .bool (nameB s.data.toList) := by
  rw [LIM_eq] at hs
  have hsz := size_len s
  refine calls_intro (args := [_]) w.heap.size Go.Proofs.Tryz.func125 rfl Go.Proofs.Tryz.ntmps125 (by simp) (Nat.le_refl _) ?_
  (repeat' (first | refine G0 ?_ | refine sst_box rfl rfl rfl rfl rfl (fun b hb hlt => ?_) | refine sst_alloc tb_ok rfl rfl rfl EV (fun b hb hlt => ?_)))
  refine sst_guard rfl rfl rfl (fun h1 => ?_) (fun h1 => ?_)
  · (repeat' (first | refine G0 ?_ | refine sst_box rfl rfl rfl rfl rfl (fun b hb hlt => ?_) | refine sst_alloc tb_ok rfl rfl rfl EV (fun b hb hlt => ?_)))
    refine sq_ret tb_ok rfl EV (fun w' hk hr => ?_)
    exact ⟨_, rfl, hk, by simp at h1; simp [oneOr, nameB, h1]⟩
  (repeat' (first | refine G0 ?_ | refine sst_box rfl rfl rfl rfl rfl (fun b hb hlt => ?_) | refine sst_alloc tb_ok rfl rfl rfl EV (fun b hb hlt => ?_)))
  refine sst_guard rfl rfl rfl (fun h2 => ?_) (fun h2 => ?_)
  · (repeat' (first | refine G0 ?_ | refine sst_box rfl rfl rfl rfl rfl (fun b hb hlt => ?_) | refine sst_alloc tb_ok rfl rfl rfl EV (fun b hb hlt => ?_)))
    refine sq_ret tb_ok rfl EV (fun w' hk hr => ?_)
    refine ⟨_, rfl, hk, ?_⟩
    have hle : ¬ s.data.toList.length ≤ 32 := by simp at h2; omega
    simp only [oneOr, nameB, hle, decide_false, Bool.and_false, Bool.false_and]
  (repeat' (first | refine G0 ?_ | refine sst_box rfl rfl rfl rfl rfl (fun b hb hlt => ?_) | refine sst_alloc tb_ok rfl rfl rfl EV (fun b hb hlt => ?_)))
  obtain ⟨c0, r0, hl⟩ : ∃ c r, s.data.toList = c :: r := by
    cases hl : s.data.toList with
    | nil => simp [hl] at h1
    | cons c r => exact ⟨c, r, rfl⟩
  refine sst_quiet rfl rfl (q_strIndex tb_ok rfl str_9 rfl rfl 0 rfl (c := c0) (by simp [hl])) ?_
  (repeat' (first | refine G0 ?_ | refine sst_box rfl rfl rfl rfl rfl (fun b hb hlt => ?_) | refine sst_alloc tb_ok rfl rfl rfl EV (fun b hb hlt => ?_)))
  refine swp_if rfl (fun h3 => ?_) (fun h3 => ?_)
  · (repeat' (first | refine G0 ?_ | refine sst_box rfl rfl rfl rfl rfl (fun b hb hlt => ?_) | refine sst_alloc tb_ok rfl rfl rfl EV (fun b hb hlt => ?_)))
    refine sq_ret tb_ok rfl EV (fun w' hk hr => ?_)
    refine ⟨_, rfl, hk, ?_⟩
    have h36 : c0 = 36 := by
      have := u8_eq c0 36 (by omega)
      rw [show ((36 : Nat) : Int) = 36 from rfl] at this
      rw [this] at h3; simpa using h3
    subst h36
    simp [oneOr, nameB, hl]
  (repeat' (first | refine G0 ?_ | refine sst_box rfl rfl rfl rfl rfl (fun b hb hlt => ?_) | refine sst_alloc tb_ok rfl rfl rfl EV (fun b hb hlt => ?_)))
  have h36 : ¬ c0 = 36 := by
    intro h; subst h; simp at h3
  have hlen : s.data.toList.length ≤ 32 := by simp at h2; omega
  refine swp_loop (X := World × Nat) (fun x => Kp No w x.1 ∧ x.2 ≤ s.size ∧ (s.data.toList.take x.2).all okc = true)
    (fun x => ⟨38, [(18, .val (.int .i64 (x.2 : Int))), (17, .val (.int .i64 (s.size : Int))), (0, .val (.string s))], [], [], w.heap.size, x.1, No⟩) (fun x => s.size - x.2) ?_ ?_
  · intro w1 h1
    refine ⟨(w1, 0), ⟨h1.kp, Nat.zero_le _, by simp⟩, ?_⟩
    (refine WKmk ?_; try trivial)
  rintro ⟨w1, i⟩ ⟨hk1, hi, hall⟩
  simp only at hk1 hi hall
  (repeat' (first | refine G0 ?_ | refine sst_box rfl rfl rfl rfl rfl (fun b hb hlt => ?_) | refine sst_alloc tb_ok rfl rfl rfl EV (fun b hb hlt => ?_)))
  refine swp_if rfl (fun h4 => ?_) (fun h4 => ?_)
  · have hi : i < s.size := by simp at h4; omega
    have hx : s.data.toList[i]? = some (s.data.toList[i]'(by omega)) := List.getElem?_eq_getElem (by omega)
    generalize s.data.toList[i]'(by omega) = c at hx
    have htk : s.data.toList.take (i + 1) = s.data.toList.take i ++ [c] := by
      have := List.getElem?_eq_some_iff.1 hx
      rw [List.take_succ_eq_append_getElem this.1, this.2]
    have hbad : okc c = false → nameB s.data.toList = false := by
      intro h
      have hm : c ∈ s.data.toList := List.mem_of_getElem? hx
      have : s.data.toList.all okc = false := by
        rw [Bool.eq_false_iff]; intro h2
        rw [List.all_eq_true] at h2
        rw [h2 c hm] at h; cases h
      simp only [nameB, this, Bool.and_false]
    (repeat' (first | refine G0 ?_ | refine sst_box rfl rfl rfl rfl rfl (fun b hb hlt => ?_) | refine sst_alloc tb_ok rfl rfl rfl EV (fun b hb hlt => ?_)))
    refine sst_quiet rfl rfl (q_strIndex tb_ok rfl str_9 rfl rfl i rfl hx) ?_
    (repeat' (first | refine G0 ?_ | refine sst_box rfl rfl rfl rfl rfl (fun b hb hlt => ?_) | refine sst_alloc tb_ok rfl rfl rfl EV (fun b hb hlt => ?_)))
    refine sst_guard rfl rfl rfl (fun h5 => ?_) (fun h5 => ?_)
    · (repeat' (first | refine G0 ?_ | refine sst_box rfl rfl rfl rfl rfl (fun b hb hlt => ?_) | refine sst_alloc tb_ok rfl rfl rfl EV (fun b hb hlt => ?_)))
      refine sq_ret tb_ok rfl EV (fun w' hk hr => ?_)
      exact ⟨_, rfl, hk1.then hk, by rw [hbad (by simp at h5; simp [okc]; omega)]; rfl⟩
    (repeat' (first | refine G0 ?_ | refine sst_box rfl rfl rfl rfl rfl (fun b hb hlt => ?_) | refine sst_alloc tb_ok rfl rfl rfl EV (fun b hb hlt => ?_)))
    refine sst_quiet rfl rfl (q_strIndex tb_ok rfl str_9 rfl rfl i rfl hx) ?_
    (repeat' (first | refine G0 ?_ | refine sst_box rfl rfl rfl rfl rfl (fun b hb hlt => ?_) | refine sst_alloc tb_ok rfl rfl rfl EV (fun b hb hlt => ?_)))
    refine sst_guard rfl rfl rfl (fun h6 => ?_) (fun h6 => ?_)
    · (repeat' (first | refine G0 ?_ | refine sst_box rfl rfl rfl rfl rfl (fun b hb hlt => ?_) | refine sst_alloc tb_ok rfl rfl rfl EV (fun b hb hlt => ?_)))
      refine sq_ret tb_ok rfl EV (fun w' hk hr => ?_)
      exact ⟨_, rfl, hk1.then hk, by rw [hbad (by simp at h6; simp [okc]; omega)]; rfl⟩
    (repeat' (first | refine G0 ?_ | refine sst_box rfl rfl rfl rfl rfl (fun b hb hlt => ?_) | refine sst_alloc tb_ok rfl rfl rfl EV (fun b hb hlt => ?_)))
    refine sst_quiet rfl rfl (q_strIndex tb_ok rfl str_9 rfl rfl i rfl hx) ?_
    (repeat' (first | refine G0 ?_ | refine sst_box rfl rfl rfl rfl rfl (fun b hb hlt => ?_) | refine sst_alloc tb_ok rfl rfl rfl EV (fun b hb hlt => ?_)))
    refine swp_if rfl (fun h7 => ?_) (fun h7 => ?_)
    · (repeat' (first | refine G0 ?_ | refine sst_box rfl rfl rfl rfl rfl (fun b hb hlt => ?_) | refine sst_alloc tb_ok rfl rfl rfl EV (fun b hb hlt => ?_)))
      refine sq_ret tb_ok rfl EV (fun w' hk hr => ?_)
      exact ⟨_, rfl, hk1.then hk, by rw [hbad (by simp at h7; simp [okc]; omega)]; rfl⟩
    (repeat' (first | refine G0 ?_ | refine sst_box rfl rfl rfl rfl rfl (fun b hb hlt => ?_) | refine sst_alloc tb_ok rfl rfl rfl EV (fun b hb hlt => ?_)))
    refine sq_next fun w4 h4 => ?_
    refine ⟨(w4, i + 1), ⟨hk1.then h4.kp, by simp; omega, ?_⟩, by simp; omega, ?_⟩
    · simp only
      rw [htk, List.all_append, hall]
      simp at h5 h6 h7
      simp [okc]; omega
    · (refine WKmk ?_; try trivial)
      rw [wr_small (by omega)]
      simp
  · (repeat' (first | refine G0 ?_ | refine sst_box rfl rfl rfl rfl rfl (fun b hb hlt => ?_) | refine sst_alloc tb_ok rfl rfl rfl EV (fun b hb hlt => ?_)))
    refine sq_ret tb_ok rfl EV (fun w' hk hr => ?_)
    refine ⟨_, rfl, hk1.then hk, ?_⟩
    have : i = s.size := by simp at h4; omega
    rw [this, hsz, List.take_length] at hall
    simp only [oneOr, nameB, hall, hlen, decide_true, Bool.and_true]
    simp [hl, h36]

theorem c76 (s : ByteArray) (hs : s.size ≤ LIM) (w : World) : Calls Go.Proofs.Tryz.prog 76 #[.string s] w fun e w2 => ∃ v, e = .returned v ∧ Kp No w w2 ∧ v = .bool (nameB s.data.toList) := by
  rw [LIM_eq] at hs
  have hsz := size_len s
  refine calls_intro (args := [_]) w.heap.size Go.Proofs.Tryz.func76 rfl Go.Proofs.Tryz.ntmps76 (by simp) (Nat.le_refl _) ?_
  (repeat' (first | refine G0 ?_ | refine sst_box rfl rfl rfl rfl rfl (fun b hb hlt => ?_) | refine sst_alloc tb_ok rfl rfl rfl EV (fun b hb hlt => ?_)))
  refine sst_guard rfl rfl rfl (fun h1 => ?_) (fun h1 => ?_)
  · (repeat' (first | refine G0 ?_ | refine sst_box rfl rfl rfl rfl rfl (fun b hb hlt => ?_) | refine sst_alloc tb_ok rfl rfl rfl EV (fun b hb hlt => ?_)))
    refine sq_ret tb_ok rfl EV (fun w' hk hr => ?_)
    refine ⟨_, rfl, hk, ?_⟩
    have h0 : s.data.toList = [] := List.eq_nil_of_length_eq_zero (by simp at h1; omega)
    simp [oneOr, nameB, h0]
  (repeat' (first | refine G0 ?_ | refine sst_box rfl rfl rfl rfl rfl (fun b hb hlt => ?_) | refine sst_alloc tb_ok rfl rfl rfl EV (fun b hb hlt => ?_)))
  refine sst_guard rfl rfl rfl (fun h2 => ?_) (fun h2 => ?_)
  · (repeat' (first | refine G0 ?_ | refine sst_box rfl rfl rfl rfl rfl (fun b hb hlt => ?_) | refine sst_alloc tb_ok rfl rfl rfl EV (fun b hb hlt => ?_)))
    refine sq_ret tb_ok rfl EV (fun w' hk hr => ?_)
    refine ⟨_, rfl, hk, ?_⟩
    have hle : ¬ s.data.toList.length ≤ 32 := by simp at h2; omega
    simp only [oneOr, nameB, hle, decide_false, Bool.and_false, Bool.false_and]
  (repeat' (first | refine G0 ?_ | refine sst_box rfl rfl rfl rfl rfl (fun b hb hlt => ?_) | refine sst_alloc tb_ok rfl rfl rfl EV (fun b hb hlt => ?_)))
  obtain ⟨c0, r0, hl⟩ : ∃ c r, s.data.toList = c :: r := by
    cases hl : s.data.toList with
    | nil => rw [hl] at hsz; simp [hsz] at h1
    | cons c r => exact ⟨c, r, rfl⟩
  refine sst_quiet rfl rfl (q_strIndex tb_ok rfl str_9 rfl rfl 0 rfl (c := c0) (by simp [hl])) ?_
  (repeat' (first | refine G0 ?_ | refine sst_box rfl rfl rfl rfl rfl (fun b hb hlt => ?_) | refine sst_alloc tb_ok rfl rfl rfl EV (fun b hb hlt => ?_)))
  refine swp_if rfl (fun h3 => ?_) (fun h3 => ?_)
  · (repeat' (first | refine G0 ?_ | refine sst_box rfl rfl rfl rfl rfl (fun b hb hlt => ?_) | refine sst_alloc tb_ok rfl rfl rfl EV (fun b hb hlt => ?_)))
    refine sq_ret tb_ok rfl EV (fun w' hk hr => ?_)
    refine ⟨_, rfl, hk, ?_⟩
    have h36 : c0 = 36 := by
      have := u8_eq c0 36 (by omega)
      rw [show ((36 : Nat) : Int) = 36 from rfl] at this
      rw [this] at h3; simpa using h3
    subst h36
    simp [oneOr, nameB, hl]
  (repeat' (first | refine G0 ?_ | refine sst_box rfl rfl rfl rfl rfl (fun b hb hlt => ?_) | refine sst_alloc tb_ok rfl rfl rfl EV (fun b hb hlt => ?_)))
  have h36 : ¬ c0 = 36 := by
    intro h; subst h; simp at h3
  have hlen : s.data.toList.length ≤ 32 := by simp at h2; omega
  refine swp_loop (X := World × Nat) (fun x => Kp No w x.1 ∧ x.2 ≤ s.size ∧ (s.data.toList.take x.2).all okc = true)
    (fun x => ⟨39, [(3, .val (.int .i64 (x.2 : Int))), (0, .val (.string s))], [], [], w.heap.size, x.1, No⟩) (fun x => s.size - x.2) ?_ ?_
  · intro w1 h1
    refine ⟨(w1, 0), ⟨h1.kp, Nat.zero_le _, by simp⟩, ?_⟩
    (refine WKmk ?_; try trivial)
  rintro ⟨w1, i⟩ ⟨hk1, hi, hall⟩
  simp only at hk1 hi hall
  (repeat' (first | refine G0 ?_ | refine sst_box rfl rfl rfl rfl rfl (fun b hb hlt => ?_) | refine sst_alloc tb_ok rfl rfl rfl EV (fun b hb hlt => ?_)))
  refine swp_if rfl (fun h4 => ?_) (fun h4 => ?_)
  · have hi : i < s.size := by simp at h4; omega
    have hx : s.data.toList[i]? = some (s.data.toList[i]'(by omega)) := List.getElem?_eq_getElem (by omega)
    generalize s.data.toList[i]'(by omega) = c at hx
    have htk : s.data.toList.take (i + 1) = s.data.toList.take i ++ [c] := by
      have := List.getElem?_eq_some_iff.1 hx
      rw [List.take_succ_eq_append_getElem this.1, this.2]
    have hbad : okc c = false → nameB s.data.toList = false := by
      intro h
      have hm : c ∈ s.data.toList := List.mem_of_getElem? hx
      have : s.data.toList.all okc = false := by
        rw [Bool.eq_false_iff]; intro h2
        rw [List.all_eq_true] at h2
        rw [h2 c hm] at h; cases h
      simp only [nameB, this, Bool.and_false]
    (repeat' (first | refine G0 ?_ | refine sst_box rfl rfl rfl rfl rfl (fun b hb hlt => ?_) | refine sst_alloc tb_ok rfl rfl rfl EV (fun b hb hlt => ?_)))
    refine sst_quiet rfl rfl (q_strIndex tb_ok rfl str_9 rfl rfl i rfl hx) ?_
    (repeat' (first | refine G0 ?_ | refine sst_box rfl rfl rfl rfl rfl (fun b hb hlt => ?_) | refine sst_alloc tb_ok rfl rfl rfl EV (fun b hb hlt => ?_)))
    refine sst_guard rfl rfl rfl (fun h5 => ?_) (fun h5 => ?_)
    · (repeat' (first | refine G0 ?_ | refine sst_box rfl rfl rfl rfl rfl (fun b hb hlt => ?_) | refine sst_alloc tb_ok rfl rfl rfl EV (fun b hb hlt => ?_)))
      refine sq_ret tb_ok rfl EV (fun w' hk hr => ?_)
      exact ⟨_, rfl, hk1.then hk, by rw [hbad (by simp at h5; simp [okc]; omega)]; rfl⟩
    (repeat' (first | refine G0 ?_ | refine sst_box rfl rfl rfl rfl rfl (fun b hb hlt => ?_) | refine sst_alloc tb_ok rfl rfl rfl EV (fun b hb hlt => ?_)))
    refine sst_quiet rfl rfl (q_strIndex tb_ok rfl str_9 rfl rfl i rfl hx) ?_
    (repeat' (first | refine G0 ?_ | refine sst_box rfl rfl rfl rfl rfl (fun b hb hlt => ?_) | refine sst_alloc tb_ok rfl rfl rfl EV (fun b hb hlt => ?_)))
    refine sst_guard rfl rfl rfl (fun h6 => ?_) (fun h6 => ?_)
    · (repeat' (first | refine G0 ?_ | refine sst_box rfl rfl rfl rfl rfl (fun b hb hlt => ?_) | refine sst_alloc tb_ok rfl rfl rfl EV (fun b hb hlt => ?_)))
      refine sq_ret tb_ok rfl EV (fun w' hk hr => ?_)
      exact ⟨_, rfl, hk1.then hk, by rw [hbad (by simp at h6; simp [okc]; omega)]; rfl⟩
    (repeat' (first | refine G0 ?_ | refine sst_box rfl rfl rfl rfl rfl (fun b hb hlt => ?_) | refine sst_alloc tb_ok rfl rfl rfl EV (fun b hb hlt => ?_)))
    refine sst_quiet rfl rfl (q_strIndex tb_ok rfl str_9 rfl rfl i rfl hx) ?_
    (repeat' (first | refine G0 ?_ | refine sst_box rfl rfl rfl rfl rfl (fun b hb hlt => ?_) | refine sst_alloc tb_ok rfl rfl rfl EV (fun b hb hlt => ?_)))
    refine swp_if rfl (fun h7 => ?_) (fun h7 => ?_)
    · (repeat' (first | refine G0 ?_ | refine sst_box rfl rfl rfl rfl rfl (fun b hb hlt => ?_) | refine sst_alloc tb_ok rfl rfl rfl EV (fun b hb hlt => ?_)))
      refine sq_ret tb_ok rfl EV (fun w' hk hr => ?_)
      exact ⟨_, rfl, hk1.then hk, by rw [hbad (by simp at h7; simp [okc]; omega)]; rfl⟩
    (repeat' (first | refine G0 ?_ | refine sst_box rfl rfl rfl rfl rfl (fun b hb hlt => ?_) | refine sst_alloc tb_ok rfl rfl rfl EV (fun b hb hlt => ?_)))
    refine sq_next fun w4 h4 => ?_
    refine ⟨(w4, i + 1), ⟨hk1.then h4.kp, by simp; omega, ?_⟩, by simp; omega, ?_⟩
    · simp only
      rw [htk, List.all_append, hall]
      simp at h5 h6 h7
      simp [okc]; omega
    · (refine WKmk ?_; try trivial)
      rw [wr_small (by omega)]
      simp
  · (repeat' (first | refine G0 ?_ | refine sst_box rfl rfl rfl rfl rfl (fun b hb hlt => ?_) | refine sst_alloc tb_ok rfl rfl rfl EV (fun b hb hlt => ?_)))
    refine sq_ret tb_ok rfl EV (fun w' hk hr => ?_)
    refine ⟨_, rfl, hk1.then hk, ?_⟩
    have : i = s.size := by simp at h4; omega
    rw [this, hsz, List.take_length] at hall
    simp only [oneOr, nameB, hall, hlen, decide_true, Bool.and_true]
    simp [hl, h36]

/-- A slice of strings. -/
def RepB (S : Nat → Prop) (w : World) (A : Option Addr) (n c : Nat) (l : List ByteArray) : Prop :=
  n = l.length ∧ n * 16 ≤ LIM ∧ n ≤ c ∧ (n = 0 ∨ ∃ b off, A = some ⟨b, off, none⟩ ∧ S b ∧ ∀ (i : Nat) (s : ByteArray), l[i]? = some s → w.cell? ⟨b, off + i, none⟩ = some (.string s)) ∧ ∀ s ∈ l, s.size ≤ LIM

theorem RepB.to {S S' : Nat → Prop} {D : Nat → Prop} {w w' : World} {A : Option Addr} {n c : Nat} {l : List ByteArray} (h : RepB S w A n c l) (hk : Kp D w w')
    (hS : ∀ b, S b → b < w.heap.size → ¬ D b ∧ S' b) : RepB S' w' A n c l := by
  obtain ⟨h1, h2, h3, h4, h5⟩ := h
  refine ⟨h1, h2, h3, ?_, h5⟩
  rcases h4 with h0 | ⟨b, off, hA, hb, hi⟩
  · exact .inl h0
  · rcases Nat.eq_zero_or_pos n with h0 | h0
    · exact .inl h0
    · have hx : l[0]? = some (l[0]'(by omega)) := List.getElem?_eq_getElem (by omega)
      have hlt := World.block_lt_of_cell? w _ (hi 0 _ hx)
      have := hS b hb hlt
      exact .inr ⟨b, off, hA, this.2, fun i s hs => hk.cell (hi i s hs) this.1⟩
theorem RepB.kp {S : Nat → Prop} {w w' : World} {A : Option Addr} {n c : Nat} {l : List ByteArray} (h : RepB S w A n c l) (hk : Kp No w w') : RepB S w' A n c l :=
  h.to hk fun b hb _ => ⟨id, hb⟩

theorem RepB.get {S : Nat → Prop} {w : World} {A : Option Addr} {n c : Nat} {l : List ByteArray} (h : RepB S w A n c l) {i : Nat} {s : ByteArray} (hs : l[i]? = some s) :
    ∃ b off, A = some ⟨b, off, none⟩ ∧ S b ∧ i < n ∧ w.cell? ⟨b, off + i, none⟩ = some (.string s) ∧ s.size ≤ LIM := by
  obtain ⟨h1, _, _, h4, h5⟩ := h
  have hlt : i < n := by rw [h1]; exact (List.getElem?_eq_some_iff.1 hs).1
  rcases h4 with h0 | ⟨b, off, hA, hb, hi⟩
  · omega
  · exact ⟨b, off, hA, hb, hlt, hi i s hs, h5 s (List.mem_of_getElem? hs)⟩

def pathB (l : List ByteArray) : Bool := decide (1 ≤ l.length) && decide (l.length ≤ 16) && l.all fun s => nameB s.data.toList

theorem take_snoc {α : Type} {l : List α} {i : Nat} {x : α} (h : l[i]? = some x) : l.take (i + 1) = l.take i ++ [x] := by
  have := List.getElem?_eq_some_iff.1 h
  rw [List.take_succ_eq_append_getElem this.1, this.2]

theorem get_of_lt {α : Type} {l : List α} {i : Nat} (h : i < l.length) : ∃ x, l[i]? = some x := ⟨_, List.getElem?_eq_getElem h⟩

theorem all_false {α : Type} {l : List α} {p : α → Bool} {x : α} (hm : x ∈ l) (h : p x = false) : l.all p = false := by
  rw [Bool.eq_false_iff]; intro h2
  rw [List.all_eq_true] at h2
  rw [h2 x hm] at h; cases h

theorem c72 (l : List ByteArray) (S : Nat → Prop) (w : World) (A : Option Addr) (n c : Nat) (hl : RepB S w A n c l) : Calls Go.Proofs.Tryz.prog 72 #[.slice A n c] w fun e w2 => ∃ v, e = .returned v ∧ Kp No w w2 ∧ v = .bool (pathB l) := by
  have hn := hl.1
  have hb := hl.2.1
  rw [LIM_eq] at hb
  refine calls_intro (args := [_]) w.heap.size Go.Proofs.Tryz.func72 rfl Go.Proofs.Tryz.ntmps72 (by simp) (Nat.le_refl _) ?_
  (repeat' (first | refine G0 ?_ | refine sst_box rfl rfl rfl rfl rfl (fun b hb hlt => ?_) | refine sst_alloc tb_ok rfl rfl rfl EV (fun b hb hlt => ?_)))
  refine sst_guard rfl rfl rfl (fun h1 => ?_) (fun h1 => ?_)
  · (repeat' (first | refine G0 ?_ | refine sst_box rfl rfl rfl rfl rfl (fun b hb hlt => ?_) | refine sst_alloc tb_ok rfl rfl rfl EV (fun b hb hlt => ?_)))
    refine sq_ret tb_ok rfl EV (fun w' hk hr => ?_)
    refine ⟨_, rfl, hk, ?_⟩
    have : ¬ 1 ≤ l.length := by simp at h1; omega
    simp [oneOr, pathB, this]
  (repeat' (first | refine G0 ?_ | refine sst_box rfl rfl rfl rfl rfl (fun b hb hlt => ?_) | refine sst_alloc tb_ok rfl rfl rfl EV (fun b hb hlt => ?_)))
  refine swp_if rfl (fun h2 => ?_) (fun h2 => ?_)
  · (repeat' (first | refine G0 ?_ | refine sst_box rfl rfl rfl rfl rfl (fun b hb hlt => ?_) | refine sst_alloc tb_ok rfl rfl rfl EV (fun b hb hlt => ?_)))
    refine sq_ret tb_ok rfl EV (fun w' hk hr => ?_)
    refine ⟨_, rfl, hk, ?_⟩
    have : ¬ l.length ≤ 16 := by simp at h2; omega
    simp [oneOr, pathB, this]
  (repeat' (first | refine G0 ?_ | refine sst_box rfl rfl rfl rfl rfl (fun b hb hlt => ?_) | refine sst_alloc tb_ok rfl rfl rfl EV (fun b hb hlt => ?_)))
  refine swp_loop (X := World × Nat) (fun x => Kp No w x.1 ∧ x.2 ≤ n ∧ ((l.take x.2).all fun s => nameB s.data.toList) = true)
    (fun x => ⟨23, [(15, .val (.int .i64 (x.2 : Int))), (14, .val (.int .i64 (n : Int))), (13, .val (.slice A n c))], [], [], w.heap.size, x.1, No⟩) (fun x => n - x.2) ?_ ?_
  · intro w1 h1
    refine ⟨(w1, 0), ⟨h1.kp, Nat.zero_le _, by simp⟩, ?_⟩
    (refine WKmk ?_; try trivial)
  rintro ⟨w1, i⟩ ⟨hk1, hi, hall⟩
  simp only at hk1 hi hall
  (repeat' (first | refine G0 ?_ | refine sst_box rfl rfl rfl rfl rfl (fun b hb hlt => ?_) | refine sst_alloc tb_ok rfl rfl rfl EV (fun b hb hlt => ?_)))
  refine swp_if rfl (fun h4 => ?_) (fun h4 => ?_)
  · have hi : i < n := by simp at h4; omega
    obtain ⟨s, hs⟩ := get_of_lt (l := l) (i := i) (by omega)
    obtain ⟨b, off, rfl, hSb, _, hcell, hsz⟩ := hl.get hs
    (repeat' (first | refine G0 ?_ | refine sst_box rfl rfl rfl rfl rfl (fun b hb hlt => ?_) | refine sst_alloc tb_ok rfl rfl rfl EV (fun b hb hlt => ?_)))
    refine sst_quiet rfl rfl (q_index tb_ok rfl el_22 rfl rfl i rfl hi) ?_
    (repeat' (first | refine G0 ?_ | refine sst_box rfl rfl rfl rfl rfl (fun b hb hlt => ?_) | refine sst_alloc tb_ok rfl rfl rfl EV (fun b hb hlt => ?_)))
    refine sst_quiet rfl rfl (q_far_one tb_ok rfl sz_9 rfl id (by rw [Nat.mul_one]; exact hk1.cell hcell id)) ?_
    (repeat' (first | refine G0 ?_ | refine sst_box rfl rfl rfl rfl rfl (fun b hb hlt => ?_) | refine sst_alloc tb_ok rfl rfl rfl EV (fun b hb hlt => ?_)))
    refine sst_call tb_ok rfl rfl rfl rfl rfl EV AP (fun v _ _ => v = .bool (nameB s.data.toList)) ?_ ?_
    · exact fun w1 h1 => c125 s hsz w1
    rintro v w2 w3 h2 hk3 rfl
    (repeat' (first | refine G0 ?_ | refine sst_box rfl rfl rfl rfl rfl (fun b hb hlt => ?_) | refine sst_alloc tb_ok rfl rfl rfl EV (fun b hb hlt => ?_)))
    refine swp_if rfl (fun h5 => ?_) (fun h5 => ?_)
    · (repeat' (first | refine G0 ?_ | refine sst_box rfl rfl rfl rfl rfl (fun b hb hlt => ?_) | refine sst_alloc tb_ok rfl rfl rfl EV (fun b hb hlt => ?_)))
      refine sq_ret tb_ok rfl EV (fun w' hk hr => ?_)
      refine ⟨_, rfl, ((hk1.then h2.kp).then hk3).then hk, ?_⟩
      have := all_false (p := fun s : ByteArray => nameB s.data.toList) (List.mem_of_getElem? hs) (by simpa using h5)
      simp only [oneOr, pathB, this, Bool.and_false]
    (repeat' (first | refine G0 ?_ | refine sst_box rfl rfl rfl rfl rfl (fun b hb hlt => ?_) | refine sst_alloc tb_ok rfl rfl rfl EV (fun b hb hlt => ?_)))
    refine sq_next fun w4 h4 => ?_
    refine ⟨(w4, i + 1), ⟨((hk1.then h2.kp).then hk3).then h4.kp, by simp; omega, ?_⟩, by simp; omega, ?_⟩
    · simp only
      rw [take_snoc hs, List.all_append, hall]
      simp at h5
      simp [h5]
    · (refine WKmk ?_; try trivial)
      rw [wr_small (by omega)]
      simp
  · (repeat' (first | refine G0 ?_ | refine sst_box rfl rfl rfl rfl rfl (fun b hb hlt => ?_) | refine sst_alloc tb_ok rfl rfl rfl EV (fun b hb hlt => ?_)))
    refine sq_ret tb_ok rfl EV (fun w' hk hr => ?_)
    refine ⟨_, rfl, hk1.then hk, ?_⟩
    have : i = l.length := by simp at h4; omega
    rw [this, List.take_length] at hall
    have h5 : 1 ≤ l.length := by simp at h1; omega
    have h6 : l.length ≤ 16 := by simp at h2; omega
    simp only [oneOr, pathB, hall, h5, h6, decide_true, Bool.and_self]

theorem c75 (l : List ByteArray) (S : Nat → Prop) (w : World) (A : Option Addr) (n c : Nat) (hl : RepB S w A n c l) : Calls Go.Proofs.Tryz.prog 75 #[.slice A n c] w fun e w2 => ∃ v, e = .returned v ∧ Kp No w w2 ∧ v = .bool (pathB l) := by
  have hn := hl.1
  have hb := hl.2.1
  rw [LIM_eq] at hb
  refine calls_intro (args := [_]) w.heap.size Go.Proofs.Tryz.func75 rfl Go.Proofs.Tryz.ntmps75 (by simp) (Nat.le_refl _) ?_
  (repeat' (first | refine G0 ?_ | refine sst_box rfl rfl rfl rfl rfl (fun b hb hlt => ?_) | refine sst_alloc tb_ok rfl rfl rfl EV (fun b hb hlt => ?_)))
  refine sst_guard rfl rfl rfl (fun h1 => ?_) (fun h1 => ?_)
  · (repeat' (first | refine G0 ?_ | refine sst_box rfl rfl rfl rfl rfl (fun b hb hlt => ?_) | refine sst_alloc tb_ok rfl rfl rfl EV (fun b hb hlt => ?_)))
    refine sq_ret tb_ok rfl EV (fun w' hk hr => ?_)
    refine ⟨_, rfl, hk, ?_⟩
    have : ¬ 1 ≤ l.length := by simp at h1; omega
    simp [oneOr, pathB, this]
  (repeat' (first | refine G0 ?_ | refine sst_box rfl rfl rfl rfl rfl (fun b hb hlt => ?_) | refine sst_alloc tb_ok rfl rfl rfl EV (fun b hb hlt => ?_)))
  refine swp_if rfl (fun h2 => ?_) (fun h2 => ?_)
  · (repeat' (first | refine G0 ?_ | refine sst_box rfl rfl rfl rfl rfl (fun b hb hlt => ?_) | refine sst_alloc tb_ok rfl rfl rfl EV (fun b hb hlt => ?_)))
    refine sq_ret tb_ok rfl EV (fun w' hk hr => ?_)
    refine ⟨_, rfl, hk, ?_⟩
    have : ¬ l.length ≤ 16 := by simp at h2; omega
    simp [oneOr, pathB, this]
  (repeat' (first | refine G0 ?_ | refine sst_box rfl rfl rfl rfl rfl (fun b hb hlt => ?_) | refine sst_alloc tb_ok rfl rfl rfl EV (fun b hb hlt => ?_)))
  refine swp_loop (X := World × Nat) (fun x => Kp No w x.1 ∧ x.2 ≤ n ∧ ((l.take x.2).all fun s => nameB s.data.toList) = true)
    (fun x => ⟨24, [(3, .val (.int .i64 (x.2 : Int))), (0, .val (.slice A n c))], [], [], w.heap.size, x.1, No⟩) (fun x => n - x.2) ?_ ?_
  · intro w1 h1
    refine ⟨(w1, 0), ⟨h1.kp, Nat.zero_le _, by simp⟩, ?_⟩
    (refine WKmk ?_; try trivial)
  rintro ⟨w1, i⟩ ⟨hk1, hi, hall⟩
  simp only at hk1 hi hall
  (repeat' (first | refine G0 ?_ | refine sst_box rfl rfl rfl rfl rfl (fun b hb hlt => ?_) | refine sst_alloc tb_ok rfl rfl rfl EV (fun b hb hlt => ?_)))
  refine swp_if rfl (fun h4 => ?_) (fun h4 => ?_)
  · have hi : i < n := by simp at h4; omega
    obtain ⟨s, hs⟩ := get_of_lt (l := l) (i := i) (by omega)
    obtain ⟨b, off, rfl, hSb, _, hcell, hsz⟩ := hl.get hs
    (repeat' (first | refine G0 ?_ | refine sst_box rfl rfl rfl rfl rfl (fun b hb hlt => ?_) | refine sst_alloc tb_ok rfl rfl rfl EV (fun b hb hlt => ?_)))
    refine sst_quiet rfl rfl (q_index tb_ok rfl el_22 rfl rfl i rfl hi) ?_
    (repeat' (first | refine G0 ?_ | refine sst_box rfl rfl rfl rfl rfl (fun b hb hlt => ?_) | refine sst_alloc tb_ok rfl rfl rfl EV (fun b hb hlt => ?_)))
    refine sst_quiet rfl rfl (q_far_one tb_ok rfl sz_9 rfl id (by rw [Nat.mul_one]; exact hk1.cell hcell id)) ?_
    (repeat' (first | refine G0 ?_ | refine sst_box rfl rfl rfl rfl rfl (fun b hb hlt => ?_) | refine sst_alloc tb_ok rfl rfl rfl EV (fun b hb hlt => ?_)))
    refine sst_call tb_ok rfl rfl rfl rfl rfl EV AP (fun v _ _ => v = .bool (nameB s.data.toList)) ?_ ?_
    · exact fun w1 h1 => c76 s hsz w1
    rintro v w2 w3 h2 hk3 rfl
    (repeat' (first | refine G0 ?_ | refine sst_box rfl rfl rfl rfl rfl (fun b hb hlt => ?_) | refine sst_alloc tb_ok rfl rfl rfl EV (fun b hb hlt => ?_)))
    refine swp_if rfl (fun h5 => ?_) (fun h5 => ?_)
    · (repeat' (first | refine G0 ?_ | refine sst_box rfl rfl rfl rfl rfl (fun b hb hlt => ?_) | refine sst_alloc tb_ok rfl rfl rfl EV (fun b hb hlt => ?_)))
      refine sq_ret tb_ok rfl EV (fun w' hk hr => ?_)
      refine ⟨_, rfl, ((hk1.then h2.kp).then hk3).then hk, ?_⟩
      have := all_false (p := fun s : ByteArray => nameB s.data.toList) (List.mem_of_getElem? hs) (by simpa using h5)
      simp only [oneOr, pathB, this, Bool.and_false]
    (repeat' (first | refine G0 ?_ | refine sst_box rfl rfl rfl rfl rfl (fun b hb hlt => ?_) | refine sst_alloc tb_ok rfl rfl rfl EV (fun b hb hlt => ?_)))
    refine sq_next fun w4 h4 => ?_
    refine ⟨(w4, i + 1), ⟨((hk1.then h2.kp).then hk3).then h4.kp, by simp; omega, ?_⟩, by simp; omega, ?_⟩
    · simp only
      rw [take_snoc hs, List.all_append, hall]
      simp at h5
      simp [h5]
    · (refine WKmk ?_; try trivial)
      rw [wr_small (by omega)]
      simp
  · (repeat' (first | refine G0 ?_ | refine sst_box rfl rfl rfl rfl rfl (fun b hb hlt => ?_) | refine sst_alloc tb_ok rfl rfl rfl EV (fun b hb hlt => ?_)))
    refine sq_ret tb_ok rfl EV (fun w' hk hr => ?_)
    refine ⟨_, rfl, hk1.then hk, ?_⟩
    have : i = l.length := by simp at h4; omega
    rw [this, List.take_length] at hall
    have h5 : 1 ≤ l.length := by simp at h1; omega
    have h6 : l.length ≤ 16 := by simp at h2; omega
    simp only [oneOr, pathB, hall, h5, h6, decide_true, Bool.and_self]
end Go.Fw

set_option linter.unusedVariables false
set_option linter.unusedSimpArgs false
set_option maxRecDepth 10000
set_option maxHeartbeats 2000000
namespace Go.Fw
open Go
attribute [local irreducible] SWp SQ SSeq SSt Quiet Next Meet

def digit (c : UInt8) : Bool := decide (48 ≤ c.toNat) && decide (c.toNat ≤ 57)
def numStep (n : Nat) (c : UInt8) : Nat := 10 * n + (c.toNat - 48)
def numV (l : List UInt8) : Nat := l.foldl numStep 0
def numB (l : List UInt8) : Option Nat :=
  if (l == []) || decide (4 < l.length) || ((l.head? == some 48) && decide (1 < l.length)) then none else if l.all digit then some (numV l) else none

theorem numV_bound : ∀ (l : List UInt8) (n0 : Nat), l.all digit = true → l.foldl numStep n0 + 1 ≤ (n0 + 1) * 10 ^ l.length
  | [], n0, _ => by simp
  | c :: l, n0, h => by
    simp only [List.all_cons, Bool.and_eq_true] at h
    have hc : c.toNat ≤ 57 := by have := h.1; simp [digit] at this; omega
    have ih := numV_bound l (numStep n0 c) h.2
    simp only [List.foldl_cons, List.length_cons]
    refine Nat.le_trans ih ?_
    rw [Nat.pow_succ, Nat.mul_comm (10 ^ l.length) 10, ← Nat.mul_assoc]
    refine Nat.mul_le_mul_right _ ?_
    unfold numStep; omega

theorem numV_lt {l : List UInt8} (h : l.all digit = true) (h4 : l.length ≤ 4) : numV l ≤ 9999 := by
  have := numV_bound l 0 h
  have h2 : 10 ^ l.length ≤ 10 ^ 4 := Nat.pow_le_pow_right (by omega) h4
  unfold numV
  simp only [Nat.zero_add, Nat.one_mul] at this
  omega

theorem Fits.forget {s : Sym} {a : Act} {w : World} (hf : Fits s a w) {t : Nat} {b : Bool} (ht : look s.env t = some (.val (.bool b))) : Fits { s with env := (t, .sb b) :: s.env } a w := by
  refine ⟨hf.size, hf.defers, ?_, ?_, hf.kp, hf.loc, hf.row, hf.dist, hf.lb, hf.fresh, hf.rfresh⟩
  · intro t' sv ht'
    simp only [look] at ht'
    split at ht'
    · rename_i htt
      subst htt
      obtain rfl := Option.some.inj ht'
      have h3 := hf.env t _ ht
      exact h3
    · exact hf.env t' sv ht'
  · intro t' i off ht'
    simp only [look] at ht'
    split at ht'
    · cases ht'
    · exact hf.wf t' i off ht'

theorem sq_forget {e : Exit} {s : Sym} {Q : Exit → Act → World → Prop} {t : Nat} (b : Bool) (ht : look s.env t = some (.val (.bool b))) (h : SQ Q e { s with env := (t, .sb b) :: s.env }) : SQ Q e s :=
  by unfold SQ at *; exact fun a w hf => h a w (hf.forget ht)

def numBad (s : ByteArray) : Bool := (s.data.toList == []) || decide (4 < s.data.toList.length) || ((s.data.toList.head? == some 48) && decide (1 < s.data.toList.length))

theorem numB_bad (s : ByteArray) (h : numBad s = true) : numB s.data.toList = none := by
  unfold numBad at h; unfold numB; rw [h]; rfl
theorem numB_good (s : ByteArray) (h : numBad s = false) : numB s.data.toList = if s.data.toList.all digit then some (numV s.data.toList) else none := by
  unfold numBad at h; unfold numB; rw [h]; rfl

theorem wr_u8 {x : Int} (h : 0 ≤ x ∧ x ≤ 255) : wr .u8 x = x := IntWalk.u8_in _ h

theorem c179 (s : ByteArray) (hs : s.size ≤ LIM) (w : World) : Calls Go.Proofs.Tryz.prog 179 #[.string s] w fun e w2 => ∃ v, e = .returned v ∧ Kp No w w2 ∧ v = .tuple #[.int .i64 (((numB s.data.toList).getD 0 : Nat) : Int), .bool (numB s.data.toList).isSome] := by
  rw [LIM_eq] at hs
  have hsz := size_len s
  refine calls_intro (args := [_]) w.heap.size Go.Proofs.Tryz.func179 rfl Go.Proofs.Tryz.ntmps179 (by simp) (Nat.le_refl _) ?_
  (refine swp_seq ?_; refine swp_region ?_; (repeat' (first | refine Gr ?_ | refine sst_box rfl rfl rfl rfl rfl (fun b hb hlt => ?_) | refine sst_alloc tb_ok rfl rfl rfl EV (fun b hb hlt => ?_))))
  refine swp_seq ?_
  refine swp_meet (s' := ⟨46, [(23, .sb (numBad s)), (0, .val (.string s))], [], [], w.heap.size, w, No⟩) ?_ ?_
  · (repeat' (first | refine G0 ?_ | refine sst_box rfl rfl rfl rfl rfl (fun b hb hlt => ?_) | refine sst_alloc tb_ok rfl rfl rfl EV (fun b hb hlt => ?_)))
    refine sst_guard rfl rfl rfl (fun h1 => ?_) (fun h1 => ?_)
    · (repeat' (first | refine G0 ?_ | refine sst_box rfl rfl rfl rfl rfl (fun b hb hlt => ?_) | refine sst_alloc tb_ok rfl rfl rfl EV (fun b hb hlt => ?_)))
      have hb : numBad s = true := by simp [numBad] at h1 ⊢; simp [h1]
      rw [hb]
      refine sq_forget (t := 23) true rfl (sq_meet ?_)
      (refine WKmk ?_; try trivial)
    (repeat' (first | refine G0 ?_ | refine sst_box rfl rfl rfl rfl rfl (fun b hb hlt => ?_) | refine sst_alloc tb_ok rfl rfl rfl EV (fun b hb hlt => ?_)))
    refine sst_guard rfl rfl rfl (fun h2 => ?_) (fun h2 => ?_)
    · (repeat' (first | refine G0 ?_ | refine sst_box rfl rfl rfl rfl rfl (fun b hb hlt => ?_) | refine sst_alloc tb_ok rfl rfl rfl EV (fun b hb hlt => ?_)))
      have hb : numBad s = true := by simp [numBad] at h2 ⊢; omega
      rw [hb]
      refine sq_forget (t := 23) true rfl (sq_meet ?_)
      (refine WKmk ?_; try trivial)
    obtain ⟨c0, r0, hl⟩ : ∃ c r, s.data.toList = c :: r := by
      cases hl : s.data.toList with
      | nil => simp [hl] at h1
      | cons c r => exact ⟨c, r, rfl⟩
    (repeat' (first | refine G0 ?_ | refine sst_box rfl rfl rfl rfl rfl (fun b hb hlt => ?_) | refine sst_alloc tb_ok rfl rfl rfl EV (fun b hb hlt => ?_)))
    refine sst_quiet rfl rfl (q_strIndex tb_ok rfl str_9 rfl rfl 0 rfl (c := c0) (by simp [hl])) ?_
    (repeat' (first | refine G0 ?_ | refine sst_box rfl rfl rfl rfl rfl (fun b hb hlt => ?_) | refine sst_alloc tb_ok rfl rfl rfl EV (fun b hb hlt => ?_)))
    refine sst_guard rfl rfl rfl (fun h3 => ?_) (fun h3 => ?_)
    · (repeat' (first | refine G0 ?_ | refine sst_box rfl rfl rfl rfl rfl (fun b hb hlt => ?_) | refine sst_alloc tb_ok rfl rfl rfl EV (fun b hb hlt => ?_)))
      have hb : numBad s = decide ((1 : Int) < (s.size : Int)) := by
        have hlen : s.size = r0.length + 1 := by rw [hsz, hl]; simp
        simp at h2 h3
        unfold numBad
        rw [hl, hlen]
        have h3' : c0 = 48 := by apply UInt8.toNat_inj.1; simp; omega
        subst h3'
        cases r0 with
        | nil => rfl
        | cons c1 r1 =>
          have h5 : ((1 : Int) < ((c1 :: r1).length + 1 : Nat)) := by simp; omega
          have h6 : ¬ 4 < (48 :: c1 :: r1).length := by rw [← hl, ← hsz]; omega
          simp only [h5, h6, decide_true, decide_false]
          simp
      rw [hb]
      refine sq_meet ?_
      (refine WKmk ?_; try trivial)
    · (repeat' (first | refine G0 ?_ | refine sst_box rfl rfl rfl rfl rfl (fun b hb hlt => ?_) | refine sst_alloc tb_ok rfl rfl rfl EV (fun b hb hlt => ?_)))
      have hb : numBad s = false := by
        have hlen : s.size = r0.length + 1 := by rw [hsz, hl]; simp
        simp at h2 h3
        unfold numBad
        rw [hl]
        have h3' : c0 ≠ 48 := by rintro rfl; simp at h3
        simp [h3']
        omega
      rw [hb]
      refine sq_forget (t := 23) false rfl (sq_meet ?_)
      (refine WKmk ?_; try trivial)
  refine swp_if rfl (fun hb => ?_) (fun hb => ?_)
  · (repeat' (first | refine G0 ?_ | refine sst_box rfl rfl rfl rfl rfl (fun b hb hlt => ?_) | refine sst_alloc tb_ok rfl rfl rfl EV (fun b hb hlt => ?_)))
    refine sq_ret tb_ok rfl EV (fun w' hk hr => ?_)
    refine ⟨_, rfl, hk, ?_⟩
    rw [numB_bad s hb]; rfl
  have hg := numB_good s hb
  have h4 : s.data.toList.length ≤ 4 := by
    unfold numBad at hb; simp at hb; omega
  (repeat' (first | refine G0 ?_ | refine sst_box rfl rfl rfl rfl rfl (fun b hb hlt => ?_) | refine sst_alloc tb_ok rfl rfl rfl EV (fun b hb hlt => ?_)))
  refine swp_loop (X := World × Nat) (fun x => Kp No w x.1 ∧ x.2 ≤ s.size ∧ (s.data.toList.take x.2).all digit = true)
    (fun x => ⟨46, [(26, .val (.int .i64 (x.2 : Int))), (25, .val (.int .i64 (s.size : Int))), (4, .val (.int .i64 ((numV (s.data.toList.take x.2) : Nat) : Int))), (0, .val (.string s))], [], [], w.heap.size, x.1, No⟩) (fun x => s.size - x.2) ?_ ?_
  · intro w1 h1
    refine ⟨(w1, 0), ⟨h1.kp, Nat.zero_le _, by simp⟩, ?_⟩
    simp only [List.take_zero, numV, List.foldl_nil]
    (refine WKmk ?_; try trivial)
  rintro ⟨w1, i⟩ ⟨hk1, hi, hall⟩
  simp only at hk1 hi hall
  (repeat' (first | refine G0 ?_ | refine sst_box rfl rfl rfl rfl rfl (fun b hb hlt => ?_) | refine sst_alloc tb_ok rfl rfl rfl EV (fun b hb hlt => ?_)))
  refine swp_if rfl (fun h5 => ?_) (fun h5 => ?_)
  · have hi : i < s.size := by simp at h5; omega
    obtain ⟨c, hc⟩ := get_of_lt (l := s.data.toList) (i := i) (by omega)
    have hv : numV (s.data.toList.take (i + 1)) = numStep (numV (s.data.toList.take i)) c := by
      rw [take_snoc hc]; simp [numV]
    (repeat' (first | refine G0 ?_ | refine sst_box rfl rfl rfl rfl rfl (fun b hb hlt => ?_) | refine sst_alloc tb_ok rfl rfl rfl EV (fun b hb hlt => ?_)))
    refine sst_quiet rfl rfl (q_strIndex tb_ok rfl str_9 rfl rfl i rfl (c := c) hc) ?_
    (repeat' (first | refine G0 ?_ | refine sst_box rfl rfl rfl rfl rfl (fun b hb hlt => ?_) | refine sst_alloc tb_ok rfl rfl rfl EV (fun b hb hlt => ?_)))
    have hlt : numV (s.data.toList.take i) ≤ 9999 := numV_lt hall (by rw [List.length_take]; omega)
    have hbad : digit c = false → ∀ w' w'', Kp No w w' → Kp No w' w'' → ∃ v, Ending.returned (oneOr [Value.int .i64 0, .bool false]) = .returned v ∧ Kp No w w'' ∧ v = .tuple #[.int .i64 (((numB s.data.toList).getD 0 : Nat) : Int), .bool (numB s.data.toList).isSome] := by
      intro hd w' w'' h1 h2
      refine ⟨_, rfl, h1.then h2, ?_⟩
      rw [hg, all_false (List.mem_of_getElem? hc) hd]
      rfl
    refine sst_guard rfl rfl rfl (fun h6 => ?_) (fun h6 => ?_)
    · (repeat' (first | refine G0 ?_ | refine sst_box rfl rfl rfl rfl rfl (fun b hb hlt => ?_) | refine sst_alloc tb_ok rfl rfl rfl EV (fun b hb hlt => ?_)))
      refine sq_ret tb_ok rfl EV (fun w' hk hr => ?_)
      exact hbad (by simp at h6; simp [digit]; omega) _ _ hk1 hk
    (repeat' (first | refine G0 ?_ | refine sst_box rfl rfl rfl rfl rfl (fun b hb hlt => ?_) | refine sst_alloc tb_ok rfl rfl rfl EV (fun b hb hlt => ?_)))
    refine swp_if rfl (fun h7 => ?_) (fun h7 => ?_)
    · (repeat' (first | refine G0 ?_ | refine sst_box rfl rfl rfl rfl rfl (fun b hb hlt => ?_) | refine sst_alloc tb_ok rfl rfl rfl EV (fun b hb hlt => ?_)))
      refine sq_ret tb_ok rfl EV (fun w' hk hr => ?_)
      exact hbad (by simp at h7; simp [digit]; omega) _ _ hk1 hk
    (repeat' (first | refine G0 ?_ | refine sst_box rfl rfl rfl rfl rfl (fun b hb hlt => ?_) | refine sst_alloc tb_ok rfl rfl rfl EV (fun b hb hlt => ?_)))
    have hd : digit c = true := by simp at h6 h7; simp [digit]; omega
    have hc9 : 48 ≤ c.toNat ∧ c.toNat ≤ 57 := by simpa [digit] using hd
    have hv4 : wr .i64 (wr .i64 (10 * ((numV (s.data.toList.take i) : Nat) : Int)) + wr .i64 (wr .u8 ((c.toNat : Int) - 48))) = ((numV (s.data.toList.take (i + 1)) : Nat) : Int) := by
      rw [hv, wr_u8 (x := (c.toNat : Int) - 48) (by omega), wr_small (x := (c.toNat : Int) - 48) (by omega), wr_small (x := 10 * _) (by omega), wr_small (by omega)]
      unfold numStep
      omega
    refine sq_next fun w4 h4 => ?_
    refine ⟨(w4, i + 1), ⟨hk1.then h4.kp, by simp; omega, ?_⟩, by simp; omega, ?_⟩
    · simp only
      rw [take_snoc hc, List.all_append, hall]
      simp [hd]
    · (refine WKmk ?_; try trivial)
      rw [wr_small (x := (i : Int) + 1) (by omega), hv4]
      simp
  · (repeat' (first | refine G0 ?_ | refine sst_box rfl rfl rfl rfl rfl (fun b hb hlt => ?_) | refine sst_alloc tb_ok rfl rfl rfl EV (fun b hb hlt => ?_)))
    refine sq_ret tb_ok rfl EV (fun w' hk hr => ?_)
    refine ⟨_, rfl, hk1.then hk, ?_⟩
    have : i = s.data.toList.length := by simp at h5; omega
    rw [this, List.take_length] at hall
    rw [this, List.take_length, hg, hall]
    rfl

def optI (o : Option Nat) : Int := match o with | some k => (k : Int) | none => -1
def fieldO (d : List (ByteArray × Val)) (s : ByteArray) : Option Nat := d.findIdx? fun f => f.1.data.toList == s.data.toList
def elemO (l : List Val) (s : ByteArray) : Option Nat := match numB s.data.toList with | some k => if k < l.length then some k else none | none => none

theorem c126 (d : List (ByteArray × Val)) (s : ByteArray) (S : Nat → Prop) (w : World) (A : Option Addr) (n c : Nat) (hd : RepD S w A n c d) : Calls Go.Proofs.Tryz.prog 126 #[.slice A n c, .string s] w fun e w2 => ∃ v, e = .returned v ∧ Kp No w w2 ∧ v = .int .i64 (optI (fieldO d s)) := by
  have hn := hd.1
  have hb := hd.2.1
  rw [LIM_eq] at hb
  refine calls_intro (args := [_, _]) w.heap.size Go.Proofs.Tryz.func126 rfl Go.Proofs.Tryz.ntmps126 (by simp) (Nat.le_refl _) ?_
  (repeat' (first | refine G0 ?_ | refine sst_box rfl rfl rfl rfl rfl (fun b hb hlt => ?_) | refine sst_alloc tb_ok rfl rfl rfl EV (fun b hb hlt => ?_)))
  refine swp_loop (X := World × Nat) (fun x => Kp No w x.1 ∧ x.2 ≤ n ∧ ∀ (j : Nat) f, j < x.2 → d[j]? = some f → (f.1.data.toList == s.data.toList) = false)
    (fun x => ⟨20, [(9, .val (.int .i64 (x.2 : Int))), (8, .val (.int .i64 (n : Int))), (7, .val (.slice A n c)), (1, .val (.string s))], [], [], w.heap.size, x.1, No⟩) (fun x => n - x.2) ?_ ?_
  · intro w1 h1
    refine ⟨(w1, 0), ⟨h1.kp, Nat.zero_le _, by simp⟩, ?_⟩
    (refine WKmk ?_; try trivial)
  rintro ⟨w1, i⟩ ⟨hk1, hi, hall⟩
  simp only at hk1 hi hall
  (repeat' (first | refine G0 ?_ | refine sst_box rfl rfl rfl rfl rfl (fun b hb hlt => ?_) | refine sst_alloc tb_ok rfl rfl rfl EV (fun b hb hlt => ?_)))
  refine swp_if rfl (fun h4 => ?_) (fun h4 => ?_)
  · have hi : i < n := by simp at h4; omega
    obtain ⟨f, hf⟩ := get_of_lt (l := d) (i := i) (by omega)
    obtain ⟨b, off, cs, rfl, hSb, hin, hcl, hrow, hrf, hfs⟩ := hd.get hf
    obtain ⟨B1, m1, B2, m2, rfl, -⟩ := hrf.parts
    (repeat' (first | refine G0 ?_ | refine sst_box rfl rfl rfl rfl rfl (fun b hb hlt => ?_) | refine sst_alloc tb_ok rfl rfl rfl EV (fun b hb hlt => ?_)))
    refine sst_quiet rfl rfl (q_index tb_ok rfl el_24 rfl rfl i rfl hi) ?_
    (repeat' (first | refine G0 ?_ | refine sst_box rfl rfl rfl rfl rfl (fun b hb hlt => ?_) | refine sst_alloc tb_ok rfl rfl rfl EV (fun b hb hlt => ?_)))
    refine sst_quiet rfl rfl (q_far_agg tb_ok rfl sz_114 rfl id (by rfl) (hrow.kp hk1 id)) ?_
    (repeat' (first | refine G0 ?_ | refine sst_box rfl rfl rfl rfl rfl (fun b hb hlt => ?_) | refine sst_alloc tb_ok rfl rfl rfl EV (fun b hb hlt => ?_)))

    refine swp_if rfl (fun h5 => ?_) (fun h5 => ?_)
    · (repeat' (first | refine G0 ?_ | refine sst_box rfl rfl rfl rfl rfl (fun b hb hlt => ?_) | refine sst_alloc tb_ok rfl rfl rfl EV (fun b hb hlt => ?_)))
      refine sq_ret tb_ok rfl EV (fun w' hk hr => ?_)
      refine ⟨_, rfl, hk1.then hk, ?_⟩
      have : fieldO d s = some i := by
        unfold fieldO
        rw [List.findIdx?_eq_some_iff_getElem]
        refine ⟨by omega, ?_, fun j hj => ?_⟩
        · rw [(List.getElem?_eq_some_iff.1 hf).2]; exact h5
        · rw [hall j _ hj (List.getElem?_eq_getElem (by omega))]; simp
      rw [this]; rfl
    (repeat' (first | refine G0 ?_ | refine sst_box rfl rfl rfl rfl rfl (fun b hb hlt => ?_) | refine sst_alloc tb_ok rfl rfl rfl EV (fun b hb hlt => ?_)))
    refine sq_next fun w4 h4 => ?_
    refine ⟨(w4, i + 1), ⟨hk1.then h4.kp, by simp; omega, ?_⟩, by simp; omega, ?_⟩
    · intro j g hj hg
      by_cases hji : j = i
      · subst hji
        rw [hf] at hg
        obtain rfl := Option.some.inj hg
        exact h5
      · exact hall j g (by simp at hj; omega) hg
    · (refine WKmk ?_; try trivial)
      rw [wr_small (by omega)]
      simp
  · (repeat' (first | refine G0 ?_ | refine sst_box rfl rfl rfl rfl rfl (fun b hb hlt => ?_) | refine sst_alloc tb_ok rfl rfl rfl EV (fun b hb hlt => ?_)))
    refine sq_ret tb_ok rfl EV (fun w' hk hr => ?_)
    refine ⟨_, rfl, hk1.then hk, ?_⟩
    have hin : i = n := by simp at h4; omega
    have : fieldO d s = none := by
      unfold fieldO
      rw [List.findIdx?_eq_none_iff]
      intro x hx
      obtain ⟨j, hj⟩ := List.mem_iff_getElem?.1 hx
      have := (List.getElem?_eq_some_iff.1 hj).1
      exact hall j x (by omega) hj
    rw [this]; rfl

theorem c127 (l : List Val) (s : ByteArray) (hs : s.size ≤ LIM) (S : Nat → Prop) (w : World) (A : Option Addr) (n c : Nat) (hl : RepS S w A n c l) : Calls Go.Proofs.Tryz.prog 127 #[.slice A n c, .string s] w fun e w2 => ∃ v, e = .returned v ∧ Kp No w w2 ∧ v = .int .i64 (optI (elemO l s)) := by
  have hn := hl.1
  have hb := hl.2.1
  rw [LIM_eq] at hb
  refine calls_intro (args := [_, _]) w.heap.size Go.Proofs.Tryz.func127 rfl Go.Proofs.Tryz.ntmps127 (by simp) (Nat.le_refl _) ?_
  (repeat' (first | refine G0 ?_ | refine sst_box rfl rfl rfl rfl rfl (fun b hb hlt => ?_) | refine sst_alloc tb_ok rfl rfl rfl EV (fun b hb hlt => ?_)))
  refine sst_call tb_ok rfl rfl rfl rfl rfl EV AP (fun v _ _ => v = .tuple #[.int .i64 (((numB s.data.toList).getD 0 : Nat) : Int), .bool (numB s.data.toList).isSome]) ?_ ?_
  · exact fun w1 h1 => c179 s hs w1
  rintro v w2 w3 h2 hk3 rfl
  have hkk := h2.kp.then hk3
  (repeat' (first | refine G0 ?_ | refine sst_box rfl rfl rfl rfl rfl (fun b hb hlt => ?_) | refine sst_alloc tb_ok rfl rfl rfl EV (fun b hb hlt => ?_)))
  refine sst_guard rfl rfl rfl (fun h1 => ?_) (fun h1 => ?_)
  · obtain ⟨k, hk1⟩ := Option.isSome_iff_exists.1 h1
    rw [hk1]
    (repeat' (first | refine G0 ?_ | refine sst_box rfl rfl rfl rfl rfl (fun b hb hlt => ?_) | refine sst_alloc tb_ok rfl rfl rfl EV (fun b hb hlt => ?_)))
    refine swp_if rfl (fun h2 => ?_) (fun h2 => ?_)
    · (repeat' (first | refine G0 ?_ | refine sst_box rfl rfl rfl rfl rfl (fun b hb hlt => ?_) | refine sst_alloc tb_ok rfl rfl rfl EV (fun b hb hlt => ?_)))
      refine sq_ret tb_ok rfl EV (fun w' hk hr => ?_)
      refine ⟨_, rfl, hkk.then hk, ?_⟩
      have : k < l.length := by simp at h2; omega
      simp [elemO, hk1, this, optI, oneOr]
    · (repeat' (first | refine G0 ?_ | refine sst_box rfl rfl rfl rfl rfl (fun b hb hlt => ?_) | refine sst_alloc tb_ok rfl rfl rfl EV (fun b hb hlt => ?_)))
      refine sq_ret tb_ok rfl EV (fun w' hk hr => ?_)
      refine ⟨_, rfl, hkk.then hk, ?_⟩
      have : ¬ k < l.length := by simp at h2; omega
      simp [elemO, hk1, this, optI, oneOr]
  · have hk1 : numB s.data.toList = none := by simpa using h1
    rw [hk1]
    (repeat' (first | refine G0 ?_ | refine sst_box rfl rfl rfl rfl rfl (fun b hb hlt => ?_) | refine sst_alloc tb_ok rfl rfl rfl EV (fun b hb hlt => ?_)))
    refine sq_ret tb_ok rfl EV (fun w' hk hr => ?_)
    refine ⟨_, rfl, hkk.then hk, ?_⟩
    simp [elemO, hk1, optI, oneOr]
end Go.Fw
