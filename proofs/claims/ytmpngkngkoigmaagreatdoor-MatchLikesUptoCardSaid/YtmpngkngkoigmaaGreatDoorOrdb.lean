/- Helping lemmas for the cards of this seat's laws, of the texts: V9, W26. They state no law of their own. -/
import Derived.Test.YtmpngkngkoigmaaGreatDoorRd
import Derived.Test.YtmpngkngkoigmaaGreatDoorPos
set_option linter.unusedVariables false
set_option linter.unusedSimpArgs false
namespace Go.Fw
open Go
theorem cmpV_kinds {x y : Val} (h : x.k ≠ y.k) : cmpV x y ≠ 0 := by
  obtain ⟨k, n, t, l, d⟩ := x
  obtain ⟨k', n', t', l', d'⟩ := y
  simp only [Val.k] at h
  rw [cmpV, if_pos h]
  unfold cmpI
  split
  · decide
  · split
    · decide
    · omega
theorem any_or2 (f g : Val → Bool) : ∀ l : List Val, (l.any fun y => f y || g y) = (l.any f || l.any g)
  | [] => rfl
  | y :: l => by simp only [List.any_cons, any_or2 f g l]; cases f y <;> cases g y <;> cases l.any f <;> cases l.any g <;> rfl
theorem ord_ge {a : Val} (h : a.k ≠ 2) (y : Val) : ordF 5 a y = (ordF 4 a y || eqN y a) := by
  unfold ordF eqN eqV'
  by_cases h0 : y.k = 0
  · simp [h0, h]
  · by_cases h1 : y.k = a.k
    · simp only [h0, h1, ne_eq, not_true, false_or, or_self, if_false]
      have h0' : ¬ a.k = 0 := by rw [← h1]; exact h0
      simp only [h0', if_false]
      have e : ∀ c : Int, decide (0 ≤ c) = (decide (0 < c) || c == 0) := by
        intro c
        by_cases hc : 0 < c
        · simp [hc]; omega
        · by_cases hz : c = 0
          · subst hz; decide
          · have : ¬ 0 ≤ c := by omega
            simp [hc, hz, this]
      exact e _
    · have := cmpV_kinds h1
      simp [h0, h1, this]
theorem ord_le {a : Val} (h : a.k ≠ 2) (y : Val) : ordF 7 a y = (ordF 6 a y || eqN y a) := by
  unfold ordF eqN eqV'
  by_cases h0 : y.k = 0
  · simp [h0, h]
  · by_cases h1 : y.k = a.k
    · simp only [h0, h1, ne_eq, not_true, false_or, or_self, if_false]
      have h0' : ¬ a.k = 0 := by rw [← h1]; exact h0
      simp only [h0', if_false]
      have e : ∀ c : Int, decide (c ≤ 0) = (decide (c < 0) || c == 0) := by
        intro c
        by_cases hc : c < 0
        · simp [hc]; omega
        · by_cases hz : c = 0
          · subst hz; decide
          · have : ¬ c ≤ 0 := by omega
            simp [hc, hz, this]
      exact e _
    · have := cmpV_kinds h1
      simp [h0, h1, this]
theorem onP_ge (f : Val → Bool) (p : List ByteArray) {a : Val} (al : List Val) (n : Int) (d : Val) (h : a.k ≠ 2) : onP f 5 p a al n d = (onP f 4 p a al n d || onP f 2 p a al n d) := by
  unfold onP
  simp only [show ¬ ((5 : Int) = 10) by omega, show ¬ ((5 : Int) = 2) by omega, show ¬ ((5 : Int) = 3) by omega, show ¬ ((4 : Int) = 10) by omega, show ¬ ((4 : Int) = 2) by omega, show ¬ ((4 : Int) = 3) by omega, show ¬ ((2 : Int) = 10) by omega, if_false, if_true, or_true, true_or, reduceIte]
  rw [← any_or2]
  congr 1
  funext y
  exact ord_ge h y
theorem onP_le (f : Val → Bool) (p : List ByteArray) {a : Val} (al : List Val) (n : Int) (d : Val) (h : a.k ≠ 2) : onP f 7 p a al n d = (onP f 6 p a al n d || onP f 2 p a al n d) := by
  unfold onP
  simp only [show ¬ ((7 : Int) = 10) by omega, show ¬ ((7 : Int) = 2) by omega, show ¬ ((7 : Int) = 3) by omega, show ¬ ((6 : Int) = 10) by omega, show ¬ ((6 : Int) = 2) by omega, show ¬ ((6 : Int) = 3) by omega, show ¬ ((2 : Int) = 10) by omega, if_false, if_true, or_true, true_or, reduceIte]
  rw [← any_or2]
  congr 1
  funext y
  exact ord_le h y
end Go.Fw

set_option linter.unusedVariables false
set_option linter.unusedSimpArgs false
set_option maxRecDepth 10000
set_option maxHeartbeats 2000000
namespace Go.Fw
open Go
attribute [local irreducible] SWp SQ SSeq SSt Quiet Next Meet
attribute [local irreducible] MeetX ForkQ STr

/-- docstorelaw15.MatchOrders -/
theorem c5 (p : List ByteArray) (x d : Val) (S1 S2 S4 : Nat → Prop) (w : World) (A : Option Addr) (m c : Nat) (cx cd : List Value) (hp : RepB S1 w A m c p) (hx : RepV S2 w x cx) (hd : RepV S4 w d cd) (hn : nodesV d ≤ 1048576) :
    Calls Go.Proofs.Tryz.prog 5 #[.slice A m c, .agg cx.toArray, .agg cd.toArray] w fun e w2 => ∃ v, e = .returned v ∧ Kp No w w2 ∧ v = .bool true := by
  obtain ⟨X1, x1, X2, x2, rfl, -, -, -, -, -⟩ := hx.parts
  obtain ⟨D1, d1, D2, d2, rfl, hdk, hdn, hdt, hdl, hdd⟩ := hd.parts
  have hd : RepV S4 w (.mk 5 d.n d.t d.l d.d) _ := RepV.of (by simp [inI]) hdn hdt hdl hdd
  refine calls_intro (args := [_, _, _]) w.heap.size Go.Proofs.Tryz.func5 rfl Go.Proofs.Tryz.ntmps5 (by simp) (Nat.le_refl _) ?_
  (repeat' (first | refine G0 ?_ | refine sst_box rfl rfl rfl rfl rfl (fun b hb hlt => ?_) | refine sst_alloc tb_ok rfl rfl rfl EV (fun b hb hlt => ?_)))
  have hb7 : w.heap.size ≤ b := hb
  have hD : ∀ k, dirty No b k → w.heap.size ≤ k := by
    rintro k (rfl | h)
    · exact hb7
    · exact h.elim
  refine sst_call tb_ok rfl rfl rfl rfl rfl EV AP (fun v _ _ => ∃ b : Bool, v = .bool b ∧ (b = true → pathB p = true)) ?_ ?_
  · exact fun w1 h1 => c21_2 p _ S1 S2 S4 x A X1 X2 m c x1 x2 w1 _ (hp.kp h1.kp) (hx.kp h1.kp) (hd.kp h1.kp)
  rintro v w1 w2 h1 hk2 ⟨b1, rfl, hb1⟩
  have hk2 : Kp No w w2 := h1.kp.then hk2
  cases b1 with
  | false =>
    (repeat' (first | refine Gk ?_ | refine sst_box rfl rfl rfl rfl rfl (fun b hb hlt => ?_) | refine sst_alloc tb_ok rfl rfl rfl EV (fun b hb hlt => ?_)))
    refine sst_call tb_ok rfl rfl rfl rfl rfl EV AP (fun v _ _ => v = .bool true) ?_ ?_
    · exact fun w3 h3 => c22 w3
    rintro v w3 w4 h3 hk4 rfl
    (repeat' (first | refine Gk ?_ | refine sst_box rfl rfl rfl rfl rfl (fun b hb hlt => ?_) | refine sst_alloc tb_ok rfl rfl rfl EV (fun b hb hlt => ?_)))
    refine sq_ret tb_ok rfl EV (fun w' hk hr => ?_)
    exact ⟨_, rfl, ((hk2.then h3.kp).then hk4).then hk, rfl⟩
  | true =>
  have hpb := hb1 rfl
  have hlim := leaves_doc hn hpb
  (repeat' (first | refine Gk ?_ | refine sst_box rfl rfl rfl rfl rfl (fun b hb hlt => ?_) | refine sst_alloc tb_ok rfl rfl rfl EV (fun b hb hlt => ?_)))
  refine swp_if rfl (fun h => ?_) (fun h => ?_)
  · (repeat' (first | refine Gk ?_ | refine sst_box rfl rfl rfl rfl rfl (fun b hb hlt => ?_) | refine sst_alloc tb_ok rfl rfl rfl EV (fun b hb hlt => ?_)))
    refine sst_call tb_ok rfl rfl rfl rfl rfl EV AP (fun v _ _ => v = .bool true) ?_ ?_
    · exact fun w3 h3 => c22 w3
    rintro v w3 w4 h3 hk4 rfl
    (repeat' (first | refine Gk ?_ | refine sst_box rfl rfl rfl rfl rfl (fun b hb hlt => ?_) | refine sst_alloc tb_ok rfl rfl rfl EV (fun b hb hlt => ?_)))
    refine sq_ret tb_ok rfl EV (fun w' hk hr => ?_)
    exact ⟨_, rfl, ((hk2.then h3.kp).then hk4).then hk, rfl⟩
  have hxk : x.k ≠ 2 := by simpa using h
  generalize hDv : Val.mk 5 d.n d.t d.l d.d = Dv at hd hlim
  have hDk : (Dv.k == 5) = true := by rw [← hDv]; rfl
  obtain ⟨eq, heq⟩ : ∃ a, onP (fun _ => false) 2 p x [] 0 Dv = a := ⟨_, rfl⟩
  obtain ⟨gt, hgt⟩ : ∃ a, onP (fun _ => false) 4 p x [] 0 Dv = a := ⟨_, rfl⟩
  obtain ⟨lt, hlt⟩ : ∃ a, onP (fun _ => false) 6 p x [] 0 Dv = a := ⟨_, rfl⟩
  have hge : onP (fun _ => false) 5 p x [] 0 Dv = (gt || eq) := by rw [← heq, ← hgt]; exact onP_ge _ _ _ _ _ hxk
  have hle : onP (fun _ => false) 7 p x [] 0 Dv = (lt || eq) := by rw [← heq, ← hlt]; exact onP_le _ _ _ _ _ hxk
  have go : ∀ (op : Int) (a : Val) (al : List Val) (n : Int) (w1 : World) (cs : List Value) (r : Bool), PL (fun _ => True) w1 op p a al n cs → Kp No w w1 → opOK op → ¬ (op ≠ 10 ∧ ¬ (2 ≤ op ∧ op ≤ 9) ∧ op ≠ 14) → onP (fun _ => false) op p a al n Dv = r →
      Calls Go.Proofs.Tryz.prog 23 #[.agg cs.toArray, .agg #[.int .i64 5, .int .i64 d.n, .string d.t, .slice D1 d.l.length d1, .slice D2 d.d.length d2]] w1 fun e w2 => ∃ v, e = .returned v ∧ Kp No w1 w2 ∧ v = .bool r := by
    intro op a al n w1 cs r hP hk hop hno he
    have := c23 Dv (fun _ => false) op p a al n (fun _ => True) S4 w1 cs _ hP (hd.kp hk) hlim hop (fun h => absurd h hno)
    rw [hDk, he, Bool.true_and] at this
    exact this
  (repeat' (first | refine Gk ?_ | refine sst_box rfl rfl rfl rfl rfl (fun b hb hlt => ?_) | refine sst_alloc tb_ok rfl rfl rfl EV (fun b hb hlt => ?_)))
  refine sst_call tb_ok rfl rfl rfl rfl rfl EV AP (fun v _ _ => v = .bool eq) ?_ ?_
  · exact fun w5 h5 => go 2 x [] 0 w5 _ _ (pred_arg (hp.kp (hk2.then h5.kp)) (hx.kp (hk2.then h5.kp))) (hk2.then h5.kp) (by unfold opOK; omega) (by omega) heq
  rintro v w5 w6 h5 hk6 rfl
  have hk6 : Kp No w w6 := (hk2.then h5.kp).then hk6
  (repeat' (first | refine Gk ?_ | refine sst_box rfl rfl rfl rfl rfl (fun b hb hlt => ?_) | refine sst_alloc tb_ok rfl rfl rfl EV (fun b hb hlt => ?_)))
  refine sst_call tb_ok rfl rfl rfl rfl rfl EV AP (fun v _ _ => v = .bool gt) ?_ ?_
  · exact fun w7 h7 => go 4 x [] 0 w7 _ _ (pred_arg (hp.kp (hk6.thenNew h7.kp hD)) (hx.kp (hk6.thenNew h7.kp hD))) (hk6.thenNew h7.kp hD) (by unfold opOK; omega) (by omega) hgt
  rintro v w7 w8 h7 hk8 rfl
  have hk8 : Kp No w w8 := (hk6.thenNew h7.kp hD).then hk8
  (repeat' (first | refine Gk ?_ | refine sst_box rfl rfl rfl rfl rfl (fun b hb hlt => ?_) | refine sst_alloc tb_ok rfl rfl rfl EV (fun b hb hlt => ?_)))
  refine sst_call tb_ok rfl rfl rfl rfl rfl EV AP (fun v _ _ => v = .bool lt) ?_ ?_
  · exact fun w7 h7 => go 6 x [] 0 w7 _ _ (pred_arg (hp.kp (hk8.thenNew h7.kp hD)) (hx.kp (hk8.thenNew h7.kp hD))) (hk8.thenNew h7.kp hD) (by unfold opOK; omega) (by omega) hlt
  rintro v w9 w10 h9 hk10 rfl
  have hk10 : Kp No w w10 := (hk8.thenNew h9.kp hD).then hk10
  (repeat' (first | refine Gk ?_ | refine sst_box rfl rfl rfl rfl rfl (fun b hb hlt => ?_) | refine sst_alloc tb_ok rfl rfl rfl EV (fun b hb hlt => ?_)))
  refine sst_call tb_ok rfl rfl rfl rfl rfl EV AP (fun v _ _ => v = .bool (gt || eq)) ?_ ?_
  · exact fun w7 h7 => go 5 x [] 0 w7 _ _ (pred_arg (hp.kp (hk10.thenNew h7.kp hD)) (hx.kp (hk10.thenNew h7.kp hD))) (hk10.thenNew h7.kp hD) (by unfold opOK; omega) (by omega) hge
  rintro v w11 w12 h11 hk12 rfl
  have hk12 : Kp No w w12 := (hk10.thenNew h11.kp hD).then hk12
  obtain ⟨le, hle2⟩ : ∃ le, le = (lt || eq) := ⟨_, rfl⟩
  rw [← hle2] at hle
  clear hgt hlt heq hge
  cases eq <;> cases gt
  all_goals
    (repeat' (first | refine Gk ?_ | refine sst_box rfl rfl rfl rfl rfl (fun b hb hlt => ?_) | refine sst_alloc tb_ok rfl rfl rfl EV (fun b hb hlt => ?_)))
  all_goals
    refine sst_call tb_ok rfl rfl rfl rfl rfl EV AP (fun v _ _ => v = .bool le) ?_ ?_
  all_goals first
    | exact fun w7 h7 => go 7 x [] 0 w7 _ _ (pred_arg (hp.kp (hk12.thenNew h7.kp hD)) (hx.kp (hk12.thenNew h7.kp hD))) (hk12.thenNew h7.kp hD) (by unfold opOK; omega) (by omega) hle
    | skip
  all_goals
    rintro v w13 w14 h13 hk14 rfl
    have hk14 : Kp No w w14 := (hk12.thenNew h13.kp hD).then hk14
    clear go hle
  all_goals
    cases lt
  all_goals
    simp only [Bool.or_true, Bool.or_false, Bool.true_or, Bool.false_or] at hle2
    subst hle2
    (repeat' (first | refine Gk ?_ | refine sst_box rfl rfl rfl rfl rfl (fun b hb hlt => ?_) | refine sst_alloc tb_ok rfl rfl rfl EV (fun b hb hlt => ?_)))
  all_goals
    refine sst_call tb_ok rfl rfl rfl rfl rfl EV AP (fun v _ _ => v = .bool true) ?_ ?_
  all_goals first
    | exact fun w1 h1 => c22 w1
    | skip
  all_goals
    rintro v w21 w22 h21 hk22 rfl
    (repeat' (first | refine Gk ?_ | refine sst_box rfl rfl rfl rfl rfl (fun b hb hlt => ?_) | refine sst_alloc tb_ok rfl rfl rfl EV (fun b hb hlt => ?_)))
    refine sq_ret tb_ok rfl EV (fun w' hk hr => ?_)
    exact ⟨_, rfl, ((hk14.then h21.kp).then hk22).then hk, rfl⟩
end Go.Fw
