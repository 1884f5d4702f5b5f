/- Helping lemmas for the cards of this seat's laws, of the texts: W25. They state no law of their own. -/
import Derived.Test.YtmpngkngkoigmaaGreatDoorPos
import Derived.Test.YtmpngkngkoigmaaGreatDoorRd
set_option linter.unusedVariables false
set_option linter.unusedSimpArgs false
set_option maxRecDepth 10000
set_option maxHeartbeats 2000000
namespace Go.Fw
open Go
attribute [local irreducible] SWp SQ SSeq SSt Quiet Next Meet
attribute [local irreducible] MeetX ForkQ STr

/-- docstorelaw15.MatchArgs -/
theorem c4 (p : List ByteArray) (x y d : Val) (S1 S2 S3 S4 : Nat → Prop) (w : World) (A : Option Addr) (m c : Nat) (cx cy cd : List Value) (hp : RepB S1 w A m c p) (hx : RepV S2 w x cx) (hy : RepV S3 w y cy) (hd : RepV S4 w d cd) (hn : nodesV d ≤ 1048576) :
    Calls Go.Proofs.Tryz.prog 4 #[.agg (.slice A m c :: (cx ++ (cy ++ cd))).toArray] w fun e w2 => ∃ v, e = .returned v ∧ Kp No w w2 ∧ v = .bool true := by
  obtain ⟨X1, x1, X2, x2, rfl, -, -, -, -, -⟩ := hx.parts
  obtain ⟨Y1, y1, Y2, y2, rfl, -, -, -, -, -⟩ := hy.parts
  obtain ⟨D1, d1, D2, d2, rfl, hdk, hdn, hdt, hdl, hdd⟩ := hd.parts
  have hd : RepV S4 w (.mk 5 d.n d.t d.l d.d) _ := RepV.of (by simp [inI]) hdn hdt hdl hdd
  simp only [List.cons_append, List.nil_append]
  refine calls_intro (args := [_]) w.heap.size Go.Proofs.Tryz.func4 rfl Go.Proofs.Tryz.ntmps4 (by simp) (Nat.le_refl _) ?_
  (repeat' (first | refine G0 ?_ | refine sst_box rfl rfl rfl rfl rfl (fun b hb hlt => ?_) | refine sst_alloc tb_ok rfl rfl rfl EV (fun b hb hlt => ?_)))
  refine sst_call tb_ok rfl rfl rfl rfl rfl EV AP (fun v _ _ => ∃ b : Bool, v = .bool b ∧ (b = true → pathB p = true)) ?_ ?_
  · exact fun w1 h1 => c21_2 p _ S1 S2 S4 x A X1 X2 m c x1 x2 w1 _ (hp.kp h1.kp) (hx.kp h1.kp) (hd.kp h1.kp)
  rintro v w1 w2 h1 hk2 ⟨b1, rfl, hb1⟩
  have hk2 : Kp No w w2 := h1.kp.then hk2
  cases b1 with
  | false =>
    (repeat' (first | refine Gk ?_ | refine sst_box rfl rfl rfl rfl rfl (fun b hb hlt => ?_) | refine sst_alloc tb_ok rfl rfl rfl EV (fun b hb hlt => ?_)))
    refine sst_call tb_ok rfl rfl rfl rfl rfl EV AP (fun v _ _ => v = .bool true) ?_ ?_
    · exact fun w3 h3 => c22 w3
    rintro v w3 w4 h3 hk4 rfl
    (repeat' (first | refine Gk ?_ | refine sst_box rfl rfl rfl rfl rfl (fun b hb hlt => ?_) | refine sst_alloc tb_ok rfl rfl rfl EV (fun b hb hlt => ?_)))
    refine sq_ret tb_ok rfl EV (fun w' hk hr => ?_)
    exact ⟨_, rfl, ((hk2.then h3.kp).then hk4).then hk, rfl⟩
  | true =>
  have hpb := hb1 rfl
  have hlim := leaves_doc hn hpb
  (repeat' (first | refine Gk ?_ | refine sst_box rfl rfl rfl rfl rfl (fun b hb hlt => ?_) | refine sst_alloc tb_ok rfl rfl rfl EV (fun b hb hlt => ?_)))
  refine sst_call tb_ok rfl rfl rfl rfl rfl EV AP (fun v _ _ => ∃ b : Bool, v = .bool b ∧ (b = true → pathB p = true)) ?_ ?_
  · exact fun w3 h3 => c21_2 p _ S1 S3 S4 y A Y1 Y2 m c y1 y2 w3 _ (hp.kp (hk2.then h3.kp)) (hy.kp (hk2.then h3.kp)) (hd.kp (hk2.then h3.kp))
  rintro v w3 w4 h3 hk4 ⟨b2, rfl, -⟩
  have hk4 : Kp No w w4 := (hk2.then h3.kp).then hk4
  cases b2 with
  | false =>
    (repeat' (first | refine Gk ?_ | refine sst_box rfl rfl rfl rfl rfl (fun b hb hlt => ?_) | refine sst_alloc tb_ok rfl rfl rfl EV (fun b hb hlt => ?_)))
    refine sst_call tb_ok rfl rfl rfl rfl rfl EV AP (fun v _ _ => v = .bool true) ?_ ?_
    · exact fun w5 h5 => c22 w5
    rintro v w5 w6 h5 hk6 rfl
    (repeat' (first | refine Gk ?_ | refine sst_box rfl rfl rfl rfl rfl (fun b hb hlt => ?_) | refine sst_alloc tb_ok rfl rfl rfl EV (fun b hb hlt => ?_)))
    refine sq_ret tb_ok rfl EV (fun w' hk hr => ?_)
    exact ⟨_, rfl, ((hk4.then h5.kp).then hk6).then hk, rfl⟩
  | true =>
  generalize hDv : Val.mk 5 d.n d.t d.l d.d = Dv at hd hlim
  have hDk : (Dv.k == 5) = true := by rw [← hDv]; rfl
  obtain ⟨a, ha⟩ : ∃ a, onP (fun _ => false) 2 p x [] 0 Dv = a := ⟨_, rfl⟩
  obtain ⟨b, hb⟩ : ∃ b, onP (fun _ => false) 2 p y [] 0 Dv = b := ⟨_, rfl⟩
  obtain ⟨t, ht⟩ : ∃ t, ((reachF Dv p).any fun y => y.k != 0) = t := ⟨_, rfl⟩
  have e3 : onP (fun _ => false) 3 p x [] 0 Dv = !a := by rw [← ha]; simp [onP]
  have e8 : onP (fun _ => false) 8 p nullV [x, y] 0 Dv = (a || b) := by rw [← ha, ← hb]; simp [onP]
  have e9 : onP (fun _ => false) 9 p nullV [x, y] 0 Dv = !(a || b) := by rw [← ha, ← hb]; simp [onP]
  have e14 : onP (fun _ => false) 14 p nullV [x, y] 0 Dv = (a && b) := by rw [← ha, ← hb]; simp [onP]
  have e101 : onP (fun _ => false) 10 p nullV [] 1 Dv = t := by rw [← ht]; simp [onP]
  have e100 : onP (fun _ => false) 10 p nullV [] 0 Dv = !t := by rw [← ht]; simp [onP]
  have go : ∀ (op : Int) (a : Val) (al : List Val) (n : Int) (w1 : World) (cs : List Value) (r : Bool), PL (fun _ => True) w1 op p a al n cs → Kp No w w1 → opOK op → ¬ (op ≠ 10 ∧ ¬ (2 ≤ op ∧ op ≤ 9) ∧ op ≠ 14) → onP (fun _ => false) op p a al n Dv = r →
      Calls Go.Proofs.Tryz.prog 23 #[.agg cs.toArray, .agg #[.int .i64 5, .int .i64 d.n, .string d.t, .slice D1 d.l.length d1, .slice D2 d.d.length d2]] w1 fun e w2 => ∃ v, e = .returned v ∧ Kp No w1 w2 ∧ v = .bool r := by
    intro op a al n w1 cs r hP hk hop hno he
    have := c23 Dv (fun _ => false) op p a al n (fun _ => True) S4 w1 cs _ hP (hd.kp hk) hlim hop (fun h => absurd h hno)
    rw [hDk, he, Bool.true_and] at this
    exact this
  (repeat' (first | refine Gk ?_ | refine sst_box rfl rfl rfl rfl rfl (fun b hb hlt => ?_) | refine sst_alloc tb_ok rfl rfl rfl EV (fun b hb hlt => ?_)))
  refine swp_draw mixed [0, 1, 2, 4, 5, 6, 3, 7, 8, 9] [] (by kernel_rfl) (by kernel_rfl) rfl ?_
  (repeat' (first | refine Gk ?_ | refine sst_box rfl rfl rfl rfl rfl (fun b hb hlt => ?_) | refine sst_alloc tb_ok rfl rfl rfl EV (fun b hb hlt => ?_)))
  refine sst_call tb_ok rfl rfl rfl rfl rfl EV AP (fun v _ _ => v = .bool a) ?_ ?_
  · exact fun w5 h5 => go 2 x [] 0 w5 _ a (pred_arg (hp.kp (hk4.then h5.kp)) (hx.kp (hk4.then h5.kp))) (hk4.then h5.kp) (by unfold opOK; omega) (by omega) ha
  rintro v w5 w6 h5 hk6 rfl
  have hk6 : Kp No w w6 := (hk4.then h5.kp).then hk6
  (repeat' (first | refine Gk ?_ | refine sst_box rfl rfl rfl rfl rfl (fun b hb hlt => ?_) | refine sst_alloc tb_ok rfl rfl rfl EV (fun b hb hlt => ?_)))
  refine sst_call tb_ok rfl rfl rfl rfl rfl EV AP (fun v _ _ => v = .bool b) ?_ ?_
  · exact fun w7 h7 => go 2 y [] 0 w7 _ b (pred_arg (hp.kp (hk6.then h7.kp)) (hy.kp (hk6.then h7.kp))) (hk6.then h7.kp) (by unfold opOK; omega) (by omega) hb
  rintro v w7 w8 h7 hk8 rfl
  have hk8 : Kp No w w8 := (hk6.then h7.kp).then hk8
  (repeat' (first | refine Gk ?_ | refine sst_box rfl rfl rfl rfl rfl (fun b hb hlt => ?_) | refine sst_alloc tb_ok rfl rfl rfl EV (fun b hb hlt => ?_)))
  refine sst_buildSlice tb_ok rfl rfl rfl EV EV (by rfl) EV (by rfl) (by omega) (by simp) (fun g hg hgl => ?_)
  have rowS : ∀ w1, Kp No w w1 → w1.ownsRow w.heap.size 26 5 (.slice (some ⟨g, 0, none⟩) 2 2) 2 [.int .i64 x.k, .int .i64 x.n, .string x.t, .slice X1 x.l.length x1, .slice X2 x.d.length x2, .int .i64 y.k, .int .i64 y.n, .string y.t, .slice Y1 y.l.length y1, .slice Y2 y.d.length y2] → RepS (fun _ => True) w1 (some ⟨g, 0, none⟩) 2 2 [x, y] := by
    intro w1 hk ho
    obtain ⟨A9, c9, hv9, hr9⟩ := RepS.ofRow (S := fun _ => True) (l := [x, y]) ho rfl (by rw [LIM_eq]; omega) (fun _ _ => trivial) (fun i z hz => by
      match i with
      | 0 => simp at hz; subst hz; exact (hx.kp hk).tr
      | 1 => simp at hz; subst hz; exact (hy.kp hk).tr
      | i + 2 => simp at hz)
    obtain ⟨rfl, rfl⟩ : A9 = some ⟨g, 0, none⟩ ∧ c9 = 2 := by simpa [eq_comm] using hv9
    exact hr9
  (repeat' (first | refine Gk ?_ | refine sst_box rfl rfl rfl rfl rfl (fun b hb hlt => ?_) | refine sst_alloc tb_ok rfl rfl rfl EV (fun b hb hlt => ?_)))
  refine sst_call tb_ok rfl rfl rfl rfl rfl EV AP (fun v _ _ => v = .bool (a || b)) ?_ ?_
  · exact fun w9 h9 => go 8 nullV [x, y] 0 w9 _ _ (pred_args (hp.kp (hk8.then h9.kp)) (rowS w9 (hk8.then h9.kp) (h9.row _ List.mem_cons_self))) (hk8.then h9.kp) (by unfold opOK; omega) (by omega) e8
  rintro v w9 w10 h9 hk10 rfl
  have hk10 : Kp No w w10 := (hk8.then h9.kp).then hk10
  (repeat' (first | refine Gk ?_ | refine sst_box rfl rfl rfl rfl rfl (fun b hb hlt => ?_) | refine sst_alloc tb_ok rfl rfl rfl EV (fun b hb hlt => ?_)))
  refine sst_call tb_ok rfl rfl rfl rfl rfl EV AP (fun v _ _ => v = .bool (!(a || b))) ?_ ?_
  · exact fun w9 h9 => go 9 nullV [x, y] 0 w9 _ _ (pred_args (hp.kp (hk10.then h9.kp)) (rowS w9 (hk10.then h9.kp) (h9.row _ List.mem_cons_self))) (hk10.then h9.kp) (by unfold opOK; omega) (by omega) e9
  rintro v w11 w12 h11 hk12 rfl
  have hk12 : Kp No w w12 := (hk10.then h11.kp).then hk12
  (repeat' (first | refine Gk ?_ | refine sst_box rfl rfl rfl rfl rfl (fun b hb hlt => ?_) | refine sst_alloc tb_ok rfl rfl rfl EV (fun b hb hlt => ?_)))
  refine sst_call tb_ok rfl rfl rfl rfl rfl EV AP (fun v _ _ => v = .bool (a && b)) ?_ ?_
  · exact fun w9 h9 => go 14 nullV [x, y] 0 w9 _ _ (pred_args (hp.kp (hk12.then h9.kp)) (rowS w9 (hk12.then h9.kp) (h9.row _ List.mem_cons_self))) (hk12.then h9.kp) (by unfold opOK; omega) (by omega) e14
  rintro v w13 w14 h13 hk14 rfl
  have hk14 : Kp No w w14 := (hk12.then h13.kp).then hk14
  (repeat' (first | refine Gk ?_ | refine sst_box rfl rfl rfl rfl rfl (fun b hb hlt => ?_) | refine sst_alloc tb_ok rfl rfl rfl EV (fun b hb hlt => ?_)))
  refine sst_call tb_ok rfl rfl rfl rfl rfl EV AP (fun v _ _ => v = .bool t) ?_ ?_
  · exact fun w9 h9 => go 10 nullV [] 1 w9 _ _ (pred_args (hp.kp (hk14.then h9.kp)) (RepS.nil (fun _ => True) w9 none 0)) (hk14.then h9.kp) (by unfold opOK; omega) (by omega) e101
  rintro v w15 w16 h15 hk16 rfl
  have hk16 : Kp No w w16 := (hk14.then h15.kp).then hk16
  (repeat' (first | refine Gk ?_ | refine sst_box rfl rfl rfl rfl rfl (fun b hb hlt => ?_) | refine sst_alloc tb_ok rfl rfl rfl EV (fun b hb hlt => ?_)))
  refine sst_call tb_ok rfl rfl rfl rfl rfl EV AP (fun v _ _ => v = .bool (!t)) ?_ ?_
  · exact fun w9 h9 => go 10 nullV [] 0 w9 _ _ (pred_args (hp.kp (hk16.then h9.kp)) (RepS.nil (fun _ => True) w9 none 0)) (hk16.then h9.kp) (by unfold opOK; omega) (by omega) e100
  rintro v w17 w18 h17 hk18 rfl
  have hk18 : Kp No w w18 := (hk16.then h17.kp).then hk18
  (repeat' (first | refine Gk ?_ | refine sst_box rfl rfl rfl rfl rfl (fun b hb hlt => ?_) | refine sst_alloc tb_ok rfl rfl rfl EV (fun b hb hlt => ?_)))
  refine sst_call tb_ok rfl rfl rfl rfl rfl EV AP (fun v _ _ => v = .bool (!a)) ?_ ?_
  · exact fun w9 h9 => go 3 x [] 0 w9 _ _ (pred_arg (hp.kp (hk18.then h9.kp)) (hx.kp (hk18.then h9.kp))) (hk18.then h9.kp) (by unfold opOK; omega) (by omega) e3
  rintro v w19 w20 h19 hk20 rfl
  have hk20 : Kp No w w20 := (hk18.then h19.kp).then hk20
  clear ha hb ht e3 e8 e9 e14 e101 e100 go rowS
  cases a <;> cases b <;> cases t
  all_goals
    (repeat' (first | refine Gk ?_ | refine sst_box rfl rfl rfl rfl rfl (fun b hb hlt => ?_) | refine sst_alloc tb_ok rfl rfl rfl EV (fun b hb hlt => ?_)))
  all_goals
    refine sst_call tb_ok rfl rfl rfl rfl rfl EV AP (fun v _ _ => v = .bool true) ?_ ?_
  all_goals first
    | exact fun w1 h1 => c22 w1
    | skip
  all_goals
    rintro v w21 w22 h21 hk22 rfl
    (repeat' (first | refine Gk ?_ | refine sst_box rfl rfl rfl rfl rfl (fun b hb hlt => ?_) | refine sst_alloc tb_ok rfl rfl rfl EV (fun b hb hlt => ?_)))
    refine sq_ret tb_ok rfl EV (fun w' hk hr => ?_)
    exact ⟨_, rfl, ((hk20.then h21.kp).then hk22).then hk, rfl⟩
end Go.Fw
