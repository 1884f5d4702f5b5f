/- Helping lemmas for the cards of this seat's laws, of the texts: W17, V4, W18. They state no law of their own. -/
import Derived.Test.YtmpngkngkoigmaaGreatDoorPth
set_option linter.unusedVariables false
set_option linter.unusedSimpArgs false
set_option maxRecDepth 10000
set_option maxHeartbeats 2000000
namespace Go.Fw
open Go
attribute [local irreducible] SWp SQ SSeq SSt Quiet Next Meet
attribute [local irreducible] MeetX

theorem c105_2 (p : List ByteArray) (S S' : Nat → Prop) (a : Val) (A B1 B2 : Option Addr) (m c n1 n2 : Nat) (w : World) (hp : RepB S w A m c p) (ha : RepV S' w a [.int .i64 a.k, .int .i64 a.n, .string a.t, .slice B1 a.l.length n1, .slice B2 a.d.length n2]) :
    Calls Go.Proofs.Tryz.prog 105 #[.agg #[.int .i64 2, .slice A m c, .int .i64 a.k, .int .i64 a.n, .string a.t, .slice B1 a.l.length n1, .slice B2 a.d.length n2, .slice none 0 0, .int .i64 0, .int .i64 0, .int .i64 0, .slice none 0 0, .int .i64 0, .int .i64 0, .slice none 0 0, .string ⟨#[]⟩, .slice none 0 0, .int .i64 0, .int .i64 0, .string ⟨#[]⟩, .slice none 0 0, .slice none 0 0, .int .i64 0, .slice none 0 0, .slice none 0 0], .bool false] w fun e w2 => ∃ v, e = .returned v ∧ Kp No w w2 ∧ ∃ e : Int, v = .int .i64 e ∧ (e = 0 → pathB p = true) := by
  have bad : ∀ (e : Int) (w1 w' : World), e ≠ 0 → Kp No w w1 → Kp No w1 w' → ∃ v, Ending.returned (oneOr [Value.int .i64 e]) = .returned v ∧ Kp No w w' ∧ ∃ e : Int, v = .int .i64 e ∧ (e = 0 → pathB p = true) :=
    fun e w1 w' he h1 h2 => ⟨_, rfl, h1.then h2, e, rfl, fun h => absurd h he⟩
  refine calls_intro (args := [_, _]) w.heap.size Go.Proofs.Tryz.func105 rfl Go.Proofs.Tryz.ntmps105 (by simp) (Nat.le_refl _) ?_
  (repeat' (first | refine Gk ?_ | refine sst_box rfl rfl rfl rfl rfl (fun b hb hlt => ?_) | refine sst_alloc tb_ok rfl rfl rfl EV (fun b hb hlt => ?_)))
  refine sst_call tb_ok rfl rfl rfl rfl rfl EV AP (fun v _ _ => v = .bool true) ?_ ?_
  · exact fun w1 h1 => c145_2 a A B1 B2 m c n1 n2 w1
  rintro v w2 w3 h2 hk3 rfl
  have hk3 : Kp No w w3 := h2.kp.then hk3
  (repeat' (first | refine Gk ?_ | refine sst_box rfl rfl rfl rfl rfl (fun b hb hlt => ?_) | refine sst_alloc tb_ok rfl rfl rfl EV (fun b hb hlt => ?_)))
  refine sst_call tb_ok rfl rfl rfl rfl rfl EV AP (fun v _ _ => v = .bool false) ?_ ?_
  · exact fun w1 h1 => c146_2 w1
  rintro v w4 w5 h4 hk5 rfl
  have hk5 : Kp No w w5 := (hk3.then h4.kp).then hk5
  (repeat' (first | refine Gk ?_ | refine sst_box rfl rfl rfl rfl rfl (fun b hb hlt => ?_) | refine sst_alloc tb_ok rfl rfl rfl EV (fun b hb hlt => ?_)))
  refine sst_call tb_ok rfl rfl rfl rfl rfl EV AP (fun v _ _ => v = .bool true) ?_ ?_
  · exact fun w1 h1 => c147_2 a A B1 B2 m c n1 n2 w1
  rintro v w6 w7 h6 hk7 rfl
  have hk7 : Kp No w w7 := (hk5.then h6.kp).then hk7
  (repeat' (first | refine Gk ?_ | refine sst_box rfl rfl rfl rfl rfl (fun b hb hlt => ?_) | refine sst_alloc tb_ok rfl rfl rfl EV (fun b hb hlt => ?_)))
  refine sst_call tb_ok rfl rfl rfl rfl rfl EV AP (fun v _ _ => v = .bool true) ?_ ?_
  · exact fun w1 h1 => c148_2 w1
  rintro v w8 w9 h8 hk9 rfl
  have hk9 : Kp No w w9 := (hk7.then h8.kp).then hk9
  (repeat' (first | refine Gk ?_ | refine sst_box rfl rfl rfl rfl rfl (fun b hb hlt => ?_) | refine sst_alloc tb_ok rfl rfl rfl EV (fun b hb hlt => ?_)))
  refine sst_call tb_ok rfl rfl rfl rfl rfl EV AP (fun v _ _ => v = .bool (pathB p)) ?_ ?_
  · exact fun w1 h1 => c75 p S w1 _ _ _ (hp.kp (hk9.then h1.kp))
  rintro v w10 w11 h10 hk11 rfl
  have hk11 : Kp No w w11 := (hk9.then h10.kp).then hk11
  (repeat' (first | refine Gk ?_ | refine sst_box rfl rfl rfl rfl rfl (fun b hb hlt => ?_) | refine sst_alloc tb_ok rfl rfl rfl EV (fun b hb hlt => ?_)))
  refine sst_guard rfl rfl rfl (fun hpb => ?_) (fun hpb => ?_)
  · (repeat' (first | refine Gk ?_ | refine sst_box rfl rfl rfl rfl rfl (fun b hb hlt => ?_) | refine sst_alloc tb_ok rfl rfl rfl EV (fun b hb hlt => ?_)))
    refine sq_ret tb_ok rfl EV (fun w' hk hr => ?_)
    exact bad _ _ _ (by decide) hk11 hk
  have hpb : pathB p = true := by simpa using hpb
  (repeat' (first | refine Gk ?_ | refine sst_box rfl rfl rfl rfl rfl (fun b hb hlt => ?_) | refine sst_alloc tb_ok rfl rfl rfl EV (fun b hb hlt => ?_)))
  refine sst_call tb_ok rfl rfl rfl rfl rfl EV AP (fun v _ _ => v = .bool true) ?_ ?_
  · exact fun w1 h1 => c149_2 w1
  rintro v w12 w13 h12 hk13 rfl
  have hk13 : Kp No w w13 := (hk11.then h12.kp).then hk13
  (repeat' (first | refine Gk ?_ | refine sst_box rfl rfl rfl rfl rfl (fun b hb hlt => ?_) | refine sst_alloc tb_ok rfl rfl rfl EV (fun b hb hlt => ?_)))
  refine sst_call tb_ok rfl rfl rfl rfl rfl EV AP (fun v _ _ => ∃ b : Bool, v = .bool b) ?_ ?_
  · exact fun w1 h1 => c67 a S' w1 _ (ha.kp (hk13.then h1.kp))
  rintro v w14 w15 h14 hk15 ⟨vb, rfl⟩
  have hk15 : Kp No w w15 := (hk13.then h14.kp).then hk15
  (repeat' (first | refine Gk ?_ | refine sst_box rfl rfl rfl rfl rfl (fun b hb hlt => ?_) | refine sst_alloc tb_ok rfl rfl rfl EV (fun b hb hlt => ?_)))
  refine sst_guard rfl rfl rfl (fun hvb => ?_) (fun hvb => ?_)
  · (repeat' (first | refine Gk ?_ | refine sst_box rfl rfl rfl rfl rfl (fun b hb hlt => ?_) | refine sst_alloc tb_ok rfl rfl rfl EV (fun b hb hlt => ?_)))
    refine sq_ret tb_ok rfl EV (fun w' hk hr => ?_)
    exact bad _ _ _ (by decide) hk15 hk
  (repeat' (first | refine Gk ?_ | refine sst_box rfl rfl rfl rfl rfl (fun b hb hlt => ?_) | refine sst_alloc tb_ok rfl rfl rfl EV (fun b hb hlt => ?_)))
  refine sst_call tb_ok rfl rfl rfl rfl rfl EV AP (fun v _ _ => v = .bool false) ?_ ?_
  · exact fun w1 h1 => c150_2 w1
  rintro v w16 w17 h16 hk17 rfl
  have hk17 : Kp No w w17 := (hk15.then h16.kp).then hk17
  (repeat' (first | refine Gk ?_ | refine sst_box rfl rfl rfl rfl rfl (fun b hb hlt => ?_) | refine sst_alloc tb_ok rfl rfl rfl EV (fun b hb hlt => ?_)))
  refine swp_loop (X := World) (fun y => Kp No w y) (fun y => ⟨136, [(5, .val (.int .i64 0)), (1, .val (.bool false)), (2, .loc 0 0)], [⟨b, 35, [.int .i64 2, .slice A m c, .int .i64 a.k, .int .i64 a.n, .string a.t, .slice B1 a.l.length n1, .slice B2 a.d.length n2, .slice none 0 0, .int .i64 0, .int .i64 0, .int .i64 0, .slice none 0 0, .int .i64 0, .int .i64 0, .slice none 0 0, .string ⟨#[]⟩, .slice none 0 0, .int .i64 0, .int .i64 0, .string ⟨#[]⟩, .slice none 0 0, .slice none 0 0, .int .i64 0, .slice none 0 0, .slice none 0 0], false⟩], [], w.heap.size, y, No⟩) (fun _ => 0) ?_ ?_
  · intro w1 h1
    exact ⟨w1, hk17.then h1.kp, rfl, rfl, rfl, fun k h => h, ⟨_, rfl⟩, List.Sublist.refl _, ⟨rfl, rfl, rfl, trivial⟩, by simp⟩
  intro w18 hk18
  (repeat' (first | refine Gk ?_ | refine sst_box rfl rfl rfl rfl rfl (fun b hb hlt => ?_) | refine sst_alloc tb_ok rfl rfl rfl EV (fun b hb hlt => ?_)))
  refine sst_call tb_ok rfl rfl rfl rfl rfl EV AP (fun v _ _ => v = .bool true) ?_ ?_
  · exact fun w1 h1 => c152_2 a A B1 B2 m c n1 n2 w1
  rintro v w19 w20 h19 hk20 rfl
  have hk20 : Kp No w w20 := (Kp.then hk18 h19.kp).then hk20
  (repeat' (first | refine Gk ?_ | refine sst_box rfl rfl rfl rfl rfl (fun b hb hlt => ?_) | refine sst_alloc tb_ok rfl rfl rfl EV (fun b hb hlt => ?_)))
  refine swp_loop (X := World) (fun y => Kp No w y) (fun y => ⟨136, [(7, .val (.int .i64 0)), (1, .val (.bool false)), (2, .loc 0 0)], [⟨b, 35, [.int .i64 2, .slice A m c, .int .i64 a.k, .int .i64 a.n, .string a.t, .slice B1 a.l.length n1, .slice B2 a.d.length n2, .slice none 0 0, .int .i64 0, .int .i64 0, .int .i64 0, .slice none 0 0, .int .i64 0, .int .i64 0, .slice none 0 0, .string ⟨#[]⟩, .slice none 0 0, .int .i64 0, .int .i64 0, .string ⟨#[]⟩, .slice none 0 0, .slice none 0 0, .int .i64 0, .slice none 0 0, .slice none 0 0], false⟩], [], w.heap.size, y, No⟩) (fun _ => 0) ?_ ?_
  · intro w1 h1
    exact ⟨w1, hk20.then h1.kp, rfl, rfl, rfl, fun k h => h, ⟨_, rfl⟩, List.Sublist.refl _, ⟨rfl, rfl, rfl, trivial⟩, by simp⟩
  intro w21 hk21
  (repeat' (first | refine Gk ?_ | refine sst_box rfl rfl rfl rfl rfl (fun b hb hlt => ?_) | refine sst_alloc tb_ok rfl rfl rfl EV (fun b hb hlt => ?_)))
  refine sq_ret tb_ok rfl EV (fun w' hk hr => ?_)
  exact ⟨_, rfl, Kp.then hk21 hk, _, rfl, fun _ => hpb⟩

theorem c59_2 (p : List ByteArray) (S S' : Nat → Prop) (a : Val) (A B1 B2 : Option Addr) (m c n1 n2 : Nat) (w : World) (hp : RepB S w A m c p) (ha : RepV S' w a [.int .i64 a.k, .int .i64 a.n, .string a.t, .slice B1 a.l.length n1, .slice B2 a.d.length n2]) :
    Calls Go.Proofs.Tryz.prog 59 #[.agg #[.int .i64 2, .slice A m c, .int .i64 a.k, .int .i64 a.n, .string a.t, .slice B1 a.l.length n1, .slice B2 a.d.length n2, .slice none 0 0, .int .i64 0, .int .i64 0, .int .i64 0, .slice none 0 0, .int .i64 0, .int .i64 0, .slice none 0 0, .string ⟨#[]⟩, .slice none 0 0, .int .i64 0, .int .i64 0, .string ⟨#[]⟩, .slice none 0 0, .slice none 0 0, .int .i64 0, .slice none 0 0, .slice none 0 0]] w fun e w2 => ∃ v, e = .returned v ∧ Kp No w w2 ∧ ∃ e : Int, v = .int .i64 e ∧ (e = 0 → pathB p = true) := by
  refine calls_intro (args := [_]) w.heap.size Go.Proofs.Tryz.func59 rfl Go.Proofs.Tryz.ntmps59 (by simp) (Nat.le_refl _) ?_
  (repeat' (first | refine Gk ?_ | refine sst_box rfl rfl rfl rfl rfl (fun b hb hlt => ?_) | refine sst_alloc tb_ok rfl rfl rfl EV (fun b hb hlt => ?_)))
  refine sst_call tb_ok rfl rfl rfl rfl rfl EV AP (fun v _ _ => v = .int .i64 255) ?_ ?_
  · exact fun w1 h1 => c104_2 a A B1 B2 m c n1 n2 w1
  rintro v w2 w3 h2 hk3 rfl
  have hk3 : Kp No w w3 := h2.kp.then hk3
  (repeat' (first | refine Gk ?_ | refine sst_box rfl rfl rfl rfl rfl (fun b hb hlt => ?_) | refine sst_alloc tb_ok rfl rfl rfl EV (fun b hb hlt => ?_)))
  refine sst_call tb_ok rfl rfl rfl rfl rfl EV AP (fun v _ _ => ∃ e : Int, v = .int .i64 e ∧ (e = 0 → pathB p = true)) ?_ ?_
  · exact fun w1 h1 => c105_2 p S S' a A B1 B2 m c n1 n2 w1 (hp.kp (hk3.then h1.kp)) (ha.kp (hk3.then h1.kp))
  rintro v w4 w5 h4 hk5 ⟨e, rfl, he⟩
  (repeat' (first | refine Gk ?_ | refine sst_box rfl rfl rfl rfl rfl (fun b hb hlt => ?_) | refine sst_alloc tb_ok rfl rfl rfl EV (fun b hb hlt => ?_)))
  refine sq_ret tb_ok rfl EV (fun w' hk hr => ?_)
  exact ⟨_, rfl, ((hk3.then h4.kp).then hk5).then hk, e, rfl, he⟩

/-- docstorelaw15.good at such a predicate. -/
theorem c21_2 (p : List ByteArray) (x : Val) (S S' S2 : Nat → Prop) (a : Val) (A B1 B2 : Option Addr) (m c n1 n2 : Nat) (w : World) (cx : List Value) (hp : RepB S w A m c p) (ha : RepV S' w a [.int .i64 a.k, .int .i64 a.n, .string a.t, .slice B1 a.l.length n1, .slice B2 a.d.length n2]) (hx : RepV S2 w x cx) :
    Calls Go.Proofs.Tryz.prog 21 #[.agg #[.int .i64 2, .slice A m c, .int .i64 a.k, .int .i64 a.n, .string a.t, .slice B1 a.l.length n1, .slice B2 a.d.length n2, .slice none 0 0, .int .i64 0, .int .i64 0, .int .i64 0, .slice none 0 0, .int .i64 0, .int .i64 0, .slice none 0 0, .string ⟨#[]⟩, .slice none 0 0, .int .i64 0, .int .i64 0, .string ⟨#[]⟩, .slice none 0 0, .slice none 0 0, .int .i64 0, .slice none 0 0, .slice none 0 0], .agg cx.toArray] w fun e w2 => ∃ v, e = .returned v ∧ Kp No w w2 ∧ ∃ b : Bool, v = .bool b ∧ (b = true → pathB p = true) := by
  obtain ⟨B3, m3, B4, m4, rfl, -⟩ := hx.parts
  refine calls_intro (args := [_, _]) w.heap.size Go.Proofs.Tryz.func21 rfl Go.Proofs.Tryz.ntmps21 (by simp) (Nat.le_refl _) ?_
  (repeat' (first | refine Gk ?_ | refine sst_box rfl rfl rfl rfl rfl (fun b hb hlt => ?_) | refine sst_alloc tb_ok rfl rfl rfl EV (fun b hb hlt => ?_)))
  refine sst_call tb_ok rfl rfl rfl rfl rfl EV AP (fun v _ _ => ∃ e : Int, v = .int .i64 e ∧ (e = 0 → pathB p = true)) ?_ ?_
  · exact fun w1 h1 => c59_2 p S S' a A B1 B2 m c n1 n2 w1 (hp.kp h1.kp) (ha.kp h1.kp)
  rintro v w2 w3 h2 hk3 ⟨e, rfl, he⟩
  have hk3 : Kp No w w3 := h2.kp.then hk3
  (repeat' (first | refine Gk ?_ | refine sst_box rfl rfl rfl rfl rfl (fun b hb hlt => ?_) | refine sst_alloc tb_ok rfl rfl rfl EV (fun b hb hlt => ?_)))
  refine sst_guard rfl rfl rfl (fun hg => ?_) (fun hg => ?_)
  · (repeat' (first | refine Gk ?_ | refine sst_box rfl rfl rfl rfl rfl (fun b hb hlt => ?_) | refine sst_alloc tb_ok rfl rfl rfl EV (fun b hb hlt => ?_)))
    refine sst_call tb_ok rfl rfl rfl rfl rfl EV AP (fun v _ _ => ∃ b : Bool, v = .bool b) ?_ ?_
    · exact fun w1 h1 => c67 x S2 w1 _ (hx.kp (hk3.then h1.kp))
    rintro v w4 w5 h4 hk5 ⟨vb, rfl⟩
    (repeat' (first | refine Gk ?_ | refine sst_box rfl rfl rfl rfl rfl (fun b hb hlt => ?_) | refine sst_alloc tb_ok rfl rfl rfl EV (fun b hb hlt => ?_)))
    refine sq_ret tb_ok rfl EV (fun w' hk hr => ?_)
    exact ⟨_, rfl, ((hk3.then h4.kp).then hk5).then hk, _, rfl, fun _ => he (by simpa using hg)⟩
  (repeat' (first | refine Gk ?_ | refine sst_box rfl rfl rfl rfl rfl (fun b hb hlt => ?_) | refine sst_alloc tb_ok rfl rfl rfl EV (fun b hb hlt => ?_)))
  refine sq_ret tb_ok rfl EV (fun w' hk hr => ?_)
  exact ⟨_, rfl, hk3.then hk, _, rfl, fun h => by cases h⟩
theorem c105_17 (p : List ByteArray) (S S' : Nat → Prop) (a : Val) (A B1 B2 : Option Addr) (m c n1 n2 : Nat) (w : World) (hp : RepB S w A m c p) (ha : RepV S' w a [.int .i64 a.k, .int .i64 a.n, .string a.t, .slice B1 a.l.length n1, .slice B2 a.d.length n2]) :
    Calls Go.Proofs.Tryz.prog 105 #[.agg #[.int .i64 17, .slice A m c, .int .i64 a.k, .int .i64 a.n, .string a.t, .slice B1 a.l.length n1, .slice B2 a.d.length n2, .slice none 0 0, .int .i64 0, .int .i64 0, .int .i64 0, .slice none 0 0, .int .i64 0, .int .i64 0, .slice none 0 0, .string ⟨#[]⟩, .slice none 0 0, .int .i64 0, .int .i64 0, .string ⟨#[]⟩, .slice none 0 0, .slice none 0 0, .int .i64 0, .slice none 0 0, .slice none 0 0], .bool false] w fun e w2 => ∃ v, e = .returned v ∧ Kp No w w2 ∧ ∃ e : Int, v = .int .i64 e ∧ (e = 0 → pathB p = true) := by
  have bad : ∀ (e : Int) (w1 w' : World), e ≠ 0 → Kp No w w1 → Kp No w1 w' → ∃ v, Ending.returned (oneOr [Value.int .i64 e]) = .returned v ∧ Kp No w w' ∧ ∃ e : Int, v = .int .i64 e ∧ (e = 0 → pathB p = true) :=
    fun e w1 w' he h1 h2 => ⟨_, rfl, h1.then h2, e, rfl, fun h => absurd h he⟩
  refine calls_intro (args := [_, _]) w.heap.size Go.Proofs.Tryz.func105 rfl Go.Proofs.Tryz.ntmps105 (by simp) (Nat.le_refl _) ?_
  (repeat' (first | refine Gk ?_ | refine sst_box rfl rfl rfl rfl rfl (fun b hb hlt => ?_) | refine sst_alloc tb_ok rfl rfl rfl EV (fun b hb hlt => ?_)))
  refine sst_call tb_ok rfl rfl rfl rfl rfl EV AP (fun v _ _ => v = .bool true) ?_ ?_
  · exact fun w1 h1 => c145_17 a A B1 B2 m c n1 n2 w1
  rintro v w2 w3 h2 hk3 rfl
  have hk3 : Kp No w w3 := h2.kp.then hk3
  (repeat' (first | refine Gk ?_ | refine sst_box rfl rfl rfl rfl rfl (fun b hb hlt => ?_) | refine sst_alloc tb_ok rfl rfl rfl EV (fun b hb hlt => ?_)))
  refine sst_call tb_ok rfl rfl rfl rfl rfl EV AP (fun v _ _ => v = .bool false) ?_ ?_
  · exact fun w1 h1 => c146_17 w1
  rintro v w4 w5 h4 hk5 rfl
  have hk5 : Kp No w w5 := (hk3.then h4.kp).then hk5
  (repeat' (first | refine Gk ?_ | refine sst_box rfl rfl rfl rfl rfl (fun b hb hlt => ?_) | refine sst_alloc tb_ok rfl rfl rfl EV (fun b hb hlt => ?_)))
  refine sst_call tb_ok rfl rfl rfl rfl rfl EV AP (fun v _ _ => v = .bool true) ?_ ?_
  · exact fun w1 h1 => c147_17 a A B1 B2 m c n1 n2 w1
  rintro v w6 w7 h6 hk7 rfl
  have hk7 : Kp No w w7 := (hk5.then h6.kp).then hk7
  (repeat' (first | refine Gk ?_ | refine sst_box rfl rfl rfl rfl rfl (fun b hb hlt => ?_) | refine sst_alloc tb_ok rfl rfl rfl EV (fun b hb hlt => ?_)))
  refine sst_call tb_ok rfl rfl rfl rfl rfl EV AP (fun v _ _ => v = .bool true) ?_ ?_
  · exact fun w1 h1 => c148_17 w1
  rintro v w8 w9 h8 hk9 rfl
  have hk9 : Kp No w w9 := (hk7.then h8.kp).then hk9
  (repeat' (first | refine Gk ?_ | refine sst_box rfl rfl rfl rfl rfl (fun b hb hlt => ?_) | refine sst_alloc tb_ok rfl rfl rfl EV (fun b hb hlt => ?_)))
  refine sst_call tb_ok rfl rfl rfl rfl rfl EV AP (fun v _ _ => v = .bool (pathB p)) ?_ ?_
  · exact fun w1 h1 => c75 p S w1 _ _ _ (hp.kp (hk9.then h1.kp))
  rintro v w10 w11 h10 hk11 rfl
  have hk11 : Kp No w w11 := (hk9.then h10.kp).then hk11
  (repeat' (first | refine Gk ?_ | refine sst_box rfl rfl rfl rfl rfl (fun b hb hlt => ?_) | refine sst_alloc tb_ok rfl rfl rfl EV (fun b hb hlt => ?_)))
  refine sst_guard rfl rfl rfl (fun hpb => ?_) (fun hpb => ?_)
  · (repeat' (first | refine Gk ?_ | refine sst_box rfl rfl rfl rfl rfl (fun b hb hlt => ?_) | refine sst_alloc tb_ok rfl rfl rfl EV (fun b hb hlt => ?_)))
    refine sq_ret tb_ok rfl EV (fun w' hk hr => ?_)
    exact bad _ _ _ (by decide) hk11 hk
  have hpb : pathB p = true := by simpa using hpb
  (repeat' (first | refine Gk ?_ | refine sst_box rfl rfl rfl rfl rfl (fun b hb hlt => ?_) | refine sst_alloc tb_ok rfl rfl rfl EV (fun b hb hlt => ?_)))
  refine sst_call tb_ok rfl rfl rfl rfl rfl EV AP (fun v _ _ => v = .bool true) ?_ ?_
  · exact fun w1 h1 => c149_17 w1
  rintro v w12 w13 h12 hk13 rfl
  have hk13 : Kp No w w13 := (hk11.then h12.kp).then hk13
  (repeat' (first | refine Gk ?_ | refine sst_box rfl rfl rfl rfl rfl (fun b hb hlt => ?_) | refine sst_alloc tb_ok rfl rfl rfl EV (fun b hb hlt => ?_)))
  refine sst_call tb_ok rfl rfl rfl rfl rfl EV AP (fun v _ _ => ∃ b : Bool, v = .bool b) ?_ ?_
  · exact fun w1 h1 => c67 a S' w1 _ (ha.kp (hk13.then h1.kp))
  rintro v w14 w15 h14 hk15 ⟨vb, rfl⟩
  have hk15 : Kp No w w15 := (hk13.then h14.kp).then hk15
  (repeat' (first | refine Gk ?_ | refine sst_box rfl rfl rfl rfl rfl (fun b hb hlt => ?_) | refine sst_alloc tb_ok rfl rfl rfl EV (fun b hb hlt => ?_)))
  refine sst_guard rfl rfl rfl (fun hvb => ?_) (fun hvb => ?_)
  · (repeat' (first | refine Gk ?_ | refine sst_box rfl rfl rfl rfl rfl (fun b hb hlt => ?_) | refine sst_alloc tb_ok rfl rfl rfl EV (fun b hb hlt => ?_)))
    refine sq_ret tb_ok rfl EV (fun w' hk hr => ?_)
    exact bad _ _ _ (by decide) hk15 hk
  (repeat' (first | refine Gk ?_ | refine sst_box rfl rfl rfl rfl rfl (fun b hb hlt => ?_) | refine sst_alloc tb_ok rfl rfl rfl EV (fun b hb hlt => ?_)))
  refine sst_call tb_ok rfl rfl rfl rfl rfl EV AP (fun v _ _ => v = .bool true) ?_ ?_
  · exact fun w1 h1 => c150_17 w1
  rintro v w16 w17 h16 hk17 rfl
  have hk17 : Kp No w w17 := (hk15.then h16.kp).then hk17
  (repeat' (first | refine Gk ?_ | refine sst_box rfl rfl rfl rfl rfl (fun b hb hlt => ?_) | refine sst_alloc tb_ok rfl rfl rfl EV (fun b hb hlt => ?_)))
  refine swp_if rfl (fun hak => ?_) (fun hak => ?_)
  · (repeat' (first | refine Gk ?_ | refine sst_box rfl rfl rfl rfl rfl (fun b hb hlt => ?_) | refine sst_alloc tb_ok rfl rfl rfl EV (fun b hb hlt => ?_)))
    refine sq_ret tb_ok rfl EV (fun w' hk hr => ?_)
    exact bad _ _ _ (by decide) hk17 hk
  (repeat' (first | refine Gk ?_ | refine sst_box rfl rfl rfl rfl rfl (fun b hb hlt => ?_) | refine sst_alloc tb_ok rfl rfl rfl EV (fun b hb hlt => ?_)))
  refine swp_loop (X := World) (fun y => Kp No w y) (fun y => ⟨136, [(5, .val (.int .i64 0)), (1, .val (.bool false)), (2, .loc 0 0)], [⟨b, 35, [.int .i64 17, .slice A m c, .int .i64 a.k, .int .i64 a.n, .string a.t, .slice B1 a.l.length n1, .slice B2 a.d.length n2, .slice none 0 0, .int .i64 0, .int .i64 0, .int .i64 0, .slice none 0 0, .int .i64 0, .int .i64 0, .slice none 0 0, .string ⟨#[]⟩, .slice none 0 0, .int .i64 0, .int .i64 0, .string ⟨#[]⟩, .slice none 0 0, .slice none 0 0, .int .i64 0, .slice none 0 0, .slice none 0 0], false⟩], [], w.heap.size, y, No⟩) (fun _ => 0) ?_ ?_
  · intro w1 h1
    exact ⟨w1, hk17.then h1.kp, rfl, rfl, rfl, fun k h => h, ⟨_, rfl⟩, List.Sublist.refl _, ⟨rfl, rfl, rfl, trivial⟩, by simp⟩
  intro w18 hk18
  (repeat' (first | refine Gk ?_ | refine sst_box rfl rfl rfl rfl rfl (fun b hb hlt => ?_) | refine sst_alloc tb_ok rfl rfl rfl EV (fun b hb hlt => ?_)))
  refine sst_call tb_ok rfl rfl rfl rfl rfl EV AP (fun v _ _ => v = .bool true) ?_ ?_
  · exact fun w1 h1 => c152_17 a A B1 B2 m c n1 n2 w1
  rintro v w19 w20 h19 hk20 rfl
  have hk20 : Kp No w w20 := (Kp.then hk18 h19.kp).then hk20
  (repeat' (first | refine Gk ?_ | refine sst_box rfl rfl rfl rfl rfl (fun b hb hlt => ?_) | refine sst_alloc tb_ok rfl rfl rfl EV (fun b hb hlt => ?_)))
  refine swp_loop (X := World) (fun y => Kp No w y) (fun y => ⟨136, [(7, .val (.int .i64 0)), (1, .val (.bool false)), (2, .loc 0 0)], [⟨b, 35, [.int .i64 17, .slice A m c, .int .i64 a.k, .int .i64 a.n, .string a.t, .slice B1 a.l.length n1, .slice B2 a.d.length n2, .slice none 0 0, .int .i64 0, .int .i64 0, .int .i64 0, .slice none 0 0, .int .i64 0, .int .i64 0, .slice none 0 0, .string ⟨#[]⟩, .slice none 0 0, .int .i64 0, .int .i64 0, .string ⟨#[]⟩, .slice none 0 0, .slice none 0 0, .int .i64 0, .slice none 0 0, .slice none 0 0], false⟩], [], w.heap.size, y, No⟩) (fun _ => 0) ?_ ?_
  · intro w1 h1
    exact ⟨w1, hk20.then h1.kp, rfl, rfl, rfl, fun k h => h, ⟨_, rfl⟩, List.Sublist.refl _, ⟨rfl, rfl, rfl, trivial⟩, by simp⟩
  intro w21 hk21
  (repeat' (first | refine Gk ?_ | refine sst_box rfl rfl rfl rfl rfl (fun b hb hlt => ?_) | refine sst_alloc tb_ok rfl rfl rfl EV (fun b hb hlt => ?_)))
  refine sq_ret tb_ok rfl EV (fun w' hk hr => ?_)
  exact ⟨_, rfl, Kp.then hk21 hk, _, rfl, fun _ => hpb⟩

theorem c59_17 (p : List ByteArray) (S S' : Nat → Prop) (a : Val) (A B1 B2 : Option Addr) (m c n1 n2 : Nat) (w : World) (hp : RepB S w A m c p) (ha : RepV S' w a [.int .i64 a.k, .int .i64 a.n, .string a.t, .slice B1 a.l.length n1, .slice B2 a.d.length n2]) :
    Calls Go.Proofs.Tryz.prog 59 #[.agg #[.int .i64 17, .slice A m c, .int .i64 a.k, .int .i64 a.n, .string a.t, .slice B1 a.l.length n1, .slice B2 a.d.length n2, .slice none 0 0, .int .i64 0, .int .i64 0, .int .i64 0, .slice none 0 0, .int .i64 0, .int .i64 0, .slice none 0 0, .string ⟨#[]⟩, .slice none 0 0, .int .i64 0, .int .i64 0, .string ⟨#[]⟩, .slice none 0 0, .slice none 0 0, .int .i64 0, .slice none 0 0, .slice none 0 0]] w fun e w2 => ∃ v, e = .returned v ∧ Kp No w w2 ∧ ∃ e : Int, v = .int .i64 e ∧ (e = 0 → pathB p = true) := by
  refine calls_intro (args := [_]) w.heap.size Go.Proofs.Tryz.func59 rfl Go.Proofs.Tryz.ntmps59 (by simp) (Nat.le_refl _) ?_
  (repeat' (first | refine Gk ?_ | refine sst_box rfl rfl rfl rfl rfl (fun b hb hlt => ?_) | refine sst_alloc tb_ok rfl rfl rfl EV (fun b hb hlt => ?_)))
  refine sst_call tb_ok rfl rfl rfl rfl rfl EV AP (fun v _ _ => v = .int .i64 255) ?_ ?_
  · exact fun w1 h1 => c104_17 a A B1 B2 m c n1 n2 w1
  rintro v w2 w3 h2 hk3 rfl
  have hk3 : Kp No w w3 := h2.kp.then hk3
  (repeat' (first | refine Gk ?_ | refine sst_box rfl rfl rfl rfl rfl (fun b hb hlt => ?_) | refine sst_alloc tb_ok rfl rfl rfl EV (fun b hb hlt => ?_)))
  refine sst_call tb_ok rfl rfl rfl rfl rfl EV AP (fun v _ _ => ∃ e : Int, v = .int .i64 e ∧ (e = 0 → pathB p = true)) ?_ ?_
  · exact fun w1 h1 => c105_17 p S S' a A B1 B2 m c n1 n2 w1 (hp.kp (hk3.then h1.kp)) (ha.kp (hk3.then h1.kp))
  rintro v w4 w5 h4 hk5 ⟨e, rfl, he⟩
  (repeat' (first | refine Gk ?_ | refine sst_box rfl rfl rfl rfl rfl (fun b hb hlt => ?_) | refine sst_alloc tb_ok rfl rfl rfl EV (fun b hb hlt => ?_)))
  refine sq_ret tb_ok rfl EV (fun w' hk hr => ?_)
  exact ⟨_, rfl, ((hk3.then h4.kp).then hk5).then hk, e, rfl, he⟩

/-- docstorelaw15.good at such a predicate. -/
theorem c21_17 (p : List ByteArray) (x : Val) (S S' S2 : Nat → Prop) (a : Val) (A B1 B2 : Option Addr) (m c n1 n2 : Nat) (w : World) (cx : List Value) (hp : RepB S w A m c p) (ha : RepV S' w a [.int .i64 a.k, .int .i64 a.n, .string a.t, .slice B1 a.l.length n1, .slice B2 a.d.length n2]) (hx : RepV S2 w x cx) :
    Calls Go.Proofs.Tryz.prog 21 #[.agg #[.int .i64 17, .slice A m c, .int .i64 a.k, .int .i64 a.n, .string a.t, .slice B1 a.l.length n1, .slice B2 a.d.length n2, .slice none 0 0, .int .i64 0, .int .i64 0, .int .i64 0, .slice none 0 0, .int .i64 0, .int .i64 0, .slice none 0 0, .string ⟨#[]⟩, .slice none 0 0, .int .i64 0, .int .i64 0, .string ⟨#[]⟩, .slice none 0 0, .slice none 0 0, .int .i64 0, .slice none 0 0, .slice none 0 0], .agg cx.toArray] w fun e w2 => ∃ v, e = .returned v ∧ Kp No w w2 ∧ ∃ b : Bool, v = .bool b ∧ (b = true → pathB p = true) := by
  obtain ⟨B3, m3, B4, m4, rfl, -⟩ := hx.parts
  refine calls_intro (args := [_, _]) w.heap.size Go.Proofs.Tryz.func21 rfl Go.Proofs.Tryz.ntmps21 (by simp) (Nat.le_refl _) ?_
  (repeat' (first | refine Gk ?_ | refine sst_box rfl rfl rfl rfl rfl (fun b hb hlt => ?_) | refine sst_alloc tb_ok rfl rfl rfl EV (fun b hb hlt => ?_)))
  refine sst_call tb_ok rfl rfl rfl rfl rfl EV AP (fun v _ _ => ∃ e : Int, v = .int .i64 e ∧ (e = 0 → pathB p = true)) ?_ ?_
  · exact fun w1 h1 => c59_17 p S S' a A B1 B2 m c n1 n2 w1 (hp.kp h1.kp) (ha.kp h1.kp)
  rintro v w2 w3 h2 hk3 ⟨e, rfl, he⟩
  have hk3 : Kp No w w3 := h2.kp.then hk3
  (repeat' (first | refine Gk ?_ | refine sst_box rfl rfl rfl rfl rfl (fun b hb hlt => ?_) | refine sst_alloc tb_ok rfl rfl rfl EV (fun b hb hlt => ?_)))
  refine sst_guard rfl rfl rfl (fun hg => ?_) (fun hg => ?_)
  · (repeat' (first | refine Gk ?_ | refine sst_box rfl rfl rfl rfl rfl (fun b hb hlt => ?_) | refine sst_alloc tb_ok rfl rfl rfl EV (fun b hb hlt => ?_)))
    refine sst_call tb_ok rfl rfl rfl rfl rfl EV AP (fun v _ _ => ∃ b : Bool, v = .bool b) ?_ ?_
    · exact fun w1 h1 => c67 x S2 w1 _ (hx.kp (hk3.then h1.kp))
    rintro v w4 w5 h4 hk5 ⟨vb, rfl⟩
    (repeat' (first | refine Gk ?_ | refine sst_box rfl rfl rfl rfl rfl (fun b hb hlt => ?_) | refine sst_alloc tb_ok rfl rfl rfl EV (fun b hb hlt => ?_)))
    refine sq_ret tb_ok rfl EV (fun w' hk hr => ?_)
    exact ⟨_, rfl, ((hk3.then h4.kp).then hk5).then hk, _, rfl, fun _ => he (by simpa using hg)⟩
  (repeat' (first | refine Gk ?_ | refine sst_box rfl rfl rfl rfl rfl (fun b hb hlt => ?_) | refine sst_alloc tb_ok rfl rfl rfl EV (fun b hb hlt => ?_)))
  refine sq_ret tb_ok rfl EV (fun w' hk hr => ?_)
  exact ⟨_, rfl, hk3.then hk, _, rfl, fun h => by cases h⟩
end Go.Fw

set_option linter.unusedVariables false
set_option linter.unusedSimpArgs false
namespace Go.Fw
open Go
section
variable {P : Program} {ops : Array Oper} {nk : List Nat} {Q : Exit → Act → World → Prop} {s : Sym}

theorem Fits.rebaseE {a : Act} {w w2 : World} {E : Nat → Prop} (hf0 : Fits s a w) (hk : Kp E w w2) (hE : ∀ k ∈ s.blocks, ¬ E k) : Fits (s.rebase w2) a w2 := by
  have hf := hf0.rebase
  have hb : (s.rebase w).blocks = s.blocks := by
    simp [Sym.blocks, Sym.rebase, oldL, oldR, List.filterMap_map, Function.comp_def, List.map_map]
  refine ⟨hf.size, hf.defers, hf.env, hf.wf, Kp.refl _ _, ?_, ?_, hf.dist, ⟨Nat.le_trans hf0.lb.1 (Nat.le_trans hf0.kp.size hk.size), hf.lb.2⟩, ?_, ?_⟩
  · intro i bx hi
    refine hk.heap (hf.loc i bx hi) (hE _ ?_)
    rw [← hb]
    exact List.mem_append.2 (.inr (List.mem_map.2 ⟨bx, List.mem_of_getElem? hi, rfl⟩))
  · intro i r hi
    refine ownsRow_kp (hf.row i r hi) hk fun g hg => hE _ ?_
    rw [← hb]
    exact List.mem_append.2 (.inl (List.mem_filterMap.2 ⟨r, List.mem_of_getElem? hi, hg⟩))
  · intro i bx hi hn
    simp only [Sym.rebase, oldL, List.getElem?_map] at hi
    obtain ⟨b0, h0, rfl⟩ := Option.map_eq_some_iff.1 hi
    cases hn
  · intro i bx hi hn
    simp only [Sym.rebase, oldR, List.getElem?_map] at hi
    obtain ⟨b0, h0, rfl⟩ := Option.map_eq_some_iff.1 hi
    cases hn

/-- A call that changes blocks that are none of ours. -/
theorem sst_callD {tb : Tb} (ht : TbOk P tb) {l : List Oper} {i : Nat} {o : Oper} {rest : List (Nat × Oper)} {fx : Operand} {ags : Array Operand} {ats : Array TypeId}
    (hop : o.op = .call { callee := .value fx, args := ags, argTypes := ats }) (hg : guardV l s o.guard = some true) (hd : dok s o.dst = true) (hnk : nk.contains i = true)
    {f : FuncId} {first captured : List Value} (hfx : evS s fx = some (.val (.func (.func f) first.toArray captured.toArray))) (hfn : tb.fn f = true)
    {vs args : List Value} (hvs : evArgs s ags.toList = some vs) (hargs' : first ++ vs ++ captured = args) (E : Nat → Prop) (hE : ∀ k ∈ s.blocks, ¬ E k) (R : Value → World → World → Prop)
    (hc : ∀ w1, At s w1 → Calls P f args.toArray w1 (fun e w2 => ∃ v, e = .returned v ∧ Kp E w1 w2 ∧ R v w1 w2))
    (h : ∀ v w1 w2, At s w1 → Kp E w1 w2 → R v w1 w2 → SSeq P l.toArray nk Q rest ((s.rebase w2).put o.dst (toSV v))) : SSt P l nk Q ((i, o) :: rest) s := by
  intro a w hf
  simp only [wpSeqK]
  rw [if_pos (guardV_eq hf hg)]
  refine .inr ⟨by rw [hop]; rfl, ?_⟩
  subst hargs'
  have hargs : ags.map a.eval = vs.toArray := by
    rw [← evArgs_eq hf hvs]; apply Array.ext'; simp
  have hrun : (execOp a.eval o).run P w = .ok (.enter f (first ++ vs ++ captured).toArray) w := by
    unfold execOp
    simp only [hop]
    simp [resolve, hargs, (hf.ev hfx).1, den, Deferred.ofValue, invoke, run_callFunc ht hfn]
  unfold Oper.wp
  rw [hrun]
  simp only [Oper.upon]
  refine (hc w hf.at).mono ?_
  rintro e w2 ⟨v, rfl, hk, hR⟩
  refine ⟨fun hn => (by rw [hnk] at hn; cases hn), h v w w2 hf.at hk hR _ _ ?_⟩
  have := (hf.rebaseE hk hE).put (d := o.dst) (sv := toSV v) (by cases hd' : o.dst with | none => rfl | some d => rw [hd'] at hd; exact hd) (svOk_toSV _ _)
  rw [den_toSV] at this
  exact this
end

theorem swp_cutX {P : Program} {Q : Exit → Act → World → Prop} {s : Sym} {X : Type} {x y : Code} (Inv : X → Prop) (St : X → Sym) (hx : SWp P x (MeetX Inv St Q) s) (hy : ∀ x, Inv x → SWp P y Q (St x)) : SWp P x (Exit.then (y.wp P Q) Q) s := by
  unfold SWp at *
  exact fun a w hf => wp_mono (hx a w hf) fun e a' w' h => by
    cases e with
    | normal => obtain ⟨x, h1, h2⟩ := h; exact hy x h1 a' w' h2
    | _ => exact h

/-- A document of one field in a row of one's own. -/
def OwnD (base : Nat) (w : World) (g : Nat) (s : ByteArray) (y : Val) (S : Nat → Prop) : Prop :=
  base ≤ g ∧ s.size ≤ LIM ∧ ∃ cs : List Value, w.ownsRow base 114 6 (.slice (some ⟨g, 0, none⟩) 1 1) 1 (.string s :: cs) ∧ RepV (fun b => b ≠ g ∧ S b) w y cs

theorem OwnD.kp {base : Nat} {w w' : World} {g : Nat} {s : ByteArray} {y : Val} {S : Nat → Prop} (h : OwnD base w g s y S) (hk : Kp No w w') : OwnD base w' g s y S := by
  obtain ⟨h1, h2, cs, h3, h4⟩ := h
  exact ⟨h1, h2, cs, ownsRow_kp h3 hk (fun _ _ h => h), h4.kp hk⟩

theorem OwnD.row {base : Nat} {w : World} {g : Nat} {s : ByteArray} {y : Val} {S : Nat → Prop} (h : OwnD base w g s y S) : ∃ cs, RowAt w g 0 (.string s :: cs) ∧ RepV (fun b => b ≠ g ∧ S b) w y cs := by
  obtain ⟨h1, h2, cs, h3, h4⟩ := h
  have := RowAt.ofOwns h3 (g := g) rfl 0
  rw [Nat.zero_mul, Nat.add_zero] at this
  have hl := h3.1
  rw [sl_all (by simpa using hl)] at this
  exact ⟨cs, this, h4⟩

theorem OwnD.rep {base : Nat} {w : World} {g : Nat} {s : ByteArray} {y : Val} {S : Nat → Prop} (h : OwnD base w g s y S) : RepD (fun _ => True) w (some ⟨g, 0, none⟩) 1 1 [(s, y)] := by
  obtain ⟨h1, h2, cs, h3, h4⟩ := h
  have hl := h3.1
  obtain ⟨A, c, hv, hr⟩ := RepD.ofRow (d := [(s, y)]) (S := fun _ => True) h3 rfl (by rw [LIM_eq]; omega) (fun _ _ => trivial) (fun i f hf => by
    cases i with
    | zero =>
      simp at hf
      subst hf
      refine ⟨h2, cs, ?_, h4.tr⟩
      rw [sl_all (by simpa using hl)]
    | succ i => simp at hf)
  obtain ⟨rfl, rfl⟩ : A = some ⟨g, 0, none⟩ ∧ c = 1 := by simpa [eq_comm] using hv
  exact hr
end Go.Fw

set_option linter.unusedVariables false
set_option linter.unusedSimpArgs false
set_option maxRecDepth 10000
set_option maxHeartbeats 2000000
namespace Go.Fw
open Go
attribute [local irreducible] SWp SQ SSeq SSt Quiet Next Meet
attribute [local irreducible] MeetX

theorem clone_own (x : Val) (S : Nat → Prop) (w : World) (cs : List Value) (hx : RepV S w x cs) (hdn : x.d ≠ []) :
    Calls Go.Proofs.Tryz.prog 128 #[.agg cs.toArray] w fun e w2 => ∃ v, e = .returned v ∧ Kp No w w2 ∧ ∃ (g : Nat) (A1 : Option Addr) (cA : Nat), v = .agg #[.int .i64 x.k, .int .i64 x.n, .string x.t, .slice A1 x.l.length cA, .slice (some ⟨g, 0, none⟩) x.d.length x.d.length] ∧ w.heap.size ≤ g ∧
      ∃ xs, w2.ownsRow w.heap.size 114 6 (.slice (some ⟨g, 0, none⟩) x.d.length x.d.length) x.d.length xs ∧ ∀ (j : Nat) (z : ByteArray × Val), x.d[j]? = some z → z.1.size ≤ LIM ∧ ∃ cs, sl 6 xs j = .string z.1 :: cs ∧ RepV (fun b => b ≠ g) w2 z.2 cs := by
  have H1 : ∀ z ∈ x.l, CloneC z := fun z _ => clone_all z
  have H2 : ∀ z ∈ x.d, CloneC z.2 := fun z _ => clone_all z.2
  obtain ⟨k, n, t, l, d⟩ := x
  obtain ⟨A, c, B, c1, rfl, hk', hn, ht, hl, hd⟩ := hx.parts
  simp only [Val.k, Val.n, Val.t, Val.l, Val.d] at *
  have hlb := hl.2.1
  have hdb := hd.2.1
  rw [LIM_eq] at hlb hdb
  refine calls_intro (args := [_]) w.heap.size Go.Proofs.Tryz.func128 rfl Go.Proofs.Tryz.ntmps128 (by simp) (Nat.le_refl _) ?_
  (refine swp_seq ?_; refine swp_region ?_; (repeat' (first | refine Gr ?_ | refine sst_box rfl rfl rfl rfl rfl (fun b hb hlt => ?_) | refine sst_alloc tb_ok rfl rfl rfl EV (fun b hb hlt => ?_))))
  rename_i b0 hb0' hlt0
  have hb0 : w.heap.size ≤ b0 := hb0'
  have hb1 : w.heap.size ≤ b := hb
  have hb01 : b0 < b := hlt b0 (by simp [Sym.blocks, start, Sym.put, Sym.addL])
  clear hb hlt hb0' hlt0
  revert b
  intro b1 hb1 hb01
  refine swp_meetX (X := World × Option Addr × Nat) (fun x => Kp No w x.1 ∧ RepS (fun b => w.heap.size ≤ b ∧ b ≠ b0 ∧ b ≠ b1) x.1 x.2.1 l.length x.2.2 l)
    (fun x => ⟨60, [(1, .loc 0 0), (2, .loc 1 0)], [⟨b0, 26, [.int .i64 k, .int .i64 n, .string t, .slice x.2.1 l.length x.2.2, .slice B d.length c1], false⟩, ⟨b1, 26, [.int .i64 0, .int .i64 0, .string ⟨#[]⟩, .slice none 0 0, .slice none 0 0], false⟩], [], w.heap.size, x.1, No⟩) ?_ ?_
  · (repeat' (first | refine G0 ?_ | refine sst_box rfl rfl rfl rfl rfl (fun b hb hlt => ?_) | refine sst_alloc tb_ok rfl rfl rfl EV (fun b hb hlt => ?_)))
    refine swp_if rfl (fun h1 => ?_) (fun h1 => ?_)
    · have hA : A.isNone = false := by simpa using h1
      (repeat' (first | refine G0 ?_ | refine sst_box rfl rfl rfl rfl rfl (fun b hb hlt => ?_) | refine sst_alloc tb_ok rfl rfl rfl EV (fun b hb hlt => ?_)))
      refine sst_make tb_ok rfl rfl rfl EV EV (by rfl) l.length l.length rfl rfl (Nat.le_refl _) (by omega) (fun g hg hgl => ?_)
      have hgw : w.heap.size ≤ g := hg
      have hgb0 : b0 < g := hgl b0 (by simp [Sym.blocks, Sym.put, Sym.know])
      have hgb1 : b1 < g := hgl b1 (by simp [Sym.blocks, Sym.put, Sym.know])
      clear hg hgl
      (repeat' (first | refine G0 ?_ | refine sst_box rfl rfl rfl rfl rfl (fun b hb hlt => ?_) | refine sst_alloc tb_ok rfl rfl rfl EV (fun b hb hlt => ?_)))
      refine swp_loop (X := World × Nat × List Value) (fun x => Kp No w x.1 ∧ x.2.1 ≤ l.length ∧ x.2.2.length = l.length * 5 ∧ ∀ (j : Nat) z, j < x.2.1 → l[j]? = some z → RepV (fun b => w.heap.size ≤ b ∧ b ≠ b0 ∧ b ≠ b1 ∧ b ≠ g) x.1 z (sl 5 x.2.2 j))
        (fun x => ⟨60, [(19, .val (.int .i64 (x.2.1 : Int))), (18, .val (.int .i64 (l.length : Int))), (17, .val (.slice A l.length c)), (3, .val (.slice (some ⟨g, 0, none⟩) l.length l.length)), (1, .loc 0 0), (2, .loc 1 0)], [⟨b0, 26, [.int .i64 k, .int .i64 n, .string t, .slice A l.length c, .slice B d.length c1], false⟩, ⟨b1, 26, [.int .i64 0, .int .i64 0, .string ⟨#[]⟩, .slice none 0 0, .slice none 0 0], false⟩], [⟨.slice (some ⟨g, 0, none⟩) l.length l.length, 26, 5, l.length, x.2.2, false⟩], w.heap.size, x.1, No⟩) (fun x => l.length - x.2.1) ?_ ?_
      · intro w1 h1
        have h5 := (h1.row _ (by simp [Sym.put, Sym.addR, Sym.addL]; rfl)).1
        refine ⟨(w1, 0, _), ⟨h1.kp, Nat.zero_le _, h5, by simp⟩, ?_⟩
        (refine WKmk ?_; try trivial)
      rintro ⟨w1, i, xs⟩ ⟨hk1, hi, hxl, hel⟩
      simp only at hk1 hi hxl hel
      (repeat' (first | refine G0 ?_ | refine sst_box rfl rfl rfl rfl rfl (fun b hb hlt => ?_) | refine sst_alloc tb_ok rfl rfl rfl EV (fun b hb hlt => ?_)))
      refine swp_if rfl (fun h2 => ?_) (fun h2 => ?_)
      · have hi : i < l.length := by simp at h2; omega
        obtain ⟨z, hz⟩ := get_of_lt hi
        obtain ⟨bz, off, cz, rfl, hSb, hin, hcl, hrow, hrz⟩ := hl.get hz
        obtain ⟨B1, m1, B2, m2, rfl, -⟩ := hrz.parts
        (repeat' (first | refine G0 ?_ | refine sst_box rfl rfl rfl rfl rfl (fun b hb hlt => ?_) | refine sst_alloc tb_ok rfl rfl rfl EV (fun b hb hlt => ?_)))
        refine sst_quiet rfl rfl (q_index tb_ok rfl el_23 rfl rfl i rfl hin) ?_
        (repeat' (first | refine G0 ?_ | refine sst_box rfl rfl rfl rfl rfl (fun b hb hlt => ?_) | refine sst_alloc tb_ok rfl rfl rfl EV (fun b hb hlt => ?_)))
        refine sst_quiet rfl rfl (q_far_agg tb_ok rfl sz_26 rfl id hcl (hrow.kp hk1 id)) ?_
        (repeat' (first | refine G0 ?_ | refine sst_box rfl rfl rfl rfl rfl (fun b hb hlt => ?_) | refine sst_alloc tb_ok rfl rfl rfl EV (fun b hb hlt => ?_)))
        refine sst_call tb_ok rfl rfl rfl rfl rfl EV AP (fun v wa wb => ∃ cs' : List Value, v = .agg cs'.toArray ∧ RepV (fun b => wa.heap.size ≤ b) wb z cs') ?_ ?_
        · exact fun w2 h2 => H1 z (List.mem_of_getElem? hz) S w2 _ (hrz.kp (hk1.then h2.kp))
        rintro v w2 w3 h2 hk3 ⟨cs', rfl, hrz'⟩
        have hcl' := hrz'.length
        obtain ⟨B1', m1', B2', m2', rfl, -⟩ := hrz'.parts
        (repeat' (first | refine G0 ?_ | refine sst_box rfl rfl rfl rfl rfl (fun b hb hlt => ?_) | refine sst_alloc tb_ok rfl rfl rfl EV (fun b hb hlt => ?_)))
        refine sst_quiet rfl rfl (q_index tb_ok rfl el_23 rfl rfl i rfl hin) ?_
        (repeat' (first | refine G0 ?_ | refine sst_box rfl rfl rfl rfl rfl (fun b hb hlt => ?_) | refine sst_alloc tb_ok rfl rfl rfl EV (fun b hb hlt => ?_)))
        refine sst_rowStore tb_ok rfl rfl rfl rfl rfl 0 rfl rfl EV rfl EV (by rfl) ?_ (by rfl) ?_
        · have := mul_lt_le (size := 5) hi
          simp only [hxl]; omega
        (repeat' (first | refine G0 ?_ | refine sst_box rfl rfl rfl rfl rfl (fun b hb hlt => ?_) | refine sst_alloc tb_ok rfl rfl rfl EV (fun b hb hlt => ?_)))
        refine sq_next fun w4 h4 => ?_
        have hlt := h2.lt
        simp only [Sym.blocks, Sym.put, Sym.addL, List.map_cons, List.map_nil, List.filterMap_cons, Value.ownBlock, List.filterMap_nil] at hlt
        have hb0' : b0 < w2.heap.size := hlt b0 (by simp)
        have hb1' : b1 < w2.heap.size := hlt b1 (by simp)
        have hg' : g < w2.heap.size := hlt g (by simp)
        have hk13 : Kp No w1 w3 := h2.kp.then hk3
        have hk4 := h4.kp
        have hD : ∀ k, dirtyV No (.slice (some ⟨g, 0, none⟩) l.length l.length) k → k = g := by
          intro k hk
          rcases hk with hk | hk
          · simpa [Value.ownBlock, eq_comm] using hk
          · exact hk.elim
        refine ⟨(w4, i + 1, putL xs (i * 5) [.int .i64 z.k, .int .i64 z.n, .string z.t, .slice B1' z.l.length m1', .slice B2' z.d.length m2']), ⟨(hk1.then hk13).thenNew hk4 (fun k hk => by rw [hD k hk]; exact hgw), by simp; omega, ?_, ?_⟩, by simp; omega, ?_⟩
        rotate_left 2
        · (refine WKmk ?_; try trivial)
          rw [wr_small (by omega)]
          simp
        · simp only [putL_length, hxl]
        · intro j y hj hy
          by_cases hji : j = i
          · subst hji
            rw [hz] at hy
            obtain rfl := Option.some.inj hy
            have hsl := sl_put_same (size := 5) (xs := xs) (i := j) (vs := [.int .i64 z.k, .int .i64 z.n, .string z.t, .slice B1' z.l.length m1', .slice B2' z.d.length m2']) rfl (by have := mul_lt_le (size := 5) hi; omega)
            rw [hsl]
            exact hrz'.to hk4 (fun b' hb' _ => ⟨fun hd' => by have := hD _ hd'; omega, by omega, by omega, by omega, by omega⟩)
          · have hsl := sl_put_ne (size := 5) (xs := xs) (i := i) (vs := [.int .i64 z.k, .int .i64 z.n, .string z.t, .slice B1' z.l.length m1', .slice B2' z.d.length m2']) rfl hji
            rw [hsl]
            exact (hel j y (by simp at hj; omega) hy).to (hk13.of_no.trans hk4) (fun b' hb' _ => ⟨fun hd' => hb'.2.2.2 (hD _ hd'), hb'⟩)
      · (repeat' (first | refine G0 ?_ | refine sst_box rfl rfl rfl rfl rfl (fun b hb hlt => ?_) | refine sst_alloc tb_ok rfl rfl rfl EV (fun b hb hlt => ?_)))
        refine sq_meetX fun w4 h4 => ?_
        have hk4 := h4.kp
        have hD : ∀ k, dirty No b0 k → k = b0 := fun k hk => hk.elim id False.elim
        have hie : i = l.length := by simp at h2; omega
        obtain ⟨A', c', hv, hrs⟩ := RepS.ofRow (S := fun b => w.heap.size ≤ b ∧ b ≠ b0 ∧ b ≠ b1) (h4.row _ (by simp [Sym.put, Sym.addR, Sym.addL]; rfl)) rfl hl.2.1 (fun g' hg' => by simp [Value.ownBlock] at hg'; omega)
          (fun j y hy => (hel j y (by rw [hie]; exact (List.getElem?_eq_some_iff.1 hy).1) hy).to hk4 (fun b' hb' _ => ⟨fun hd' => hb'.2.1 (hD _ hd'), hb'.1, hb'.2.1, hb'.2.2.1⟩))
        obtain ⟨rfl, rfl⟩ : A' = some ⟨g, 0, none⟩ ∧ c' = l.length := by simpa [eq_comm] using hv
        refine ⟨(w4, _, _), ⟨hk1.thenNew hk4 (fun k hk => by rw [hD k hk]; exact hb0), hrs⟩, ?_⟩
        (refine WKmk ?_; try trivial)
    · have hA : A = none := by simpa using h1
      subst hA
      have hl0 : l = [] := by
        rcases hl.2.2.2 with ⟨C, h3 | ⟨b, off, h3, _⟩, _⟩
        · exact List.length_eq_zero_iff.1 h3
        · cases h3
      subst hl0
      (repeat' (first | refine G0 ?_ | refine sst_box rfl rfl rfl rfl rfl (fun b hb hlt => ?_) | refine sst_alloc tb_ok rfl rfl rfl EV (fun b hb hlt => ?_)))
      refine sq_meetX fun w4 h4 => ?_
      refine ⟨(w4, none, c), ⟨h4.kp, RepS.nil _ _ _ _⟩, ?_⟩
      (refine WKmk ?_; try trivial)
  rintro ⟨wL, A1, cA⟩ ⟨hkL, hlL⟩
  simp only at hkL hlL
  refine swp_meetX (X := World × Nat) (fun x => Kp No w x.1 ∧ x.2 ≠ b1 ∧ w.heap.size ≤ x.2 ∧ ∃ xs, x.1.ownsRow w.heap.size 114 6 (.slice (some ⟨x.2, 0, none⟩) d.length d.length) d.length xs ∧ ∀ (j : Nat) (z : ByteArray × Val), d[j]? = some z → z.1.size ≤ LIM ∧ ∃ cs, sl 6 xs j = .string z.1 :: cs ∧ RepV (fun b => b ≠ b1 ∧ b ≠ x.2) x.1 z.2 cs)
    (fun x => ⟨60, [(1, .loc 0 0), (2, .loc 1 0)], [⟨b0, 26, [.int .i64 k, .int .i64 n, .string t, .slice A1 l.length cA, .slice (some ⟨x.2, 0, none⟩) d.length d.length], false⟩, ⟨b1, 26, [.int .i64 0, .int .i64 0, .string ⟨#[]⟩, .slice none 0 0, .slice none 0 0], false⟩], [], w.heap.size, x.1, No⟩) ?_ ?_
  · (repeat' (first | refine G0 ?_ | refine sst_box rfl rfl rfl rfl rfl (fun b hb hlt => ?_) | refine sst_alloc tb_ok rfl rfl rfl EV (fun b hb hlt => ?_)))
    refine swp_if rfl (fun h1 => ?_) (fun h1 => ?_)
    · have hA : B.isNone = false := by simpa using h1
      (repeat' (first | refine G0 ?_ | refine sst_box rfl rfl rfl rfl rfl (fun b hb hlt => ?_) | refine sst_alloc tb_ok rfl rfl rfl EV (fun b hb hlt => ?_)))
      refine sst_make tb_ok rfl rfl rfl EV EV (by rfl) d.length d.length rfl rfl (Nat.le_refl _) (by omega) (fun g hg hgl => ?_)
      have hgw : wL.heap.size ≤ g := hg
      have hgw' : w.heap.size ≤ g := Nat.le_trans hkL.size hgw
      have hgb0 : b0 < g := hgl b0 (by simp [Sym.blocks, Sym.put, Sym.know])
      have hgb1 : b1 < g := hgl b1 (by simp [Sym.blocks, Sym.put, Sym.know])
      clear hg hgl
      (repeat' (first | refine G0 ?_ | refine sst_box rfl rfl rfl rfl rfl (fun b hb hlt => ?_) | refine sst_alloc tb_ok rfl rfl rfl EV (fun b hb hlt => ?_)))
      refine swp_loop (X := World × Nat × List Value) (fun x => Kp No wL x.1 ∧ x.2.1 ≤ d.length ∧ x.2.2.length = d.length * 6 ∧ ∀ (j : Nat) (z : ByteArray × Val), j < x.2.1 → d[j]? = some z → z.1.size ≤ LIM ∧ ∃ cs, sl 6 x.2.2 j = .string z.1 :: cs ∧ RepV (fun b => w.heap.size ≤ b ∧ b ≠ b0 ∧ b ≠ b1 ∧ b ≠ g) x.1 z.2 cs)
        (fun x => ⟨60, [(42, .val (.int .i64 (x.2.1 : Int))), (41, .val (.int .i64 (d.length : Int))), (40, .val (.slice B d.length c1)), (6, .val (.slice (some ⟨g, 0, none⟩) d.length d.length)), (1, .loc 0 0), (2, .loc 1 0)], [⟨b0, 26, [.int .i64 k, .int .i64 n, .string t, .slice A1 l.length cA, .slice B d.length c1], false⟩, ⟨b1, 26, [.int .i64 0, .int .i64 0, .string ⟨#[]⟩, .slice none 0 0, .slice none 0 0], false⟩], [⟨.slice (some ⟨g, 0, none⟩) d.length d.length, 114, 6, d.length, x.2.2, false⟩], w.heap.size, x.1, No⟩) (fun x => d.length - x.2.1) ?_ ?_
      · intro w1 h1
        have h5 := (h1.row _ (by simp [Sym.put, Sym.addR, Sym.addL]; rfl)).1
        refine ⟨(w1, 0, _), ⟨h1.kp, Nat.zero_le _, h5, by simp⟩, ?_⟩
        (refine WKmk ?_; try trivial)
      rintro ⟨w1, i, xs⟩ ⟨hk1', hi, hxl, hel⟩
      simp only at hk1' hi hxl hel
      have hk1 := hkL.then hk1'
      (repeat' (first | refine G0 ?_ | refine sst_box rfl rfl rfl rfl rfl (fun b hb hlt => ?_) | refine sst_alloc tb_ok rfl rfl rfl EV (fun b hb hlt => ?_)))
      refine swp_if rfl (fun h2 => ?_) (fun h2 => ?_)
      · have hi : i < d.length := by simp at h2; omega
        obtain ⟨z, hz⟩ := get_of_lt hi
        obtain ⟨bz, off, cz, rfl, hSb, hin, hcl, hrow, hrz, hzs⟩ := hd.get hz
        obtain ⟨B1, m1, B2, m2, rfl, -⟩ := hrz.parts
        (repeat' (first | refine G0 ?_ | refine sst_box rfl rfl rfl rfl rfl (fun b hb hlt => ?_) | refine sst_alloc tb_ok rfl rfl rfl EV (fun b hb hlt => ?_)))
        refine sst_quiet rfl rfl (q_index tb_ok rfl el_24 rfl rfl i rfl hin) ?_
        (repeat' (first | refine G0 ?_ | refine sst_box rfl rfl rfl rfl rfl (fun b hb hlt => ?_) | refine sst_alloc tb_ok rfl rfl rfl EV (fun b hb hlt => ?_)))
        refine sst_quiet rfl rfl (q_far_agg tb_ok rfl sz_114 rfl id (by rfl) (hrow.kp hk1 id)) ?_
        (repeat' (first | refine G0 ?_ | refine sst_box rfl rfl rfl rfl rfl (fun b hb hlt => ?_) | refine sst_alloc tb_ok rfl rfl rfl EV (fun b hb hlt => ?_)))
        refine swp_draw mixed [0, 1, 2, 3, 4, 5, 6, 7, 8, 9] [9] (by kernel_rfl) (by kernel_rfl) rfl ?_
        (repeat' (first | refine G0 ?_ | refine sst_box rfl rfl rfl rfl rfl (fun b hb hlt => ?_) | refine sst_alloc tb_ok rfl rfl rfl EV (fun b hb hlt => ?_)))
        refine sst_call tb_ok rfl rfl rfl rfl rfl EV AP (fun v wa wb => ∃ cs' : List Value, v = .agg cs'.toArray ∧ RepV (fun b => wa.heap.size ≤ b) wb z.2 cs') ?_ ?_
        · exact fun w2 h2 => H2 z (List.mem_of_getElem? hz) S w2 _ (hrz.kp (hk1.then h2.kp))
        rintro v w2 w3 h2 hk3 ⟨cs', rfl, hrz'⟩
        have hcl' := hrz'.length
        obtain ⟨B1', m1', B2', m2', rfl, -⟩ := hrz'.parts
        (repeat' (first | refine G0 ?_ | refine sst_box rfl rfl rfl rfl rfl (fun b hb hlt => ?_) | refine sst_alloc tb_ok rfl rfl rfl EV (fun b hb hlt => ?_)))
        refine sst_quiet rfl rfl (q_index tb_ok rfl el_24 rfl rfl i rfl hin) ?_
        (repeat' (first | refine G0 ?_ | refine sst_box rfl rfl rfl rfl rfl (fun b hb hlt => ?_) | refine sst_alloc tb_ok rfl rfl rfl EV (fun b hb hlt => ?_)))
        refine sst_rowStore tb_ok rfl rfl rfl rfl rfl 0 rfl rfl EV rfl EV (by rfl) ?_ (by rfl) ?_
        · have := mul_lt_le (size := 6) hi
          simp only [hxl]; omega
        (repeat' (first | refine G0 ?_ | refine sst_box rfl rfl rfl rfl rfl (fun b hb hlt => ?_) | refine sst_alloc tb_ok rfl rfl rfl EV (fun b hb hlt => ?_)))
        refine sq_next fun w4 h4 => ?_
        have hlt := h2.lt
        simp only [Sym.blocks, Sym.put, Sym.addL, List.map_cons, List.map_nil, List.filterMap_cons, Value.ownBlock, List.filterMap_nil] at hlt
        have hb0' : b0 < w2.heap.size := hlt b0 (by simp)
        have hb1' : b1 < w2.heap.size := hlt b1 (by simp)
        have hg' : g < w2.heap.size := hlt g (by simp)
        have hk13 : Kp No w1 w3 := h2.kp.then hk3
        have hk4 := h4.kp
        have hww := (hk1.then h2.kp).size
        have hD : ∀ k, dirtyV No (.slice (some ⟨g, 0, none⟩) d.length d.length) k → k = g := by
          intro k hk
          rcases hk with hk | hk
          · simpa [Value.ownBlock, eq_comm] using hk
          · exact hk.elim
        refine ⟨(w4, i + 1, putL xs (i * 6) [.string z.1, .int .i64 z.2.k, .int .i64 z.2.n, .string z.2.t, .slice B1' z.2.l.length m1', .slice B2' z.2.d.length m2']), ⟨(hk1'.then hk13).thenNew hk4 (fun k hk => by rw [hD k hk]; exact hgw), by simp; omega, ?_, ?_⟩, by simp; omega, ?_⟩
        rotate_left 2
        · (refine WKmk ?_; try trivial)
          rw [wr_small (by omega)]
          simp
        · simp only [putL_length, hxl]
        · intro j y hj hy
          by_cases hji : j = i
          · subst hji
            rw [hz] at hy
            obtain rfl := Option.some.inj hy
            have hsl := sl_put_same (size := 6) (xs := xs) (i := j) (vs := [.string z.1, .int .i64 z.2.k, .int .i64 z.2.n, .string z.2.t, .slice B1' z.2.l.length m1', .slice B2' z.2.d.length m2']) rfl (by have := mul_lt_le (size := 6) hi; omega)
            rw [hsl]
            exact ⟨hzs, _, rfl, hrz'.to hk4 (fun b' hb' _ => ⟨fun hd' => by have := hD _ hd'; omega, by omega, by omega, by omega, by omega⟩)⟩
          · have hsl := sl_put_ne (size := 6) (xs := xs) (i := i) (vs := [.string z.1, .int .i64 z.2.k, .int .i64 z.2.n, .string z.2.t, .slice B1' z.2.l.length m1', .slice B2' z.2.d.length m2']) rfl hji
            rw [hsl]
            obtain ⟨h6, cy, h7, h8⟩ := hel j y (by simp at hj; omega) hy
            exact ⟨h6, cy, h7, h8.to (hk13.of_no.trans hk4) (fun b' hb' _ => ⟨fun hd' => hb'.2.2.2 (hD _ hd'), hb'⟩)⟩
      · (repeat' (first | refine G0 ?_ | refine sst_box rfl rfl rfl rfl rfl (fun b hb hlt => ?_) | refine sst_alloc tb_ok rfl rfl rfl EV (fun b hb hlt => ?_)))
        refine sq_meetX fun w4 h4 => ?_
        have hk4 := h4.kp
        have hD : ∀ k, dirty No b0 k → k = b0 := fun k hk => hk.elim id False.elim
        have hie : i = d.length := by simp at h2; omega
        refine ⟨(w4, g), ⟨hk1.thenNew hk4 (fun k hk => by rw [hD k hk]; exact hb0), by simp only; omega, hgw', _, h4.row _ (by simp [Sym.put, Sym.addR, Sym.addL]; rfl), fun j y hy => ?_⟩, ?_⟩
        · obtain ⟨h6, cy, h7, h8⟩ := hel j y (by rw [hie]; exact (List.getElem?_eq_some_iff.1 hy).1) hy
          exact ⟨h6, cy, h7, h8.to hk4 (fun b' hb' _ => ⟨fun hd' => hb'.2.1 (hD _ hd'), hb'.2.2.1, hb'.2.2.2⟩)⟩
        (refine WKmk ?_; try trivial)
    · have hA : B = none := by simpa using h1
      subst hA
      have hl0 : d = [] := by
        rcases hd.2.2.2 with ⟨C, C2, h3 | ⟨b, off, h3, _⟩, _⟩
        · exact List.length_eq_zero_iff.1 h3
        · cases h3
      subst hl0
      exact absurd rfl hdn
  rintro ⟨wD, g⟩ ⟨hkD, hg1, hgw, xs, hown, hel⟩
  simp only at hkD hg1 hgw hown hel
  (repeat' (first | refine G0 ?_ | refine sst_box rfl rfl rfl rfl rfl (fun b hb hlt => ?_) | refine sst_alloc tb_ok rfl rfl rfl EV (fun b hb hlt => ?_)))
  refine sq_ret tb_ok rfl EV (fun w' hk hr => ?_)
  have hD : ∀ k, dirty No b1 k → k = b1 := fun k hk => hk.elim id False.elim
  refine ⟨_, rfl, hkD.thenNew hk (fun k hk => by rw [hD k hk]; exact hb1), g, A1, cA, rfl, hgw, xs, ?_, fun j z hz => ?_⟩
  · exact ownsRow_kp hown hk fun g' hg' hd' => by
      simp [Value.ownBlock] at hg'
      have := hD _ hd'
      omega
  · obtain ⟨h6, cy, h7, h8⟩ := hel j z hz
    exact ⟨h6, cy, h7, h8.to hk fun b' hb' _ => ⟨fun hd' => hb'.1 (hD _ hd'), hb'.2⟩⟩

theorem clone_one (s : ByteArray) (y : Val) (S : Nat → Prop) (w : World) (cs : List Value) (hx : RepV S w (.mk 5 0 ⟨#[]⟩ [] [(s, y)]) cs) :
    Calls Go.Proofs.Tryz.prog 128 #[.agg cs.toArray] w fun e w2 => ∃ v, e = .returned v ∧ Kp No w w2 ∧ ∃ (g : Nat) (A1 : Option Addr) (cA : Nat), v = .agg #[.int .i64 5, .int .i64 0, .string ⟨#[]⟩, .slice A1 0 cA, .slice (some ⟨g, 0, none⟩) 1 1] ∧ OwnD w.heap.size w2 g s y (fun _ => True) := by
  refine (clone_own _ S w cs hx (by simp [Val.d])).mono ?_
  rintro e w2 ⟨v, rfl, hk, g, A1, cA, rfl, hg, xs, ho, he⟩
  obtain ⟨h1, cy, h2, h3⟩ := he 0 (s, y) rfl
  rw [sl_all (by have := ho.1; simpa [Val.d] using this)] at h2
  subst h2
  exact ⟨_, rfl, hk, g, A1, cA, rfl, hg, h1, cy, ho, h3.to (Kp.refl No _) fun b hb _ => ⟨id, hb, trivial⟩⟩
end Go.Fw
