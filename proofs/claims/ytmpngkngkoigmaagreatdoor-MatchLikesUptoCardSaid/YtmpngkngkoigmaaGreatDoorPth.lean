/- Helping lemmas for the cards of this seat's laws, of the texts: W15, W16. They state no law of their own. -/
import Derived.Test.YtmpngkngkoigmaaGreatDoorVal
set_option linter.unusedVariables false
set_option linter.unusedSimpArgs false
set_option maxRecDepth 10000
set_option maxHeartbeats 2000000
namespace Go.Fw
open Go
attribute [local irreducible] SWp SQ SSeq SSt Quiet Next Meet
attribute [local irreducible] MeetX

theorem form_step (x : Val) (H1 : ∀ z ∈ x.l, FormC z) (H2 : ∀ z ∈ x.d, FormC z.2) : FormC x := by
  intro S w cs hx
  obtain ⟨A1, c1, A2, c2, rfl, hxk, hxn, hxt, hl, hd⟩ := hx.parts
  have hdb := hd.2.1
  have hlb := hl.2.1
  rw [LIM_eq] at hdb hlb
  refine calls_intro (args := [_, _]) w.heap.size Go.Proofs.Tryz.func121 rfl Go.Proofs.Tryz.ntmps121 (by simp) (Nat.le_refl _) ?_
  (refine swp_seq ?_; refine swp_region ?_; (repeat' (first | refine Gr ?_ | refine sst_box rfl rfl rfl rfl rfl (fun b hb hlt => ?_) | refine sst_alloc tb_ok rfl rfl rfl EV (fun b hb hlt => ?_))))
  clear hb hlt
  have fin : ∀ (b : Bool) (w1 w' : World), Kp No w w1 → Kp No w1 w' → ∃ v, Ending.returned (oneOr [Value.bool b]) = .returned v ∧ Kp No w w' ∧ ∃ b : Bool, v = .bool b := fun b w1 w' h1 hk => ⟨_, rfl, h1.then hk, _, rfl⟩
  refine swp_seq ?_
  refine swp_meetX (X := World × Bool) (fun y => Kp No w y.1) (fun y => ⟨138, [(27, .sb y.2), (2, .loc 0 0), (1, .val (.bool true))], [⟨b, 26, [.int .i64 x.k, .int .i64 x.n, .string x.t, .slice A1 x.l.length c1, .slice A2 x.d.length c2], false⟩], [], w.heap.size, y.1, No⟩) ?_ ?_
  · have close : ∀ (w5 : World), Kp No w w5 → Kp No w w5 := fun w5 h => h
    repeat' (first | first | refine G0 ?_ | refine sst_box rfl rfl rfl rfl rfl (fun _ _ _ => ?_) | refine sst_alloc tb_ok rfl rfl rfl EV (fun _ _ _ => ?_) | refine sst_guard rfl rfl rfl (fun _ => ?_) (fun _ => ?_) | refine swp_if rfl (fun _ => ?_) (fun _ => ?_))
    all_goals first
      | (refine sq_forget (t := 27) true rfl (sq_meetX fun w5 h5 => ?_); exact ⟨(w5, true), close w5 h5.kp, rfl, rfl, rfl, fun k h => h, ⟨_, rfl⟩, List.Sublist.refl _, ⟨rfl, rfl, rfl, trivial⟩, by simp⟩)
      | (refine sq_forget (t := 27) false rfl (sq_meetX fun w5 h5 => ?_); exact ⟨(w5, false), close w5 h5.kp, rfl, rfl, rfl, fun k h => h, ⟨_, rfl⟩, List.Sublist.refl _, ⟨rfl, rfl, rfl, trivial⟩, by simp⟩)
      | (refine sq_meetX fun w5 h5 => ?_; exact ⟨(w5, _), close w5 h5.kp, rfl, rfl, rfl, fun k h => h, ⟨_, rfl⟩, List.Sublist.refl _, ⟨rfl, rfl, rfl, trivial⟩, by simp⟩)
  rintro ⟨wa, ba⟩ hka
  simp only at hka
  (repeat' (first | refine G0 ?_ | refine sst_box rfl rfl rfl rfl rfl (fun b hb hlt => ?_) | refine sst_alloc tb_ok rfl rfl rfl EV (fun b hb hlt => ?_)))
  refine swp_if rfl (fun h1 => ?_) (fun h1 => ?_)
  · (repeat' (first | refine G0 ?_ | refine sst_box rfl rfl rfl rfl rfl (fun b hb hlt => ?_) | refine sst_alloc tb_ok rfl rfl rfl EV (fun b hb hlt => ?_)))
    refine sq_ret tb_ok rfl EV (fun w' hk hr => ?_)
    exact fin _ _ _ hka hk
  refine swp_skip ?_
  refine sq_then ?_
  refine swp_meetX (X := World × Bool) (fun y => Kp No w y.1) (fun y => ⟨138, [(5, .sb y.2), (2, .loc 0 0), (1, .val (.bool true))], [⟨b, 26, [.int .i64 x.k, .int .i64 x.n, .string x.t, .slice A1 x.l.length c1, .slice A2 x.d.length c2], false⟩], [], w.heap.size, y.1, No⟩) ?_ ?_
  · have close : ∀ (w5 : World), Kp No wa w5 → Kp No w w5 := fun w5 h => Kp.then hka h
    repeat' (first | first | refine G0 ?_ | refine sst_box rfl rfl rfl rfl rfl (fun _ _ _ => ?_) | refine sst_alloc tb_ok rfl rfl rfl EV (fun _ _ _ => ?_) | refine sst_guard rfl rfl rfl (fun _ => ?_) (fun _ => ?_) | refine swp_if rfl (fun _ => ?_) (fun _ => ?_))
    all_goals first
      | (refine sq_forget (t := 5) true rfl (sq_meetX fun w5 h5 => ?_); exact ⟨(w5, true), close w5 h5.kp, rfl, rfl, rfl, fun k h => h, ⟨_, rfl⟩, List.Sublist.refl _, ⟨rfl, rfl, rfl, trivial⟩, by simp⟩)
      | (refine sq_forget (t := 5) false rfl (sq_meetX fun w5 h5 => ?_); exact ⟨(w5, false), close w5 h5.kp, rfl, rfl, rfl, fun k h => h, ⟨_, rfl⟩, List.Sublist.refl _, ⟨rfl, rfl, rfl, trivial⟩, by simp⟩)
      | (refine sq_meetX fun w5 h5 => ?_; exact ⟨(w5, _), close w5 h5.kp, rfl, rfl, rfl, fun k h => h, ⟨_, rfl⟩, List.Sublist.refl _, ⟨rfl, rfl, rfl, trivial⟩, by simp⟩)
  rintro ⟨wb, bb⟩ hkb
  simp only at hkb
  refine swp_meetX (X := World × Bool) (fun y => Kp No w y.1) (fun y => ⟨138, [(6, .sb y.2), (5, .sb bb), (2, .loc 0 0), (1, .val (.bool true))], [⟨b, 26, [.int .i64 x.k, .int .i64 x.n, .string x.t, .slice A1 x.l.length c1, .slice A2 x.d.length c2], false⟩], [], w.heap.size, y.1, No⟩) ?_ ?_
  · have close : ∀ (w5 : World), Kp No wb w5 → Kp No w w5 := fun w5 h => Kp.then hkb h
    repeat' (first | first | refine G0 ?_ | refine sst_box rfl rfl rfl rfl rfl (fun _ _ _ => ?_) | refine sst_alloc tb_ok rfl rfl rfl EV (fun _ _ _ => ?_) | refine sst_guard rfl rfl rfl (fun _ => ?_) (fun _ => ?_) | refine swp_if rfl (fun _ => ?_) (fun _ => ?_))
    all_goals first
      | (refine sq_forget (t := 6) true rfl (sq_meetX fun w5 h5 => ?_); exact ⟨(w5, true), close w5 h5.kp, rfl, rfl, rfl, fun k h => h, ⟨_, rfl⟩, List.Sublist.refl _, ⟨rfl, rfl, rfl, rfl, trivial⟩, by simp⟩)
      | (refine sq_forget (t := 6) false rfl (sq_meetX fun w5 h5 => ?_); exact ⟨(w5, false), close w5 h5.kp, rfl, rfl, rfl, fun k h => h, ⟨_, rfl⟩, List.Sublist.refl _, ⟨rfl, rfl, rfl, rfl, trivial⟩, by simp⟩)
      | (refine sq_meetX fun w5 h5 => ?_; exact ⟨(w5, _), close w5 h5.kp, rfl, rfl, rfl, fun k h => h, ⟨_, rfl⟩, List.Sublist.refl _, ⟨rfl, rfl, rfl, rfl, trivial⟩, by simp⟩)
  rintro ⟨wc, bc⟩ hkc
  simp only at hkc
  refine swp_seq ?_
  refine swp_meetX (X := World × Bool) (fun y => Kp No w y.1) (fun y => ⟨138, [(79, .sb y.2), (2, .loc 0 0), (1, .val (.bool true))], [⟨b, 26, [.int .i64 x.k, .int .i64 x.n, .string x.t, .slice A1 x.l.length c1, .slice A2 x.d.length c2], false⟩], [], w.heap.size, y.1, No⟩) ?_ ?_
  · have close : ∀ (w5 : World), Kp No wc w5 → Kp No w w5 := fun w5 h => Kp.then hkc h
    repeat' (first | first | refine G0 ?_ | refine sst_box rfl rfl rfl rfl rfl (fun _ _ _ => ?_) | refine sst_alloc tb_ok rfl rfl rfl EV (fun _ _ _ => ?_) | refine sst_guard rfl rfl rfl (fun _ => ?_) (fun _ => ?_) | refine swp_if rfl (fun _ => ?_) (fun _ => ?_))
    all_goals first
      | (refine sq_forget (t := 79) true rfl (sq_meetX fun w5 h5 => ?_); exact ⟨(w5, true), close w5 h5.kp, rfl, rfl, rfl, fun k h => h, ⟨_, rfl⟩, List.Sublist.refl _, ⟨rfl, rfl, rfl, trivial⟩, by simp⟩)
      | (refine sq_forget (t := 79) false rfl (sq_meetX fun w5 h5 => ?_); exact ⟨(w5, false), close w5 h5.kp, rfl, rfl, rfl, fun k h => h, ⟨_, rfl⟩, List.Sublist.refl _, ⟨rfl, rfl, rfl, trivial⟩, by simp⟩)
      | (refine sq_meetX fun w5 h5 => ?_; exact ⟨(w5, _), close w5 h5.kp, rfl, rfl, rfl, fun k h => h, ⟨_, rfl⟩, List.Sublist.refl _, ⟨rfl, rfl, rfl, trivial⟩, by simp⟩)
  rintro ⟨wd, bd⟩ hkd
  simp only at hkd
  (repeat' (first | refine G0 ?_ | refine sst_box rfl rfl rfl rfl rfl (fun b hb hlt => ?_) | refine sst_alloc tb_ok rfl rfl rfl EV (fun b hb hlt => ?_)))
  refine swp_if rfl (fun h2 => ?_) (fun h2 => ?_)
  · (repeat' (first | refine G0 ?_ | refine sst_box rfl rfl rfl rfl rfl (fun b hb hlt => ?_) | refine sst_alloc tb_ok rfl rfl rfl EV (fun b hb hlt => ?_)))
    refine sq_ret tb_ok rfl EV (fun w' hk hr => ?_)
    exact fin _ _ _ hkd hk
  (repeat' (first | refine G0 ?_ | refine sst_box rfl rfl rfl rfl rfl (fun b hb hlt => ?_) | refine sst_alloc tb_ok rfl rfl rfl EV (fun b hb hlt => ?_)))
  refine swp_if rfl (fun h => ?_) (fun h => ?_)
  · (repeat' (first | refine G0 ?_ | refine sst_box rfl rfl rfl rfl rfl (fun b hb hlt => ?_) | refine sst_alloc tb_ok rfl rfl rfl EV (fun b hb hlt => ?_)))
    refine sst_guard rfl rfl rfl (fun h3 => ?_) (fun h3 => ?_)
    · (repeat' (first | refine G0 ?_ | refine sst_box rfl rfl rfl rfl rfl (fun b hb hlt => ?_) | refine sst_alloc tb_ok rfl rfl rfl EV (fun b hb hlt => ?_)))
      refine sq_ret tb_ok rfl EV (fun w' hk hr => ?_)
      exact fin _ _ _ hkd hk
    · (repeat' (first | refine G0 ?_ | refine sst_box rfl rfl rfl rfl rfl (fun b hb hlt => ?_) | refine sst_alloc tb_ok rfl rfl rfl EV (fun b hb hlt => ?_)))
      refine sq_ret tb_ok rfl EV (fun w' hk hr => ?_)
      exact fin _ _ _ hkd hk
  (repeat' (first | refine G0 ?_ | refine sst_box rfl rfl rfl rfl rfl (fun b hb hlt => ?_) | refine sst_alloc tb_ok rfl rfl rfl EV (fun b hb hlt => ?_)))
  refine swp_if rfl (fun h => ?_) (fun h => ?_)
  · (repeat' (first | refine G0 ?_ | refine sst_box rfl rfl rfl rfl rfl (fun b hb hlt => ?_) | refine sst_alloc tb_ok rfl rfl rfl EV (fun b hb hlt => ?_)))
    refine sq_ret tb_ok rfl EV (fun w' hk hr => ?_)
    exact fin _ _ _ hkd hk
  (repeat' (first | refine G0 ?_ | refine sst_box rfl rfl rfl rfl rfl (fun b hb hlt => ?_) | refine sst_alloc tb_ok rfl rfl rfl EV (fun b hb hlt => ?_)))
  refine swp_if rfl (fun h => ?_) (fun h => ?_)
  · (repeat' (first | refine G0 ?_ | refine sst_box rfl rfl rfl rfl rfl (fun b hb hlt => ?_) | refine sst_alloc tb_ok rfl rfl rfl EV (fun b hb hlt => ?_)))
    refine sst_guard rfl rfl rfl (fun h3 => ?_) (fun h3 => ?_)
    · (repeat' (first | refine G0 ?_ | refine sst_box rfl rfl rfl rfl rfl (fun b hb hlt => ?_) | refine sst_alloc tb_ok rfl rfl rfl EV (fun b hb hlt => ?_)))
      refine sst_call tb_ok rfl rfl rfl rfl rfl EV AP (fun v _ _ => ∃ b : Bool, v = .bool b) ?_ ?_
      · exact fun w1 h1 => c162 x.t hxt w1
      rintro v w2 w3 h2 hk3 ⟨b2, rfl⟩
      (repeat' (first | refine G0 ?_ | refine sst_box rfl rfl rfl rfl rfl (fun b hb hlt => ?_) | refine sst_alloc tb_ok rfl rfl rfl EV (fun b hb hlt => ?_)))
      refine sq_ret tb_ok rfl EV (fun w' hk hr => ?_)
      exact fin _ _ _ ((Kp.then hkd h2.kp).then hk3) hk
    · (repeat' (first | refine G0 ?_ | refine sst_box rfl rfl rfl rfl rfl (fun b hb hlt => ?_) | refine sst_alloc tb_ok rfl rfl rfl EV (fun b hb hlt => ?_)))
      refine sq_ret tb_ok rfl EV (fun w' hk hr => ?_)
      exact fin _ _ _ hkd hk
  (repeat' (first | refine G0 ?_ | refine sst_box rfl rfl rfl rfl rfl (fun b hb hlt => ?_) | refine sst_alloc tb_ok rfl rfl rfl EV (fun b hb hlt => ?_)))
  refine swp_if rfl (fun h => ?_) (fun h => ?_)
  · (repeat' (first | refine G0 ?_ | refine sst_box rfl rfl rfl rfl rfl (fun b hb hlt => ?_) | refine sst_alloc tb_ok rfl rfl rfl EV (fun b hb hlt => ?_)))
    refine sq_ret tb_ok rfl EV (fun w' hk hr => ?_)
    exact fin _ _ _ hkd hk
  (repeat' (first | refine G0 ?_ | refine sst_box rfl rfl rfl rfl rfl (fun b hb hlt => ?_) | refine sst_alloc tb_ok rfl rfl rfl EV (fun b hb hlt => ?_)))
  refine swp_if rfl (fun h => ?_) (fun h => ?_)
  · (repeat' (first | refine G0 ?_ | refine sst_box rfl rfl rfl rfl rfl (fun b hb hlt => ?_) | refine sst_alloc tb_ok rfl rfl rfl EV (fun b hb hlt => ?_)))
    refine sq_ret tb_ok rfl EV (fun w' hk hr => ?_)
    exact fin _ _ _ hkd hk
  (repeat' (first | refine G0 ?_ | refine sst_box rfl rfl rfl rfl rfl (fun b hb hlt => ?_) | refine sst_alloc tb_ok rfl rfl rfl EV (fun b hb hlt => ?_)))
  refine swp_loop (X := World × Nat) (fun y => Kp No w y.1 ∧ y.2 ≤ x.l.length)
    (fun y => ⟨138, [(7, .val (.int .i64 (y.2 : Int))), (2, .loc 0 0), (1, .val (.bool true))], [⟨b, 26, [.int .i64 x.k, .int .i64 x.n, .string x.t, .slice A1 x.l.length c1, .slice A2 x.d.length c2], false⟩], [], w.heap.size, y.1, No⟩) (fun y => x.l.length - y.2) ?_ ?_
  · intro w1 h1
    refine ⟨(w1, 0), ⟨Kp.then hkd h1.kp, Nat.zero_le _⟩, ?_⟩
    (refine WKmk ?_; try trivial)
  rintro ⟨w1, i⟩ ⟨hk1, hi⟩
  simp only at hk1 hi
  (repeat' (first | refine G0 ?_ | refine sst_box rfl rfl rfl rfl rfl (fun b hb hlt => ?_) | refine sst_alloc tb_ok rfl rfl rfl EV (fun b hb hlt => ?_)))
  refine swp_if rfl (fun h7 => ?_) (fun h7 => ?_)
  · have hi : i < x.l.length := by simp at h7; omega
    obtain ⟨y, hy⟩ := get_of_lt hi
    obtain ⟨yb, yoff, ycs, rfl, hyS, hyin, hyl, hyrow, hyr⟩ := hl.get hy
    (repeat' (first | refine G0 ?_ | refine sst_box rfl rfl rfl rfl rfl (fun b hb hlt => ?_) | refine sst_alloc tb_ok rfl rfl rfl EV (fun b hb hlt => ?_)))
    refine sst_quiet rfl rfl (q_index tb_ok rfl el_23 rfl rfl i rfl hyin) ?_
    (repeat' (first | refine G0 ?_ | refine sst_box rfl rfl rfl rfl rfl (fun b hb hlt => ?_) | refine sst_alloc tb_ok rfl rfl rfl EV (fun b hb hlt => ?_)))
    refine sst_quiet rfl rfl (q_far_agg tb_ok rfl sz_26 rfl id hyl (hyrow.kp hk1 id)) ?_
    (repeat' (first | refine G0 ?_ | refine sst_box rfl rfl rfl rfl rfl (fun b hb hlt => ?_) | refine sst_alloc tb_ok rfl rfl rfl EV (fun b hb hlt => ?_)))
    refine sst_call tb_ok rfl rfl rfl rfl rfl EV AP (fun v _ _ => ∃ b : Bool, v = .bool b) ?_ ?_
    · exact fun w4 h4 => H1 y (List.mem_of_getElem? hy) _ w4 _ (hyr.kp (hk1.then h4.kp))
    rintro v w4 w5 h4 hk5 ⟨b2, rfl⟩
    have hk15 : Kp No w w5 := (hk1.then h4.kp).then hk5
    (repeat' (first | refine G0 ?_ | refine sst_box rfl rfl rfl rfl rfl (fun b hb hlt => ?_) | refine sst_alloc tb_ok rfl rfl rfl EV (fun b hb hlt => ?_)))
    refine swp_if rfl (fun h5 => ?_) (fun h5 => ?_)
    · (repeat' (first | refine G0 ?_ | refine sst_box rfl rfl rfl rfl rfl (fun b hb hlt => ?_) | refine sst_alloc tb_ok rfl rfl rfl EV (fun b hb hlt => ?_)))
      refine sq_ret tb_ok rfl EV (fun w' hk hr => ?_)
      exact fin _ _ _ hk15 hk
    (repeat' (first | refine G0 ?_ | refine sst_box rfl rfl rfl rfl rfl (fun b hb hlt => ?_) | refine sst_alloc tb_ok rfl rfl rfl EV (fun b hb hlt => ?_)))
    refine sq_next fun w6 h6 => ?_
    refine ⟨(w6, i + 1), ⟨hk15.then h6.kp, by simp; omega⟩, by simp; omega, ?_⟩
    (refine WKmk ?_; try trivial)
    rw [wr_small (x := (i : Int) + 1) (by omega)]
    simp
  (repeat' (first | refine G0 ?_ | refine sst_box rfl rfl rfl rfl rfl (fun b hb hlt => ?_) | refine sst_alloc tb_ok rfl rfl rfl EV (fun b hb hlt => ?_)))
  refine sst_call tb_ok rfl rfl rfl rfl rfl EV AP (fun v _ _ => ∃ b : Bool, v = .bool b) ?_ ?_
  · exact fun w4 h4 => fields_step x H2 S w4 _ (hx.kp (hk1.then h4.kp))
  rintro v w4 w5 h4 hk5 ⟨b2, rfl⟩
  (repeat' (first | refine G0 ?_ | refine sst_box rfl rfl rfl rfl rfl (fun b hb hlt => ?_) | refine sst_alloc tb_ok rfl rfl rfl EV (fun b hb hlt => ?_)))
  refine sq_ret tb_ok rfl EV (fun w' hk hr => ?_)
  exact fin _ _ _ ((hk1.then h4.kp).then hk5) hk

theorem form_all (x : Val) : FormC x := by
  refine form_step x (fun z hz => form_all z) (fun z hz => form_all z.2)
  termination_by SizeOf.sizeOf x
  decreasing_by
  · obtain ⟨k, n, t, l, d⟩ := x; exact sizeOf_l hz
  · obtain ⟨k, n, t, l, d⟩ := x; exact sizeOf_d hz

theorem c67 (x : Val) (S : Nat → Prop) (w : World) (cs : List Value) (hx : RepV S w x cs) : Calls Go.Proofs.Tryz.prog 67 #[.agg cs.toArray] w fun e w2 => ∃ v, e = .returned v ∧ Kp No w w2 ∧ ∃ b : Bool, v = .bool b := by
  obtain ⟨A1, c1, A2, c2, rfl, -⟩ := hx.parts
  refine calls_intro (args := [_]) w.heap.size Go.Proofs.Tryz.func67 rfl Go.Proofs.Tryz.ntmps67 (by simp) (Nat.le_refl _) ?_
  (repeat' (first | refine G0 ?_ | refine sst_box rfl rfl rfl rfl rfl (fun b hb hlt => ?_) | refine sst_alloc tb_ok rfl rfl rfl EV (fun b hb hlt => ?_)))
  refine sst_call tb_ok rfl rfl rfl rfl rfl EV AP (fun v wa wb => ∃ r : Int, v = .int .i64 r) ?_ ?_
  · exact fun w1 h1 => c119 x S w1 _ (hx.kp h1.kp)
  rintro v w2 w3 h2 hk3 ⟨r, rfl⟩
  have hk23 : Kp No w w3 := h2.kp.then hk3
  (repeat' (first | refine G0 ?_ | refine sst_box rfl rfl rfl rfl rfl (fun b hb hlt => ?_) | refine sst_alloc tb_ok rfl rfl rfl EV (fun b hb hlt => ?_)))
  refine sst_guard rfl rfl rfl (fun h1 => ?_) (fun h1 => ?_)
  rotate_left
  · (repeat' (first | refine G0 ?_ | refine sst_box rfl rfl rfl rfl rfl (fun b hb hlt => ?_) | refine sst_alloc tb_ok rfl rfl rfl EV (fun b hb hlt => ?_)))
    refine sq_ret tb_ok rfl EV (fun w' hk hr => ?_)
    exact ⟨_, rfl, hk23.then hk, _, rfl⟩
  (repeat' (first | refine G0 ?_ | refine sst_box rfl rfl rfl rfl rfl (fun b hb hlt => ?_) | refine sst_alloc tb_ok rfl rfl rfl EV (fun b hb hlt => ?_)))
  refine sst_call tb_ok rfl rfl rfl rfl rfl EV AP (fun v wa wb => ∃ r : Int, v = .int .i64 r) ?_ ?_
  · exact fun w1 h1 => c120 x S w1 _ (hx.kp (hk23.then h1.kp))
  rintro v w4 w5 h4 hk5 ⟨r2, rfl⟩
  have hk25 : Kp No w w5 := (hk23.then h4.kp).then hk5
  (repeat' (first | refine G0 ?_ | refine sst_box rfl rfl rfl rfl rfl (fun b hb hlt => ?_) | refine sst_alloc tb_ok rfl rfl rfl EV (fun b hb hlt => ?_)))
  refine sst_guard rfl rfl rfl (fun h3 => ?_) (fun h3 => ?_)
  rotate_left
  · (repeat' (first | refine G0 ?_ | refine sst_box rfl rfl rfl rfl rfl (fun b hb hlt => ?_) | refine sst_alloc tb_ok rfl rfl rfl EV (fun b hb hlt => ?_)))
    refine sq_ret tb_ok rfl EV (fun w' hk hr => ?_)
    exact ⟨_, rfl, hk25.then hk, _, rfl⟩
  (repeat' (first | refine G0 ?_ | refine sst_box rfl rfl rfl rfl rfl (fun b hb hlt => ?_) | refine sst_alloc tb_ok rfl rfl rfl EV (fun b hb hlt => ?_)))
  refine sst_call tb_ok rfl rfl rfl rfl rfl EV AP (fun v _ _ => ∃ b : Bool, v = .bool b) ?_ ?_
  · exact fun w4 h4 => form_all x S w4 _ (hx.kp (hk25.then h4.kp))
  rintro v w6 w7 h6 hk7 ⟨b2, rfl⟩
  (repeat' (first | refine G0 ?_ | refine sst_box rfl rfl rfl rfl rfl (fun b hb hlt => ?_) | refine sst_alloc tb_ok rfl rfl rfl EV (fun b hb hlt => ?_)))
  refine sq_ret tb_ok rfl EV (fun w' hk hr => ?_)
  exact ⟨_, rfl, ((hk25.then h6.kp).then hk7).then hk, _, rfl⟩
end Go.Fw

set_option linter.unusedVariables false
set_option linter.unusedSimpArgs false
set_option maxRecDepth 10000
set_option maxHeartbeats 2000000
namespace Go.Fw
open Go
attribute [local irreducible] SWp SQ SSeq SSt Quiet Next Meet
attribute [local irreducible] MeetX

theorem c146_2 (w : World) : Calls Go.Proofs.Tryz.prog 146 #[.int .i64 2] w fun e w2 => ∃ v, e = .returned v ∧ Kp No w w2 ∧ v = .bool false := by
  refine calls_intro (args := [_]) w.heap.size Go.Proofs.Tryz.func146 rfl Go.Proofs.Tryz.ntmps146 (by simp) (Nat.le_refl _) ?_
  (repeat' (first | refine Gk ?_ | refine sst_box rfl rfl rfl rfl rfl (fun b hb hlt => ?_) | refine sst_alloc tb_ok rfl rfl rfl EV (fun b hb hlt => ?_)))
  refine sq_ret tb_ok rfl EV (fun w' hk hr => ?_)
  exact ⟨_, rfl, hk, rfl⟩
theorem c148_2 (w : World) : Calls Go.Proofs.Tryz.prog 148 #[.int .i64 2] w fun e w2 => ∃ v, e = .returned v ∧ Kp No w w2 ∧ v = .bool true := by
  refine calls_intro (args := [_]) w.heap.size Go.Proofs.Tryz.func148 rfl Go.Proofs.Tryz.ntmps148 (by simp) (Nat.le_refl _) ?_
  (repeat' (first | refine Gk ?_ | refine sst_box rfl rfl rfl rfl rfl (fun b hb hlt => ?_) | refine sst_alloc tb_ok rfl rfl rfl EV (fun b hb hlt => ?_)))
  refine sq_ret tb_ok rfl EV (fun w' hk hr => ?_)
  exact ⟨_, rfl, hk, rfl⟩
theorem c150_2 (w : World) : Calls Go.Proofs.Tryz.prog 150 #[.int .i64 2] w fun e w2 => ∃ v, e = .returned v ∧ Kp No w w2 ∧ v = .bool false := by
  refine calls_intro (args := [_]) w.heap.size Go.Proofs.Tryz.func150 rfl Go.Proofs.Tryz.ntmps150 (by simp) (Nat.le_refl _) ?_
  (repeat' (first | refine Gk ?_ | refine sst_box rfl rfl rfl rfl rfl (fun b hb hlt => ?_) | refine sst_alloc tb_ok rfl rfl rfl EV (fun b hb hlt => ?_)))
  refine sq_ret tb_ok rfl EV (fun w' hk hr => ?_)
  exact ⟨_, rfl, hk, rfl⟩
theorem c146_17 (w : World) : Calls Go.Proofs.Tryz.prog 146 #[.int .i64 17] w fun e w2 => ∃ v, e = .returned v ∧ Kp No w w2 ∧ v = .bool false := by
  refine calls_intro (args := [_]) w.heap.size Go.Proofs.Tryz.func146 rfl Go.Proofs.Tryz.ntmps146 (by simp) (Nat.le_refl _) ?_
  (repeat' (first | refine Gk ?_ | refine sst_box rfl rfl rfl rfl rfl (fun b hb hlt => ?_) | refine sst_alloc tb_ok rfl rfl rfl EV (fun b hb hlt => ?_)))
  refine sq_ret tb_ok rfl EV (fun w' hk hr => ?_)
  exact ⟨_, rfl, hk, rfl⟩
theorem c148_17 (w : World) : Calls Go.Proofs.Tryz.prog 148 #[.int .i64 17] w fun e w2 => ∃ v, e = .returned v ∧ Kp No w w2 ∧ v = .bool true := by
  refine calls_intro (args := [_]) w.heap.size Go.Proofs.Tryz.func148 rfl Go.Proofs.Tryz.ntmps148 (by simp) (Nat.le_refl _) ?_
  (repeat' (first | refine Gk ?_ | refine sst_box rfl rfl rfl rfl rfl (fun b hb hlt => ?_) | refine sst_alloc tb_ok rfl rfl rfl EV (fun b hb hlt => ?_)))
  refine sq_ret tb_ok rfl EV (fun w' hk hr => ?_)
  exact ⟨_, rfl, hk, rfl⟩
theorem c150_17 (w : World) : Calls Go.Proofs.Tryz.prog 150 #[.int .i64 17] w fun e w2 => ∃ v, e = .returned v ∧ Kp No w w2 ∧ v = .bool true := by
  refine calls_intro (args := [_]) w.heap.size Go.Proofs.Tryz.func150 rfl Go.Proofs.Tryz.ntmps150 (by simp) (Nat.le_refl _) ?_
  (repeat' (first | refine Gk ?_ | refine sst_box rfl rfl rfl rfl rfl (fun b hb hlt => ?_) | refine sst_alloc tb_ok rfl rfl rfl EV (fun b hb hlt => ?_)))
  refine sq_ret tb_ok rfl EV (fun w' hk hr => ?_)
  exact ⟨_, rfl, hk, rfl⟩
theorem c149_2 (w : World) : Calls Go.Proofs.Tryz.prog 149 #[.int .i64 2] w fun e w2 => ∃ v, e = .returned v ∧ Kp No w w2 ∧ v = .bool true := by
  refine calls_intro (args := [_]) w.heap.size Go.Proofs.Tryz.func149 rfl Go.Proofs.Tryz.ntmps149 (by simp) (Nat.le_refl _) ?_
  (repeat' (first | refine Gk ?_ | refine sst_box rfl rfl rfl rfl rfl (fun b hb hlt => ?_) | refine sst_alloc tb_ok rfl rfl rfl EV (fun b hb hlt => ?_)))
  refine sq_ret tb_ok rfl EV (fun w' hk hr => ?_)
  exact ⟨_, rfl, hk, rfl⟩
theorem c149_17 (w : World) : Calls Go.Proofs.Tryz.prog 149 #[.int .i64 17] w fun e w2 => ∃ v, e = .returned v ∧ Kp No w w2 ∧ v = .bool true := by
  refine calls_intro (args := [_]) w.heap.size Go.Proofs.Tryz.func149 rfl Go.Proofs.Tryz.ntmps149 (by simp) (Nat.le_refl _) ?_
  (repeat' (first | refine Gk ?_ | refine sst_box rfl rfl rfl rfl rfl (fun b hb hlt => ?_) | refine sst_alloc tb_ok rfl rfl rfl EV (fun b hb hlt => ?_)))
  refine sst_call tb_ok rfl rfl rfl rfl rfl EV AP (fun v _ _ => v = .bool true) ?_ ?_
  · exact fun w1 h1 => c150_17 w1
  rintro v w2 w3 h2 hk3 rfl
  (repeat' (first | refine Gk ?_ | refine sst_box rfl rfl rfl rfl rfl (fun b hb hlt => ?_) | refine sst_alloc tb_ok rfl rfl rfl EV (fun b hb hlt => ?_)))
  refine sq_ret tb_ok rfl EV (fun w' hk hr => ?_)
  exact ⟨_, rfl, (h2.kp.then hk3).then hk, rfl⟩
theorem c198_z (w : World) : Calls Go.Proofs.Tryz.prog 198 #[.agg #[.int .i64 0, .int .i64 0, .string ⟨#[]⟩, .slice none 0 0, .slice none 0 0]] w fun e w2 => ∃ v, e = .returned v ∧ Kp No w w2 ∧ v = .bool true := by
  refine calls_intro (args := [_]) w.heap.size Go.Proofs.Tryz.func198 rfl Go.Proofs.Tryz.ntmps198 (by simp) (Nat.le_refl _) ?_
  (repeat' (first | refine Gk ?_ | refine sst_box rfl rfl rfl rfl rfl (fun b hb hlt => ?_) | refine sst_alloc tb_ok rfl rfl rfl EV (fun b hb hlt => ?_)))
  refine sq_ret tb_ok rfl EV (fun w' hk hr => ?_)
  exact ⟨_, rfl, hk, rfl⟩
theorem c199_z (w : World) : Calls Go.Proofs.Tryz.prog 199 #[.agg #[.int .i64 0, .slice none 0 0, .int .i64 0]] w fun e w2 => ∃ v, e = .returned v ∧ Kp No w w2 ∧ v = .bool true := by
  refine calls_intro (args := [_]) w.heap.size Go.Proofs.Tryz.func199 rfl Go.Proofs.Tryz.ntmps199 (by simp) (Nat.le_refl _) ?_
  (repeat' (first | refine Gk ?_ | refine sst_box rfl rfl rfl rfl rfl (fun b hb hlt => ?_) | refine sst_alloc tb_ok rfl rfl rfl EV (fun b hb hlt => ?_)))
  refine sq_ret tb_ok rfl EV (fun w' hk hr => ?_)
  exact ⟨_, rfl, hk, rfl⟩
theorem c200_z (w : World) : Calls Go.Proofs.Tryz.prog 200 #[.agg #[.int .i64 0, .slice none 0 0, .string ⟨#[]⟩, .slice none 0 0, .int .i64 0, .int .i64 0, .string ⟨#[]⟩, .slice none 0 0, .slice none 0 0, .int .i64 0, .slice none 0 0]] w fun e w2 => ∃ v, e = .returned v ∧ Kp No w w2 ∧ v = .bool true := by
  refine calls_intro (args := [_]) w.heap.size Go.Proofs.Tryz.func200 rfl Go.Proofs.Tryz.ntmps200 (by simp) (Nat.le_refl _) ?_
  (repeat' (first | refine Gk ?_ | refine sst_box rfl rfl rfl rfl rfl (fun b hb hlt => ?_) | refine sst_alloc tb_ok rfl rfl rfl EV (fun b hb hlt => ?_)))
  refine sst_call tb_ok rfl rfl rfl rfl rfl EV AP (fun v _ _ => v = .bool true) ?_ ?_
  · exact fun w1 h1 => c198_z w1
  rintro v w2 w3 h2 hk3 rfl
  (repeat' (first | refine Gk ?_ | refine sst_box rfl rfl rfl rfl rfl (fun b hb hlt => ?_) | refine sst_alloc tb_ok rfl rfl rfl EV (fun b hb hlt => ?_)))
  refine sq_ret tb_ok rfl EV (fun w' hk hr => ?_)
  exact ⟨_, rfl, (h2.kp.then hk3).then hk, rfl⟩
theorem c145_2 (a : Val) (A B1 B2 : Option Addr) (m c n1 n2 : Nat) (w : World) : Calls Go.Proofs.Tryz.prog 145 #[.agg #[.int .i64 2, .slice A m c, .int .i64 a.k, .int .i64 a.n, .string a.t, .slice B1 a.l.length n1, .slice B2 a.d.length n2, .slice none 0 0, .int .i64 0, .int .i64 0, .int .i64 0, .slice none 0 0, .int .i64 0, .int .i64 0, .slice none 0 0, .string ⟨#[]⟩, .slice none 0 0, .int .i64 0, .int .i64 0, .string ⟨#[]⟩, .slice none 0 0, .slice none 0 0, .int .i64 0, .slice none 0 0, .slice none 0 0]] w fun e w2 => ∃ v, e = .returned v ∧ Kp No w w2 ∧ v = .bool true := by
  refine calls_intro (args := [_]) w.heap.size Go.Proofs.Tryz.func145 rfl Go.Proofs.Tryz.ntmps145 (by simp) (Nat.le_refl _) ?_
  (repeat' (first | refine Gk ?_ | refine sst_box rfl rfl rfl rfl rfl (fun b hb hlt => ?_) | refine sst_alloc tb_ok rfl rfl rfl EV (fun b hb hlt => ?_)))
  refine sq_ret tb_ok rfl EV (fun w' hk hr => ?_)
  exact ⟨_, rfl, hk, rfl⟩
theorem c147_2 (a : Val) (A B1 B2 : Option Addr) (m c n1 n2 : Nat) (w : World) : Calls Go.Proofs.Tryz.prog 147 #[.agg #[.int .i64 2, .slice A m c, .int .i64 a.k, .int .i64 a.n, .string a.t, .slice B1 a.l.length n1, .slice B2 a.d.length n2, .slice none 0 0, .int .i64 0, .int .i64 0, .int .i64 0, .slice none 0 0, .int .i64 0, .int .i64 0, .slice none 0 0, .string ⟨#[]⟩, .slice none 0 0, .int .i64 0, .int .i64 0, .string ⟨#[]⟩, .slice none 0 0, .slice none 0 0, .int .i64 0, .slice none 0 0, .slice none 0 0]] w fun e w2 => ∃ v, e = .returned v ∧ Kp No w w2 ∧ v = .bool true := by
  refine calls_intro (args := [_]) w.heap.size Go.Proofs.Tryz.func147 rfl Go.Proofs.Tryz.ntmps147 (by simp) (Nat.le_refl _) ?_
  (repeat' (first | refine Gk ?_ | refine sst_box rfl rfl rfl rfl rfl (fun b hb hlt => ?_) | refine sst_alloc tb_ok rfl rfl rfl EV (fun b hb hlt => ?_)))
  refine sq_ret tb_ok rfl EV (fun w' hk hr => ?_)
  exact ⟨_, rfl, hk, rfl⟩
theorem c104_2 (a : Val) (A B1 B2 : Option Addr) (m c n1 n2 : Nat) (w : World) : Calls Go.Proofs.Tryz.prog 104 #[.agg #[.int .i64 2, .slice A m c, .int .i64 a.k, .int .i64 a.n, .string a.t, .slice B1 a.l.length n1, .slice B2 a.d.length n2, .slice none 0 0, .int .i64 0, .int .i64 0, .int .i64 0, .slice none 0 0, .int .i64 0, .int .i64 0, .slice none 0 0, .string ⟨#[]⟩, .slice none 0 0, .int .i64 0, .int .i64 0, .string ⟨#[]⟩, .slice none 0 0, .slice none 0 0, .int .i64 0, .slice none 0 0, .slice none 0 0], .int .i64 16, .int .i64 256] w fun e w2 => ∃ v, e = .returned v ∧ Kp No w w2 ∧ v = .int .i64 255 := by
  refine calls_intro (args := [_, _, _]) w.heap.size Go.Proofs.Tryz.func104 rfl Go.Proofs.Tryz.ntmps104 (by simp) (Nat.le_refl _) ?_
  (repeat' (first | refine Gk ?_ | refine sst_box rfl rfl rfl rfl rfl (fun b hb hlt => ?_) | refine sst_alloc tb_ok rfl rfl rfl EV (fun b hb hlt => ?_)))
  refine swp_loop (X := World) (fun y => Kp No w y) (fun y => ⟨37, [(7, .val (.int .i64 0)), (2, .val (.int .i64 255)), (3, .loc 0 0)], [⟨b, 35, [.int .i64 2, .slice A m c, .int .i64 a.k, .int .i64 a.n, .string a.t, .slice B1 a.l.length n1, .slice B2 a.d.length n2, .slice none 0 0, .int .i64 0, .int .i64 0, .int .i64 0, .slice none 0 0, .int .i64 0, .int .i64 0, .slice none 0 0, .string ⟨#[]⟩, .slice none 0 0, .int .i64 0, .int .i64 0, .string ⟨#[]⟩, .slice none 0 0, .slice none 0 0, .int .i64 0, .slice none 0 0, .slice none 0 0], false⟩], [], w.heap.size, y, No⟩) (fun _ => 0) ?_ ?_
  · intro w1 h1
    exact ⟨w1, h1.kp, rfl, rfl, rfl, fun k h => h, ⟨_, rfl⟩, List.Sublist.refl _, ⟨rfl, rfl, rfl, trivial⟩, by simp⟩
  intro w1 hk1
  (repeat' (first | refine Gk ?_ | refine sst_box rfl rfl rfl rfl rfl (fun b hb hlt => ?_) | refine sst_alloc tb_ok rfl rfl rfl EV (fun b hb hlt => ?_)))
  refine sq_ret tb_ok rfl EV (fun w' hk hr => ?_)
  exact ⟨_, rfl, hk1.then hk, rfl⟩
theorem c152_2 (a : Val) (A B1 B2 : Option Addr) (m c n1 n2 : Nat) (w : World) : Calls Go.Proofs.Tryz.prog 152 #[.agg #[.int .i64 2, .slice A m c, .int .i64 a.k, .int .i64 a.n, .string a.t, .slice B1 a.l.length n1, .slice B2 a.d.length n2, .slice none 0 0, .int .i64 0, .int .i64 0, .int .i64 0, .slice none 0 0, .int .i64 0, .int .i64 0, .slice none 0 0, .string ⟨#[]⟩, .slice none 0 0, .int .i64 0, .int .i64 0, .string ⟨#[]⟩, .slice none 0 0, .slice none 0 0, .int .i64 0, .slice none 0 0, .slice none 0 0]] w fun e w2 => ∃ v, e = .returned v ∧ Kp No w w2 ∧ v = .bool true := by
  refine calls_intro (args := [_]) w.heap.size Go.Proofs.Tryz.func152 rfl Go.Proofs.Tryz.ntmps152 (by simp) (Nat.le_refl _) ?_
  (repeat' (first | refine Gk ?_ | refine sst_box rfl rfl rfl rfl rfl (fun b hb hlt => ?_) | refine sst_alloc tb_ok rfl rfl rfl EV (fun b hb hlt => ?_)))
  refine sst_call tb_ok rfl rfl rfl rfl rfl EV AP (fun v _ _ => v = .bool true) ?_ ?_
  · exact fun w1 h1 => c148_2 w1
  rintro v w2 w3 h2 hk3 rfl
  (repeat' (first | refine Gk ?_ | refine sst_box rfl rfl rfl rfl rfl (fun b hb hlt => ?_) | refine sst_alloc tb_ok rfl rfl rfl EV (fun b hb hlt => ?_)))
  refine sst_call tb_ok rfl rfl rfl rfl rfl EV AP (fun v _ _ => v = .bool true) ?_ ?_
  · exact fun w1 h1 => c149_2 w1
  rintro v w4 w5 h4 hk5 rfl
  (repeat' (first | refine Gk ?_ | refine sst_box rfl rfl rfl rfl rfl (fun b hb hlt => ?_) | refine sst_alloc tb_ok rfl rfl rfl EV (fun b hb hlt => ?_)))
  refine sst_call tb_ok rfl rfl rfl rfl rfl EV AP (fun v _ _ => v = .bool false) ?_ ?_
  · exact fun w1 h1 => c146_2 w1
  rintro v w6 w7 h6 hk7 rfl
  (repeat' (first | refine Gk ?_ | refine sst_box rfl rfl rfl rfl rfl (fun b hb hlt => ?_) | refine sst_alloc tb_ok rfl rfl rfl EV (fun b hb hlt => ?_)))
  refine sst_call tb_ok rfl rfl rfl rfl rfl EV AP (fun v _ _ => v = .bool true) ?_ ?_
  · exact fun w1 h1 => c199_z w1
  rintro v w8 w9 h8 hk9 rfl
  (repeat' (first | refine Gk ?_ | refine sst_box rfl rfl rfl rfl rfl (fun b hb hlt => ?_) | refine sst_alloc tb_ok rfl rfl rfl EV (fun b hb hlt => ?_)))
  refine sst_call tb_ok rfl rfl rfl rfl rfl EV AP (fun v _ _ => v = .bool true) ?_ ?_
  · exact fun w1 h1 => c200_z w1
  rintro v w10 w11 h10 hk11 rfl
  (repeat' (first | refine Gk ?_ | refine sst_box rfl rfl rfl rfl rfl (fun b hb hlt => ?_) | refine sst_alloc tb_ok rfl rfl rfl EV (fun b hb hlt => ?_)))
  refine sq_ret tb_ok rfl EV (fun w' hk hr => ?_)
  exact ⟨_, rfl, (((((((((h2.kp.then hk3).then h4.kp).then hk5).then h6.kp).then hk7).then h8.kp).then hk9).then h10.kp).then hk11).then hk, rfl⟩
theorem c145_17 (a : Val) (A B1 B2 : Option Addr) (m c n1 n2 : Nat) (w : World) : Calls Go.Proofs.Tryz.prog 145 #[.agg #[.int .i64 17, .slice A m c, .int .i64 a.k, .int .i64 a.n, .string a.t, .slice B1 a.l.length n1, .slice B2 a.d.length n2, .slice none 0 0, .int .i64 0, .int .i64 0, .int .i64 0, .slice none 0 0, .int .i64 0, .int .i64 0, .slice none 0 0, .string ⟨#[]⟩, .slice none 0 0, .int .i64 0, .int .i64 0, .string ⟨#[]⟩, .slice none 0 0, .slice none 0 0, .int .i64 0, .slice none 0 0, .slice none 0 0]] w fun e w2 => ∃ v, e = .returned v ∧ Kp No w w2 ∧ v = .bool true := by
  refine calls_intro (args := [_]) w.heap.size Go.Proofs.Tryz.func145 rfl Go.Proofs.Tryz.ntmps145 (by simp) (Nat.le_refl _) ?_
  (repeat' (first | refine Gk ?_ | refine sst_box rfl rfl rfl rfl rfl (fun b hb hlt => ?_) | refine sst_alloc tb_ok rfl rfl rfl EV (fun b hb hlt => ?_)))
  refine sq_ret tb_ok rfl EV (fun w' hk hr => ?_)
  exact ⟨_, rfl, hk, rfl⟩
theorem c147_17 (a : Val) (A B1 B2 : Option Addr) (m c n1 n2 : Nat) (w : World) : Calls Go.Proofs.Tryz.prog 147 #[.agg #[.int .i64 17, .slice A m c, .int .i64 a.k, .int .i64 a.n, .string a.t, .slice B1 a.l.length n1, .slice B2 a.d.length n2, .slice none 0 0, .int .i64 0, .int .i64 0, .int .i64 0, .slice none 0 0, .int .i64 0, .int .i64 0, .slice none 0 0, .string ⟨#[]⟩, .slice none 0 0, .int .i64 0, .int .i64 0, .string ⟨#[]⟩, .slice none 0 0, .slice none 0 0, .int .i64 0, .slice none 0 0, .slice none 0 0]] w fun e w2 => ∃ v, e = .returned v ∧ Kp No w w2 ∧ v = .bool true := by
  refine calls_intro (args := [_]) w.heap.size Go.Proofs.Tryz.func147 rfl Go.Proofs.Tryz.ntmps147 (by simp) (Nat.le_refl _) ?_
  (repeat' (first | refine Gk ?_ | refine sst_box rfl rfl rfl rfl rfl (fun b hb hlt => ?_) | refine sst_alloc tb_ok rfl rfl rfl EV (fun b hb hlt => ?_)))
  refine sq_ret tb_ok rfl EV (fun w' hk hr => ?_)
  exact ⟨_, rfl, hk, rfl⟩
theorem c104_17 (a : Val) (A B1 B2 : Option Addr) (m c n1 n2 : Nat) (w : World) : Calls Go.Proofs.Tryz.prog 104 #[.agg #[.int .i64 17, .slice A m c, .int .i64 a.k, .int .i64 a.n, .string a.t, .slice B1 a.l.length n1, .slice B2 a.d.length n2, .slice none 0 0, .int .i64 0, .int .i64 0, .int .i64 0, .slice none 0 0, .int .i64 0, .int .i64 0, .slice none 0 0, .string ⟨#[]⟩, .slice none 0 0, .int .i64 0, .int .i64 0, .string ⟨#[]⟩, .slice none 0 0, .slice none 0 0, .int .i64 0, .slice none 0 0, .slice none 0 0], .int .i64 16, .int .i64 256] w fun e w2 => ∃ v, e = .returned v ∧ Kp No w w2 ∧ v = .int .i64 255 := by
  refine calls_intro (args := [_, _, _]) w.heap.size Go.Proofs.Tryz.func104 rfl Go.Proofs.Tryz.ntmps104 (by simp) (Nat.le_refl _) ?_
  (repeat' (first | refine Gk ?_ | refine sst_box rfl rfl rfl rfl rfl (fun b hb hlt => ?_) | refine sst_alloc tb_ok rfl rfl rfl EV (fun b hb hlt => ?_)))
  refine swp_loop (X := World) (fun y => Kp No w y) (fun y => ⟨37, [(7, .val (.int .i64 0)), (2, .val (.int .i64 255)), (3, .loc 0 0)], [⟨b, 35, [.int .i64 17, .slice A m c, .int .i64 a.k, .int .i64 a.n, .string a.t, .slice B1 a.l.length n1, .slice B2 a.d.length n2, .slice none 0 0, .int .i64 0, .int .i64 0, .int .i64 0, .slice none 0 0, .int .i64 0, .int .i64 0, .slice none 0 0, .string ⟨#[]⟩, .slice none 0 0, .int .i64 0, .int .i64 0, .string ⟨#[]⟩, .slice none 0 0, .slice none 0 0, .int .i64 0, .slice none 0 0, .slice none 0 0], false⟩], [], w.heap.size, y, No⟩) (fun _ => 0) ?_ ?_
  · intro w1 h1
    exact ⟨w1, h1.kp, rfl, rfl, rfl, fun k h => h, ⟨_, rfl⟩, List.Sublist.refl _, ⟨rfl, rfl, rfl, trivial⟩, by simp⟩
  intro w1 hk1
  (repeat' (first | refine Gk ?_ | refine sst_box rfl rfl rfl rfl rfl (fun b hb hlt => ?_) | refine sst_alloc tb_ok rfl rfl rfl EV (fun b hb hlt => ?_)))
  refine sq_ret tb_ok rfl EV (fun w' hk hr => ?_)
  exact ⟨_, rfl, hk1.then hk, rfl⟩
theorem c152_17 (a : Val) (A B1 B2 : Option Addr) (m c n1 n2 : Nat) (w : World) : Calls Go.Proofs.Tryz.prog 152 #[.agg #[.int .i64 17, .slice A m c, .int .i64 a.k, .int .i64 a.n, .string a.t, .slice B1 a.l.length n1, .slice B2 a.d.length n2, .slice none 0 0, .int .i64 0, .int .i64 0, .int .i64 0, .slice none 0 0, .int .i64 0, .int .i64 0, .slice none 0 0, .string ⟨#[]⟩, .slice none 0 0, .int .i64 0, .int .i64 0, .string ⟨#[]⟩, .slice none 0 0, .slice none 0 0, .int .i64 0, .slice none 0 0, .slice none 0 0]] w fun e w2 => ∃ v, e = .returned v ∧ Kp No w w2 ∧ v = .bool true := by
  refine calls_intro (args := [_]) w.heap.size Go.Proofs.Tryz.func152 rfl Go.Proofs.Tryz.ntmps152 (by simp) (Nat.le_refl _) ?_
  (repeat' (first | refine Gk ?_ | refine sst_box rfl rfl rfl rfl rfl (fun b hb hlt => ?_) | refine sst_alloc tb_ok rfl rfl rfl EV (fun b hb hlt => ?_)))
  refine sst_call tb_ok rfl rfl rfl rfl rfl EV AP (fun v _ _ => v = .bool true) ?_ ?_
  · exact fun w1 h1 => c148_17 w1
  rintro v w2 w3 h2 hk3 rfl
  (repeat' (first | refine Gk ?_ | refine sst_box rfl rfl rfl rfl rfl (fun b hb hlt => ?_) | refine sst_alloc tb_ok rfl rfl rfl EV (fun b hb hlt => ?_)))
  refine sst_call tb_ok rfl rfl rfl rfl rfl EV AP (fun v _ _ => v = .bool true) ?_ ?_
  · exact fun w1 h1 => c149_17 w1
  rintro v w4 w5 h4 hk5 rfl
  (repeat' (first | refine Gk ?_ | refine sst_box rfl rfl rfl rfl rfl (fun b hb hlt => ?_) | refine sst_alloc tb_ok rfl rfl rfl EV (fun b hb hlt => ?_)))
  refine sst_call tb_ok rfl rfl rfl rfl rfl EV AP (fun v _ _ => v = .bool false) ?_ ?_
  · exact fun w1 h1 => c146_17 w1
  rintro v w6 w7 h6 hk7 rfl
  (repeat' (first | refine Gk ?_ | refine sst_box rfl rfl rfl rfl rfl (fun b hb hlt => ?_) | refine sst_alloc tb_ok rfl rfl rfl EV (fun b hb hlt => ?_)))
  refine sst_call tb_ok rfl rfl rfl rfl rfl EV AP (fun v _ _ => v = .bool true) ?_ ?_
  · exact fun w1 h1 => c199_z w1
  rintro v w8 w9 h8 hk9 rfl
  (repeat' (first | refine Gk ?_ | refine sst_box rfl rfl rfl rfl rfl (fun b hb hlt => ?_) | refine sst_alloc tb_ok rfl rfl rfl EV (fun b hb hlt => ?_)))
  refine sst_call tb_ok rfl rfl rfl rfl rfl EV AP (fun v _ _ => v = .bool true) ?_ ?_
  · exact fun w1 h1 => c200_z w1
  rintro v w10 w11 h10 hk11 rfl
  (repeat' (first | refine Gk ?_ | refine sst_box rfl rfl rfl rfl rfl (fun b hb hlt => ?_) | refine sst_alloc tb_ok rfl rfl rfl EV (fun b hb hlt => ?_)))
  refine sq_ret tb_ok rfl EV (fun w' hk hr => ?_)
  exact ⟨_, rfl, (((((((((h2.kp.then hk3).then h4.kp).then hk5).then h6.kp).then hk7).then h8.kp).then hk9).then h10.kp).then hk11).then hk, rfl⟩
end Go.Fw
