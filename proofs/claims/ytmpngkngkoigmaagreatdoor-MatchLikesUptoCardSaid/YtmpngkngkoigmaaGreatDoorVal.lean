/- Helping lemmas for the cards of this seat's laws, of the texts: W12, W13, W14. They state no law of their own. -/
import Derived.Test.YtmpngkngkoigmaaGreatDoorMat
set_option linter.unusedVariables false
set_option linter.unusedSimpArgs false
set_option maxRecDepth 10000
set_option maxHeartbeats 2000000
namespace Go.Fw
open Go
attribute [local irreducible] SWp SQ SSeq SSt Quiet Next Meet
attribute [local irreducible] MeetX

def LevC (x : Val) : Prop := ∀ (S : Nat → Prop) (w : World) (cs : List Value) (i : Int), RepV S w x cs → Calls Go.Proofs.Tryz.prog 160 #[.agg cs.toArray, .int .i64 i] w fun e w2 => ∃ v, e = .returned v ∧ Kp No w w2 ∧ ∃ r : Int, v = .int .i64 r

theorem lev_step (x : Val) (H : ∀ y ∈ partsF x, LevC y) : LevC x := by
  intro S w cs i hx
  obtain ⟨A1, c1, A2, c2, rfl, hxk, hxn, hxt, hl, hd⟩ := hx.parts
  refine calls_intro (args := [_, _]) w.heap.size Go.Proofs.Tryz.func160 rfl Go.Proofs.Tryz.ntmps160 (by simp) (Nat.le_refl _) ?_
  (repeat' (first | refine G0 ?_ | refine sst_box rfl rfl rfl rfl rfl (fun b hb hlt => ?_) | refine sst_alloc tb_ok rfl rfl rfl EV (fun b hb hlt => ?_)))
  refine sst_call tb_ok rfl rfl rfl rfl rfl EV AP (fun v wa wb => ∃ A c, v = .slice A (partsF x).length c ∧ RepS (fun _ => True) wb A (partsF x).length c (partsF x)) ?_ ?_
  · exact fun w1 h1 => c207 x S w1 _ (hx.kp h1.kp)
  rintro v w2 w3 h2 hk3 ⟨A, c, rfl, hp⟩
  have hk13 : Kp No w w3 := h2.kp.then hk3
  have hpb := hp.2.1
  rw [LIM_eq] at hpb
  (repeat' (first | refine G0 ?_ | refine sst_box rfl rfl rfl rfl rfl (fun b hb hlt => ?_) | refine sst_alloc tb_ok rfl rfl rfl EV (fun b hb hlt => ?_)))
  refine sst_guard rfl rfl rfl (fun h1 => ?_) (fun h1 => ?_)
  · (repeat' (first | refine G0 ?_ | refine sst_box rfl rfl rfl rfl rfl (fun b hb hlt => ?_) | refine sst_alloc tb_ok rfl rfl rfl EV (fun b hb hlt => ?_)))
    refine sq_ret tb_ok rfl EV (fun w' hk hr => ?_)
    exact ⟨_, rfl, hk13.then hk, _, rfl⟩
  (repeat' (first | refine G0 ?_ | refine sst_box rfl rfl rfl rfl rfl (fun b hb hlt => ?_) | refine sst_alloc tb_ok rfl rfl rfl EV (fun b hb hlt => ?_)))
  refine swp_if rfl (fun h2 => ?_) (fun h2 => ?_)
  · (repeat' (first | refine G0 ?_ | refine sst_box rfl rfl rfl rfl rfl (fun b hb hlt => ?_) | refine sst_alloc tb_ok rfl rfl rfl EV (fun b hb hlt => ?_)))
    refine sq_ret tb_ok rfl EV (fun w' hk hr => ?_)
    exact ⟨_, rfl, hk13.then hk, _, rfl⟩
  (repeat' (first | refine G0 ?_ | refine sst_box rfl rfl rfl rfl rfl (fun b hb hlt => ?_) | refine sst_alloc tb_ok rfl rfl rfl EV (fun b hb hlt => ?_)))
  refine swp_loop (X := World × Nat × Int) (fun y => Kp No w3 y.1 ∧ y.2.1 ≤ (partsF x).length)
    (fun y => ⟨34, [(7, .val (.int .i64 (y.2.1 : Int))), (6, .val (.int .i64 y.2.2)), (5, .val (.slice A (partsF x).length c)), (1, .val (.int .i64 i))], [], [], w.heap.size, y.1, No⟩) (fun y => (partsF x).length - y.2.1) ?_ ?_
  · intro w1 h1
    refine ⟨(w1, 0, 0), ⟨h1.kp, Nat.zero_le _⟩, ?_⟩
    (refine WKmk ?_; try trivial)
  rintro ⟨w1, j, r⟩ ⟨hk1, hj⟩
  simp only at hk1 hj
  (repeat' (first | refine G0 ?_ | refine sst_box rfl rfl rfl rfl rfl (fun b hb hlt => ?_) | refine sst_alloc tb_ok rfl rfl rfl EV (fun b hb hlt => ?_)))
  refine swp_if rfl (fun h7 => ?_) (fun h7 => ?_)
  · have hj : j < (partsF x).length := by simp at h7; omega
    obtain ⟨y, hy⟩ := get_of_lt hj
    obtain ⟨yb, yoff, ycs, rfl, hyS, hyin, hyl, hyrow, hyr⟩ := hp.get hy
    (repeat' (first | refine G0 ?_ | refine sst_box rfl rfl rfl rfl rfl (fun b hb hlt => ?_) | refine sst_alloc tb_ok rfl rfl rfl EV (fun b hb hlt => ?_)))
    refine sst_quiet rfl rfl (q_index tb_ok rfl el_23 rfl rfl j rfl hyin) ?_
    (repeat' (first | refine G0 ?_ | refine sst_box rfl rfl rfl rfl rfl (fun b hb hlt => ?_) | refine sst_alloc tb_ok rfl rfl rfl EV (fun b hb hlt => ?_)))
    refine sst_quiet rfl rfl (q_far_agg tb_ok rfl sz_26 rfl id hyl (hyrow.kp hk1 id)) ?_
    (repeat' (first | refine G0 ?_ | refine sst_box rfl rfl rfl rfl rfl (fun b hb hlt => ?_) | refine sst_alloc tb_ok rfl rfl rfl EV (fun b hb hlt => ?_)))
    refine sst_call tb_ok rfl rfl rfl rfl rfl EV AP (fun v _ _ => ∃ r : Int, v = .int .i64 r) ?_ ?_
    · exact fun w4 h4 => H y (List.mem_of_getElem? hy) _ w4 _ _ (hyr.kp (hk1.then h4.kp))
    rintro v w4 w5 h4 hk5 ⟨r2, rfl⟩
    (repeat' (first | refine G0 ?_ | refine sst_box rfl rfl rfl rfl rfl (fun b hb hlt => ?_) | refine sst_alloc tb_ok rfl rfl rfl EV (fun b hb hlt => ?_)))
    refine sq_next fun w6 h6 => ?_
    refine ⟨(w6, j + 1, if r2 > r then r2 else r), ⟨((hk1.then h4.kp).then hk5).then h6.kp, by simp; omega⟩, by simp; omega, ?_⟩
    (refine WKmk ?_; try trivial)
    rw [wr_small (x := (j : Int) + 1) (by omega)]
    simp
  · (repeat' (first | refine G0 ?_ | refine sst_box rfl rfl rfl rfl rfl (fun b hb hlt => ?_) | refine sst_alloc tb_ok rfl rfl rfl EV (fun b hb hlt => ?_)))
    refine sq_ret tb_ok rfl EV (fun w' hk hr => ?_)
    exact ⟨_, rfl, (hk13.then hk1).then hk, _, rfl⟩

theorem lev_all (x : Val) : LevC x := lev_step x fun y hy => lev_all y
  termination_by SizeOf.sizeOf x
  decreasing_by exact sizeOf_part hy

theorem c119 (x : Val) (S : Nat → Prop) (w : World) (cs : List Value) (hx : RepV S w x cs) : Calls Go.Proofs.Tryz.prog 119 #[.agg cs.toArray] w fun e w2 => ∃ v, e = .returned v ∧ Kp No w w2 ∧ ∃ r : Int, v = .int .i64 r := by
  obtain ⟨A1, c1, A2, c2, rfl, -⟩ := hx.parts
  refine calls_intro (args := [_]) w.heap.size Go.Proofs.Tryz.func119 rfl Go.Proofs.Tryz.ntmps119 (by simp) (Nat.le_refl _) ?_
  (repeat' (first | refine G0 ?_ | refine sst_box rfl rfl rfl rfl rfl (fun b hb hlt => ?_) | refine sst_alloc tb_ok rfl rfl rfl EV (fun b hb hlt => ?_)))
  refine sst_call tb_ok rfl rfl rfl rfl rfl EV AP (fun v wa wb => ∃ r : Int, v = .int .i64 r) ?_ ?_
  · exact fun w1 h1 => lev_all x S w1 _ _ (hx.kp h1.kp)
  rintro v w2 w3 h2 hk3 ⟨r, rfl⟩
  (repeat' (first | refine G0 ?_ | refine sst_box rfl rfl rfl rfl rfl (fun b hb hlt => ?_) | refine sst_alloc tb_ok rfl rfl rfl EV (fun b hb hlt => ?_)))
  refine sq_ret tb_ok rfl EV (fun w' hk hr => ?_)
  exact ⟨_, rfl, (h2.kp.then hk3).then hk, _, rfl⟩

def CntC (x : Val) : Prop := ∀ (S : Nat → Prop) (w : World) (cs : List Value) (i : Int), RepV S w x cs → Calls Go.Proofs.Tryz.prog 161 #[.agg cs.toArray, .int .i64 i] w fun e w2 => ∃ v, e = .returned v ∧ Kp No w w2 ∧ ∃ r : Int, v = .int .i64 r

theorem cnt_step (x : Val) (H : ∀ y ∈ partsF x, CntC y) : CntC x := by
  intro S w cs i hx
  obtain ⟨A1, c1, A2, c2, rfl, hxk, hxn, hxt, hl, hd⟩ := hx.parts
  refine calls_intro (args := [_, _]) w.heap.size Go.Proofs.Tryz.func161 rfl Go.Proofs.Tryz.ntmps161 (by simp) (Nat.le_refl _) ?_
  (repeat' (first | refine G0 ?_ | refine sst_box rfl rfl rfl rfl rfl (fun b hb hlt => ?_) | refine sst_alloc tb_ok rfl rfl rfl EV (fun b hb hlt => ?_)))
  refine sst_call tb_ok rfl rfl rfl rfl rfl EV AP (fun v wa wb => ∃ A c, v = .slice A (partsF x).length c ∧ RepS (fun _ => True) wb A (partsF x).length c (partsF x)) ?_ ?_
  · exact fun w1 h1 => c207 x S w1 _ (hx.kp h1.kp)
  rintro v w2 w3 h2 hk3 ⟨A, c, rfl, hp⟩
  have hk13 : Kp No w w3 := h2.kp.then hk3
  have hpb := hp.2.1
  rw [LIM_eq] at hpb
  (repeat' (first | refine G0 ?_ | refine sst_box rfl rfl rfl rfl rfl (fun b hb hlt => ?_) | refine sst_alloc tb_ok rfl rfl rfl EV (fun b hb hlt => ?_)))
  refine swp_loop (X := World × Nat × Int) (fun y => Kp No w3 y.1 ∧ y.2.1 ≤ (partsF x).length)
    (fun y => ⟨32, [(7, .val (.int .i64 (y.2.1 : Int))), (5, .val (.int .i64 y.2.2)), (6, .val (.slice A (partsF x).length c)), (1, .val (.int .i64 i))], [], [], w.heap.size, y.1, No⟩) (fun y => (partsF x).length - y.2.1) ?_ ?_
  · intro w1 h1
    refine ⟨(w1, 0, 1), ⟨h1.kp, Nat.zero_le _⟩, ?_⟩
    (refine WKmk ?_; try trivial)
  rintro ⟨w1, j, r⟩ ⟨hk1, hj⟩
  simp only at hk1 hj
  have fin : ∀ w', Kp No w1 w' → ∃ v, Ending.returned (oneOr [Value.int .i64 r]) = .returned v ∧ Kp No w w' ∧ ∃ r : Int, v = .int .i64 r := fun w' hk => ⟨_, rfl, (hk13.then hk1).then hk, _, rfl⟩
  (repeat' (first | refine G0 ?_ | refine sst_box rfl rfl rfl rfl rfl (fun b hb hlt => ?_) | refine sst_alloc tb_ok rfl rfl rfl EV (fun b hb hlt => ?_)))
  refine sst_guard rfl rfl rfl (fun h7 => ?_) (fun h7 => ?_)
  rotate_left
  · (repeat' (first | refine G0 ?_ | refine sst_box rfl rfl rfl rfl rfl (fun b hb hlt => ?_) | refine sst_alloc tb_ok rfl rfl rfl EV (fun b hb hlt => ?_)))
    refine sq_ret tb_ok rfl EV (fun w' hk hr => ?_)
    exact fin _ hk
  have hj : j < (partsF x).length := by simp at h7; omega
  (repeat' (first | refine G0 ?_ | refine sst_box rfl rfl rfl rfl rfl (fun b hb hlt => ?_) | refine sst_alloc tb_ok rfl rfl rfl EV (fun b hb hlt => ?_)))
  refine swp_if rfl (fun h8 => ?_) (fun h8 => ?_)
  rotate_left
  · (repeat' (first | refine G0 ?_ | refine sst_box rfl rfl rfl rfl rfl (fun b hb hlt => ?_) | refine sst_alloc tb_ok rfl rfl rfl EV (fun b hb hlt => ?_)))
    refine sq_ret tb_ok rfl EV (fun w' hk hr => ?_)
    exact fin _ hk
  obtain ⟨y, hy⟩ := get_of_lt hj
  obtain ⟨yb, yoff, ycs, rfl, hyS, hyin, hyl, hyrow, hyr⟩ := hp.get hy
  (repeat' (first | refine G0 ?_ | refine sst_box rfl rfl rfl rfl rfl (fun b hb hlt => ?_) | refine sst_alloc tb_ok rfl rfl rfl EV (fun b hb hlt => ?_)))
  refine sst_quiet rfl rfl (q_index tb_ok rfl el_23 rfl rfl j rfl hyin) ?_
  (repeat' (first | refine G0 ?_ | refine sst_box rfl rfl rfl rfl rfl (fun b hb hlt => ?_) | refine sst_alloc tb_ok rfl rfl rfl EV (fun b hb hlt => ?_)))
  refine sst_quiet rfl rfl (q_far_agg tb_ok rfl sz_26 rfl id hyl (hyrow.kp hk1 id)) ?_
  (repeat' (first | refine G0 ?_ | refine sst_box rfl rfl rfl rfl rfl (fun b hb hlt => ?_) | refine sst_alloc tb_ok rfl rfl rfl EV (fun b hb hlt => ?_)))
  refine sst_call tb_ok rfl rfl rfl rfl rfl EV AP (fun v _ _ => ∃ r : Int, v = .int .i64 r) ?_ ?_
  · exact fun w4 h4 => H y (List.mem_of_getElem? hy) _ w4 _ _ (hyr.kp (hk1.then h4.kp))
  rintro v w4 w5 h4 hk5 ⟨r2, rfl⟩
  (repeat' (first | refine G0 ?_ | refine sst_box rfl rfl rfl rfl rfl (fun b hb hlt => ?_) | refine sst_alloc tb_ok rfl rfl rfl EV (fun b hb hlt => ?_)))
  refine sq_next fun w6 h6 => ?_
  refine ⟨(w6, j + 1, wr .i64 (r + r2)), ⟨((hk1.then h4.kp).then hk5).then h6.kp, by simp; omega⟩, by simp; omega, ?_⟩
  (refine WKmk ?_; try trivial)
  rw [wr_small (x := (j : Int) + 1) (by omega)]
  simp

theorem cnt_all (x : Val) : CntC x := cnt_step x fun y hy => cnt_all y
  termination_by SizeOf.sizeOf x
  decreasing_by exact sizeOf_part hy

theorem c120 (x : Val) (S : Nat → Prop) (w : World) (cs : List Value) (hx : RepV S w x cs) : Calls Go.Proofs.Tryz.prog 120 #[.agg cs.toArray] w fun e w2 => ∃ v, e = .returned v ∧ Kp No w w2 ∧ ∃ r : Int, v = .int .i64 r := by
  obtain ⟨A1, c1, A2, c2, rfl, -⟩ := hx.parts
  refine calls_intro (args := [_]) w.heap.size Go.Proofs.Tryz.func120 rfl Go.Proofs.Tryz.ntmps120 (by simp) (Nat.le_refl _) ?_
  (repeat' (first | refine G0 ?_ | refine sst_box rfl rfl rfl rfl rfl (fun b hb hlt => ?_) | refine sst_alloc tb_ok rfl rfl rfl EV (fun b hb hlt => ?_)))
  refine sst_call tb_ok rfl rfl rfl rfl rfl EV AP (fun v wa wb => ∃ r : Int, v = .int .i64 r) ?_ ?_
  · exact fun w1 h1 => cnt_all x S w1 _ _ (hx.kp h1.kp)
  rintro v w2 w3 h2 hk3 ⟨r, rfl⟩
  (repeat' (first | refine G0 ?_ | refine sst_box rfl rfl rfl rfl rfl (fun b hb hlt => ?_) | refine sst_alloc tb_ok rfl rfl rfl EV (fun b hb hlt => ?_)))
  refine sq_ret tb_ok rfl EV (fun w' hk hr => ?_)
  exact ⟨_, rfl, (h2.kp.then hk3).then hk, _, rfl⟩

theorem c208 (s : ByteArray) (hs : s.size ≤ LIM) (a m : Nat) (ha : a ≤ s.size) (hm : m ≤ 3) (w : World) : Calls Go.Proofs.Tryz.prog 208 #[.string s, .int .i64 a, .int .i64 m] w fun e w2 => ∃ v, e = .returned v ∧ Kp No w w2 ∧ ∃ b : Bool, v = .bool b ∧ (b = true → a + m ≤ s.size) := by
  rw [LIM_eq] at hs
  have hsz := size_len s
  have ham : wr .i64 ((a : Int) + m) = ((a + m : Nat) : Int) := by rw [wr_small (by omega)]; simp
  refine calls_intro (args := [_, _, _]) w.heap.size Go.Proofs.Tryz.func208 rfl Go.Proofs.Tryz.ntmps208 (by simp) (Nat.le_refl _) ?_
  (repeat' (first | refine G0 ?_ | refine sst_box rfl rfl rfl rfl rfl (fun b hb hlt => ?_) | refine sst_alloc tb_ok rfl rfl rfl EV (fun b hb hlt => ?_)))
  refine swp_if rfl (fun h1 => ?_) (fun h1 => ?_)
  · (repeat' (first | refine G0 ?_ | refine sst_box rfl rfl rfl rfl rfl (fun b hb hlt => ?_) | refine sst_alloc tb_ok rfl rfl rfl EV (fun b hb hlt => ?_)))
    refine sq_ret tb_ok rfl EV (fun w' hk hr => ?_)
    exact ⟨_, rfl, hk, _, rfl, by simp⟩
  have hle : a + m ≤ s.size := by rw [ham] at h1; simp at h1; omega
  (repeat' (first | refine G0 ?_ | refine sst_box rfl rfl rfl rfl rfl (fun b hb hlt => ?_) | refine sst_alloc tb_ok rfl rfl rfl EV (fun b hb hlt => ?_)))
  refine swp_loop (X := World × Nat) (fun y => Kp No w y.1 ∧ y.2 ≤ m)
    (fun y => ⟨33, [(7, .val (.int .i64 (y.2 : Int))), (0, .val (.string s)), (1, .val (.int .i64 (a : Int))), (2, .val (.int .i64 (m : Int)))], [], [], w.heap.size, y.1, No⟩) (fun y => m - y.2) ?_ ?_
  · intro w1 h1
    refine ⟨(w1, 0), ⟨h1.kp, Nat.zero_le _⟩, ?_⟩
    (refine WKmk ?_; try trivial)
  rintro ⟨w1, i⟩ ⟨hk1, hi⟩
  simp only at hk1 hi
  (repeat' (first | refine G0 ?_ | refine sst_box rfl rfl rfl rfl rfl (fun b hb hlt => ?_) | refine sst_alloc tb_ok rfl rfl rfl EV (fun b hb hlt => ?_)))
  refine swp_if rfl (fun h2 => ?_) (fun h2 => ?_)
  · have hi : i < m := by simp at h2; omega
    obtain ⟨c, hc⟩ := get_of_lt (l := s.data.toList) (i := a + i) (by omega)
    have hai : wr .i64 ((a : Int) + i) = ((a + i : Nat) : Int) := by rw [wr_small (by omega)]; simp
    (repeat' (first | refine G0 ?_ | refine sst_box rfl rfl rfl rfl rfl (fun b hb hlt => ?_) | refine sst_alloc tb_ok rfl rfl rfl EV (fun b hb hlt => ?_)))
    refine sst_quiet rfl rfl (q_strIndex tb_ok rfl str_9 rfl rfl (a + i) hai hc) ?_
    (repeat' (first | refine G0 ?_ | refine sst_box rfl rfl rfl rfl rfl (fun b hb hlt => ?_) | refine sst_alloc tb_ok rfl rfl rfl EV (fun b hb hlt => ?_)))
    refine sst_guard rfl rfl rfl (fun h3 => ?_) (fun h3 => ?_)
    · (repeat' (first | refine G0 ?_ | refine sst_box rfl rfl rfl rfl rfl (fun b hb hlt => ?_) | refine sst_alloc tb_ok rfl rfl rfl EV (fun b hb hlt => ?_)))
      refine sq_ret tb_ok rfl EV (fun w' hk hr => ?_)
      exact ⟨_, rfl, hk1.then hk, _, rfl, fun h => by cases h⟩
    (repeat' (first | refine G0 ?_ | refine sst_box rfl rfl rfl rfl rfl (fun b hb hlt => ?_) | refine sst_alloc tb_ok rfl rfl rfl EV (fun b hb hlt => ?_)))
    refine sst_quiet rfl rfl (q_strIndex tb_ok rfl str_9 rfl rfl (a + i) hai hc) ?_
    (repeat' (first | refine G0 ?_ | refine sst_box rfl rfl rfl rfl rfl (fun b hb hlt => ?_) | refine sst_alloc tb_ok rfl rfl rfl EV (fun b hb hlt => ?_)))
    refine swp_if rfl (fun h4 => ?_) (fun h4 => ?_)
    · (repeat' (first | refine G0 ?_ | refine sst_box rfl rfl rfl rfl rfl (fun b hb hlt => ?_) | refine sst_alloc tb_ok rfl rfl rfl EV (fun b hb hlt => ?_)))
      refine sq_ret tb_ok rfl EV (fun w' hk hr => ?_)
      exact ⟨_, rfl, hk1.then hk, _, rfl, fun h => by cases h⟩
    (repeat' (first | refine G0 ?_ | refine sst_box rfl rfl rfl rfl rfl (fun b hb hlt => ?_) | refine sst_alloc tb_ok rfl rfl rfl EV (fun b hb hlt => ?_)))
    refine sq_next fun w6 h6 => ?_
    refine ⟨(w6, i + 1), ⟨hk1.then h6.kp, by simp; omega⟩, by simp; omega, ?_⟩
    (refine WKmk ?_; try trivial)
    rw [wr_small (x := (i : Int) + 1) (by omega)]
    simp
  · (repeat' (first | refine G0 ?_ | refine sst_box rfl rfl rfl rfl rfl (fun b hb hlt => ?_) | refine sst_alloc tb_ok rfl rfl rfl EV (fun b hb hlt => ?_)))
    refine sq_ret tb_ok rfl EV (fun w' hk hr => ?_)
    exact ⟨_, rfl, hk1.then hk, _, rfl, fun _ => hle⟩
end Go.Fw

set_option linter.unusedVariables false
set_option linter.unusedSimpArgs false
set_option maxRecDepth 10000
set_option maxHeartbeats 2000000
namespace Go.Fw
open Go
attribute [local irreducible] SWp SQ SSeq SSt Quiet Next Meet
attribute [local irreducible] MeetX

theorem c162 (s : ByteArray) (hs : s.size ≤ LIM) (w : World) : Calls Go.Proofs.Tryz.prog 162 #[.string s] w fun e w2 => ∃ v, e = .returned v ∧ Kp No w w2 ∧ ∃ b : Bool, v = .bool b := by
  rw [LIM_eq] at hs
  have hsz := size_len s
  refine calls_intro (args := [_]) w.heap.size Go.Proofs.Tryz.func162 rfl Go.Proofs.Tryz.ntmps162 (by simp) (Nat.le_refl _) ?_
  (repeat' (first | refine G0 ?_ | refine sst_box rfl rfl rfl rfl rfl (fun b hb hlt => ?_) | refine sst_alloc tb_ok rfl rfl rfl EV (fun b hb hlt => ?_)))
  refine swp_loop (X := World × Nat) (fun y => Kp No w y.1 ∧ y.2 ≤ s.size)
    (fun y => ⟨89, [(3, .val (.int .i64 (y.2 : Int))), (0, .val (.string s))], [], [], w.heap.size, y.1, No⟩) (fun y => s.size - y.2) ?_ ?_
  · intro w1 h1
    refine ⟨(w1, 0), ⟨h1.kp, Nat.zero_le _⟩, ?_⟩
    (refine WKmk ?_; try trivial)
  rintro ⟨w1, i⟩ ⟨hk1, hi⟩
  simp only at hk1 hi
  have fin : ∀ (b : Bool) w', Kp No w1 w' → ∃ v, Ending.returned (oneOr [Value.bool b]) = .returned v ∧ Kp No w w' ∧ ∃ b : Bool, v = .bool b := fun b w' hk => ⟨_, rfl, hk1.then hk, _, rfl⟩
  (repeat' (first | refine G0 ?_ | refine sst_box rfl rfl rfl rfl rfl (fun b hb hlt => ?_) | refine sst_alloc tb_ok rfl rfl rfl EV (fun b hb hlt => ?_)))
  refine swp_if rfl (fun h2 => ?_) (fun h2 => ?_)
  rotate_left
  · (repeat' (first | refine G0 ?_ | refine sst_box rfl rfl rfl rfl rfl (fun b hb hlt => ?_) | refine sst_alloc tb_ok rfl rfl rfl EV (fun b hb hlt => ?_)))
    refine sq_ret tb_ok rfl EV (fun w' hk hr => ?_)
    exact fin _ _ hk
  have hi : i < s.size := by simp at h2; omega
  obtain ⟨c, hc⟩ := get_of_lt (l := s.data.toList) (i := i) (by omega)
  (repeat' (first | refine G0 ?_ | refine sst_box rfl rfl rfl rfl rfl (fun b hb hlt => ?_) | refine sst_alloc tb_ok rfl rfl rfl EV (fun b hb hlt => ?_)))
  refine sst_quiet rfl rfl (q_strIndex tb_ok rfl str_9 rfl rfl i rfl hc) ?_
  (repeat' (first | refine Gt ?_ | refine sst_box rfl rfl rfl rfl rfl (fun b hb hlt => ?_) | refine sst_alloc tb_ok rfl rfl rfl EV (fun b hb hlt => ?_)))
  (refine swp_seq ?_; refine swp_region ?_; (repeat' (first | refine Gr ?_ | refine sst_box rfl rfl rfl rfl rfl (fun b hb hlt => ?_) | refine sst_alloc tb_ok rfl rfl rfl EV (fun b hb hlt => ?_))))
  refine swp_meetX (X := World × Nat) (fun y => Kp No w1 y.1 ∧ y.2 ≤ 3 ∧ (224 ≤ c.toNat → 1 ≤ y.2)) (fun y => ⟨89, [(5, .val (.int .i64 (y.2 : Int))), (4, .val (.int .u8 (c.toNat : Int))), (3, .val (.int .i64 (i : Int))), (0, .val (.string s))], [], [], w.heap.size, y.1, No⟩) ?_ ?_
  · (repeat' (first | refine G0 ?_ | refine sst_box rfl rfl rfl rfl rfl (fun b hb hlt => ?_) | refine sst_alloc tb_ok rfl rfl rfl EV (fun b hb hlt => ?_)))
    refine swp_if rfl (fun h3 => ?_) (fun h3 => ?_)
    · (repeat' (first | refine G0 ?_ | refine sst_box rfl rfl rfl rfl rfl (fun b hb hlt => ?_) | refine sst_alloc tb_ok rfl rfl rfl EV (fun b hb hlt => ?_)))
      refine sq_meetX fun w4 h4 => ⟨(w4, 0), ⟨h4.kp, by simp, fun h => by simp at h3; omega⟩, ?_⟩
      (refine WKmk ?_; try trivial)
    repeat' (first | first | refine G0 ?_ | refine sst_box rfl rfl rfl rfl rfl (fun _ _ _ => ?_) | refine sst_alloc tb_ok rfl rfl rfl EV (fun _ _ _ => ?_) | refine sst_guard rfl rfl rfl (fun _ => ?_) (fun _ => ?_) | refine swp_if rfl (fun _ => ?_) (fun _ => ?_))
    all_goals first
      | (refine sq_meetX fun w4 h4 => ⟨(w4, 1), ⟨h4.kp, by simp, by simp⟩, ?_⟩; (refine WKmk ?_; try trivial); done)
      | (refine sq_meetX fun w4 h4 => ⟨(w4, 2), ⟨h4.kp, by simp, by simp⟩, ?_⟩; (refine WKmk ?_; try trivial); done)
      | (refine sq_meetX fun w4 h4 => ⟨(w4, 3), ⟨h4.kp, by simp, by simp⟩, ?_⟩; (refine WKmk ?_; try trivial); done)
      | skip
    all_goals refine sq_meetX_ret ?_
    all_goals (repeat' (first | refine G0 ?_ | refine sst_box rfl rfl rfl rfl rfl (fun b hb hlt => ?_) | refine sst_alloc tb_ok rfl rfl rfl EV (fun b hb hlt => ?_)))
    all_goals refine sq_ret tb_ok rfl EV (fun w' hk hr => ?_)
    all_goals exact fin _ _ hk
  rintro ⟨w2, m⟩ ⟨hk2, hm, hm2⟩
  simp only at hk2 hm hm2
  have hii : wr .i64 ((i : Int) + 1) = ((i + 1 : Nat) : Int) := by rw [wr_small (by omega)]; simp
  (repeat' (first | refine G0 ?_ | refine sst_box rfl rfl rfl rfl rfl (fun b hb hlt => ?_) | refine sst_alloc tb_ok rfl rfl rfl EV (fun b hb hlt => ?_)))
  rw [hii]
  refine sst_call tb_ok rfl rfl rfl rfl rfl EV AP (fun v _ _ => ∃ b : Bool, v = .bool b ∧ (b = true → i + 1 + m ≤ s.size)) ?_ ?_
  · exact fun w3 h3 => c208 s (by rw [LIM_eq]; exact hs) (i + 1) m (by omega) hm w3
  rintro v w3 w4 h3 hk4 ⟨b, rfl, hb⟩
  have hk24 : Kp No w1 w4 := (hk2.then h3.kp).then hk4
  (repeat' (first | refine G0 ?_ | refine sst_box rfl rfl rfl rfl rfl (fun b hb hlt => ?_) | refine sst_alloc tb_ok rfl rfl rfl EV (fun b hb hlt => ?_)))
  refine swp_if rfl (fun h5 => ?_) (fun h5 => ?_)
  · (repeat' (first | refine G0 ?_ | refine sst_box rfl rfl rfl rfl rfl (fun b hb hlt => ?_) | refine sst_alloc tb_ok rfl rfl rfl EV (fun b hb hlt => ?_)))
    refine sq_ret tb_ok rfl EV (fun w' hk hr => ?_)
    exact fin _ _ (hk24.then hk)
  have hb := hb (by simpa using h5)
  refine swp_skip ?_
  refine sq_then ?_
  refine swp_seq ?_
  have hix : ∀ (k : Int), ((c.toNat : Int) == k) = true → 224 ≤ k → ∃ c1, s.data.toList[i + 1]? = some c1 := fun k h1 h2 => by
    have h3 : (c.toNat : Int) = k := by simpa using h1
    exact get_of_lt (by have := hm2 (by omega); omega)
  refine swp_meetX (X := World × Bool) (fun y => Kp No w1 y.1) (fun y => ⟨89, [(84, .sb y.2), (5, .val (.int .i64 (m : Int))), (4, .val (.int .u8 (c.toNat : Int))), (3, .val (.int .i64 (i : Int))), (0, .val (.string s))], [], [], w.heap.size, y.1, No⟩) ?_ ?_
  · refine swp_region ?_
    have close : ∀ (w5 : World), Kp No w4 w5 → Kp No w1 w5 := fun w5 h => hk24.then h
    refine sseq_cut (X := World × Bool) 9 (fun y => Kp No w1 y.1) (fun y => ⟨89, [(51, .sb y.2), (5, .val (.int .i64 (m : Int))), (4, .val (.int .u8 (c.toNat : Int))), (3, .val (.int .i64 (i : Int))), (0, .val (.string s))], [], [], w.heap.size, y.1, No⟩) ?_ ?_
    · (repeat' (first | refine G0 ?_ | refine sst_box rfl rfl rfl rfl rfl (fun b hb hlt => ?_) | refine sst_alloc tb_ok rfl rfl rfl EV (fun b hb hlt => ?_)))
      refine sst_guard rfl rfl rfl (fun h => ?_) (fun h => ?_)
      · obtain ⟨c1, hc1⟩ := hix 224 h (by omega)
        (repeat' (first | refine G0 ?_ | refine sst_box rfl rfl rfl rfl rfl (fun b hb hlt => ?_) | refine sst_alloc tb_ok rfl rfl rfl EV (fun b hb hlt => ?_)))
        refine sst_quiet rfl rfl (q_strIndex tb_ok rfl str_9 rfl rfl (i + 1) hii hc1) ?_
        (repeat' (first | refine G0 ?_ | refine sst_box rfl rfl rfl rfl rfl (fun b hb hlt => ?_) | refine sst_alloc tb_ok rfl rfl rfl EV (fun b hb hlt => ?_)))
        first
              | (refine sq_forget (t := 51) true rfl (sq_meetX fun w5 h5 => ?_); exact ⟨(w5, true), close w5 h5.kp, rfl, rfl, rfl, fun k h => h, ⟨_, rfl⟩, List.Sublist.refl _, ⟨rfl, rfl, rfl, rfl, rfl, trivial⟩, by simp⟩)
              | (refine sq_forget (t := 51) false rfl (sq_meetX fun w5 h5 => ?_); exact ⟨(w5, false), close w5 h5.kp, rfl, rfl, rfl, fun k h => h, ⟨_, rfl⟩, List.Sublist.refl _, ⟨rfl, rfl, rfl, rfl, rfl, trivial⟩, by simp⟩)
              | (refine sq_meetX fun w5 h5 => ?_; exact ⟨(w5, _), close w5 h5.kp, rfl, rfl, rfl, fun k h => h, ⟨_, rfl⟩, List.Sublist.refl _, ⟨rfl, rfl, rfl, rfl, rfl, trivial⟩, by simp⟩)
      · (repeat' (first | refine G0 ?_ | refine sst_box rfl rfl rfl rfl rfl (fun b hb hlt => ?_) | refine sst_alloc tb_ok rfl rfl rfl EV (fun b hb hlt => ?_)))
        first
              | (refine sq_forget (t := 51) true rfl (sq_meetX fun w5 h5 => ?_); exact ⟨(w5, true), close w5 h5.kp, rfl, rfl, rfl, fun k h => h, ⟨_, rfl⟩, List.Sublist.refl _, ⟨rfl, rfl, rfl, rfl, rfl, trivial⟩, by simp⟩)
              | (refine sq_forget (t := 51) false rfl (sq_meetX fun w5 h5 => ?_); exact ⟨(w5, false), close w5 h5.kp, rfl, rfl, rfl, fun k h => h, ⟨_, rfl⟩, List.Sublist.refl _, ⟨rfl, rfl, rfl, rfl, rfl, trivial⟩, by simp⟩)
              | (refine sq_meetX fun w5 h5 => ?_; exact ⟨(w5, _), close w5 h5.kp, rfl, rfl, rfl, fun k h => h, ⟨_, rfl⟩, List.Sublist.refl _, ⟨rfl, rfl, rfl, rfl, rfl, trivial⟩, by simp⟩)
    clear close
    rintro ⟨w6, b6⟩ hk6
    simp only at hk6
    have close : ∀ (w5 : World), Kp No w6 w5 → Kp No w1 w5 := fun w5 h => Kp.then hk6 h
    refine sseq_cut (X := World × Bool) 11 (fun y => Kp No w1 y.1) (fun y => ⟨89, [(62, .sb y.2), (5, .val (.int .i64 (m : Int))), (4, .val (.int .u8 (c.toNat : Int))), (3, .val (.int .i64 (i : Int))), (0, .val (.string s))], [], [], w.heap.size, y.1, No⟩) ?_ ?_
    · (repeat' (first | refine G0 ?_ | refine sst_box rfl rfl rfl rfl rfl (fun b hb hlt => ?_) | refine sst_alloc tb_ok rfl rfl rfl EV (fun b hb hlt => ?_)))
      refine sst_guard rfl rfl rfl (fun hg => ?_) (fun hg => ?_)
      · (repeat' (first | refine G0 ?_ | refine sst_box rfl rfl rfl rfl rfl (fun b hb hlt => ?_) | refine sst_alloc tb_ok rfl rfl rfl EV (fun b hb hlt => ?_)))
        first
              | (refine sq_forget (t := 62) true rfl (sq_meetX fun w5 h5 => ?_); exact ⟨(w5, true), close w5 h5.kp, rfl, rfl, rfl, fun k h => h, ⟨_, rfl⟩, List.Sublist.refl _, ⟨rfl, rfl, rfl, rfl, rfl, trivial⟩, by simp⟩)
              | (refine sq_forget (t := 62) false rfl (sq_meetX fun w5 h5 => ?_); exact ⟨(w5, false), close w5 h5.kp, rfl, rfl, rfl, fun k h => h, ⟨_, rfl⟩, List.Sublist.refl _, ⟨rfl, rfl, rfl, rfl, rfl, trivial⟩, by simp⟩)
              | (refine sq_meetX fun w5 h5 => ?_; exact ⟨(w5, _), close w5 h5.kp, rfl, rfl, rfl, fun k h => h, ⟨_, rfl⟩, List.Sublist.refl _, ⟨rfl, rfl, rfl, rfl, rfl, trivial⟩, by simp⟩)
      (repeat' (first | refine G0 ?_ | refine sst_box rfl rfl rfl rfl rfl (fun b hb hlt => ?_) | refine sst_alloc tb_ok rfl rfl rfl EV (fun b hb hlt => ?_)))
      refine sst_guard rfl rfl rfl (fun h => ?_) (fun h => ?_)
      · obtain ⟨c1, hc1⟩ := hix 237 h (by omega)
        (repeat' (first | refine G0 ?_ | refine sst_box rfl rfl rfl rfl rfl (fun b hb hlt => ?_) | refine sst_alloc tb_ok rfl rfl rfl EV (fun b hb hlt => ?_)))
        refine sst_quiet rfl rfl (q_strIndex tb_ok rfl str_9 rfl rfl (i + 1) hii hc1) ?_
        (repeat' (first | refine G0 ?_ | refine sst_box rfl rfl rfl rfl rfl (fun b hb hlt => ?_) | refine sst_alloc tb_ok rfl rfl rfl EV (fun b hb hlt => ?_)))
        first
              | (refine sq_forget (t := 62) true rfl (sq_meetX fun w5 h5 => ?_); exact ⟨(w5, true), close w5 h5.kp, rfl, rfl, rfl, fun k h => h, ⟨_, rfl⟩, List.Sublist.refl _, ⟨rfl, rfl, rfl, rfl, rfl, trivial⟩, by simp⟩)
              | (refine sq_forget (t := 62) false rfl (sq_meetX fun w5 h5 => ?_); exact ⟨(w5, false), close w5 h5.kp, rfl, rfl, rfl, fun k h => h, ⟨_, rfl⟩, List.Sublist.refl _, ⟨rfl, rfl, rfl, rfl, rfl, trivial⟩, by simp⟩)
              | (refine sq_meetX fun w5 h5 => ?_; exact ⟨(w5, _), close w5 h5.kp, rfl, rfl, rfl, fun k h => h, ⟨_, rfl⟩, List.Sublist.refl _, ⟨rfl, rfl, rfl, rfl, rfl, trivial⟩, by simp⟩)
      · (repeat' (first | refine G0 ?_ | refine sst_box rfl rfl rfl rfl rfl (fun b hb hlt => ?_) | refine sst_alloc tb_ok rfl rfl rfl EV (fun b hb hlt => ?_)))
        first
              | (refine sq_forget (t := 62) true rfl (sq_meetX fun w5 h5 => ?_); exact ⟨(w5, true), close w5 h5.kp, rfl, rfl, rfl, fun k h => h, ⟨_, rfl⟩, List.Sublist.refl _, ⟨rfl, rfl, rfl, rfl, rfl, trivial⟩, by simp⟩)
              | (refine sq_forget (t := 62) false rfl (sq_meetX fun w5 h5 => ?_); exact ⟨(w5, false), close w5 h5.kp, rfl, rfl, rfl, fun k h => h, ⟨_, rfl⟩, List.Sublist.refl _, ⟨rfl, rfl, rfl, rfl, rfl, trivial⟩, by simp⟩)
              | (refine sq_meetX fun w5 h5 => ?_; exact ⟨(w5, _), close w5 h5.kp, rfl, rfl, rfl, fun k h => h, ⟨_, rfl⟩, List.Sublist.refl _, ⟨rfl, rfl, rfl, rfl, rfl, trivial⟩, by simp⟩)
    clear close
    rintro ⟨w7, b7⟩ hk7
    simp only at hk7
    have close : ∀ (w5 : World), Kp No w7 w5 → Kp No w1 w5 := fun w5 h => Kp.then hk7 h
    refine sseq_cut (X := World × Bool) 11 (fun y => Kp No w1 y.1) (fun y => ⟨89, [(73, .sb y.2), (5, .val (.int .i64 (m : Int))), (4, .val (.int .u8 (c.toNat : Int))), (3, .val (.int .i64 (i : Int))), (0, .val (.string s))], [], [], w.heap.size, y.1, No⟩) ?_ ?_
    · (repeat' (first | refine G0 ?_ | refine sst_box rfl rfl rfl rfl rfl (fun b hb hlt => ?_) | refine sst_alloc tb_ok rfl rfl rfl EV (fun b hb hlt => ?_)))
      refine sst_guard rfl rfl rfl (fun hg => ?_) (fun hg => ?_)
      · (repeat' (first | refine G0 ?_ | refine sst_box rfl rfl rfl rfl rfl (fun b hb hlt => ?_) | refine sst_alloc tb_ok rfl rfl rfl EV (fun b hb hlt => ?_)))
        first
              | (refine sq_forget (t := 73) true rfl (sq_meetX fun w5 h5 => ?_); exact ⟨(w5, true), close w5 h5.kp, rfl, rfl, rfl, fun k h => h, ⟨_, rfl⟩, List.Sublist.refl _, ⟨rfl, rfl, rfl, rfl, rfl, trivial⟩, by simp⟩)
              | (refine sq_forget (t := 73) false rfl (sq_meetX fun w5 h5 => ?_); exact ⟨(w5, false), close w5 h5.kp, rfl, rfl, rfl, fun k h => h, ⟨_, rfl⟩, List.Sublist.refl _, ⟨rfl, rfl, rfl, rfl, rfl, trivial⟩, by simp⟩)
              | (refine sq_meetX fun w5 h5 => ?_; exact ⟨(w5, _), close w5 h5.kp, rfl, rfl, rfl, fun k h => h, ⟨_, rfl⟩, List.Sublist.refl _, ⟨rfl, rfl, rfl, rfl, rfl, trivial⟩, by simp⟩)
      (repeat' (first | refine G0 ?_ | refine sst_box rfl rfl rfl rfl rfl (fun b hb hlt => ?_) | refine sst_alloc tb_ok rfl rfl rfl EV (fun b hb hlt => ?_)))
      refine sst_guard rfl rfl rfl (fun h => ?_) (fun h => ?_)
      · obtain ⟨c1, hc1⟩ := hix 240 h (by omega)
        (repeat' (first | refine G0 ?_ | refine sst_box rfl rfl rfl rfl rfl (fun b hb hlt => ?_) | refine sst_alloc tb_ok rfl rfl rfl EV (fun b hb hlt => ?_)))
        refine sst_quiet rfl rfl (q_strIndex tb_ok rfl str_9 rfl rfl (i + 1) hii hc1) ?_
        (repeat' (first | refine G0 ?_ | refine sst_box rfl rfl rfl rfl rfl (fun b hb hlt => ?_) | refine sst_alloc tb_ok rfl rfl rfl EV (fun b hb hlt => ?_)))
        first
              | (refine sq_forget (t := 73) true rfl (sq_meetX fun w5 h5 => ?_); exact ⟨(w5, true), close w5 h5.kp, rfl, rfl, rfl, fun k h => h, ⟨_, rfl⟩, List.Sublist.refl _, ⟨rfl, rfl, rfl, rfl, rfl, trivial⟩, by simp⟩)
              | (refine sq_forget (t := 73) false rfl (sq_meetX fun w5 h5 => ?_); exact ⟨(w5, false), close w5 h5.kp, rfl, rfl, rfl, fun k h => h, ⟨_, rfl⟩, List.Sublist.refl _, ⟨rfl, rfl, rfl, rfl, rfl, trivial⟩, by simp⟩)
              | (refine sq_meetX fun w5 h5 => ?_; exact ⟨(w5, _), close w5 h5.kp, rfl, rfl, rfl, fun k h => h, ⟨_, rfl⟩, List.Sublist.refl _, ⟨rfl, rfl, rfl, rfl, rfl, trivial⟩, by simp⟩)
      · (repeat' (first | refine G0 ?_ | refine sst_box rfl rfl rfl rfl rfl (fun b hb hlt => ?_) | refine sst_alloc tb_ok rfl rfl rfl EV (fun b hb hlt => ?_)))
        first
              | (refine sq_forget (t := 73) true rfl (sq_meetX fun w5 h5 => ?_); exact ⟨(w5, true), close w5 h5.kp, rfl, rfl, rfl, fun k h => h, ⟨_, rfl⟩, List.Sublist.refl _, ⟨rfl, rfl, rfl, rfl, rfl, trivial⟩, by simp⟩)
              | (refine sq_forget (t := 73) false rfl (sq_meetX fun w5 h5 => ?_); exact ⟨(w5, false), close w5 h5.kp, rfl, rfl, rfl, fun k h => h, ⟨_, rfl⟩, List.Sublist.refl _, ⟨rfl, rfl, rfl, rfl, rfl, trivial⟩, by simp⟩)
              | (refine sq_meetX fun w5 h5 => ?_; exact ⟨(w5, _), close w5 h5.kp, rfl, rfl, rfl, fun k h => h, ⟨_, rfl⟩, List.Sublist.refl _, ⟨rfl, rfl, rfl, rfl, rfl, trivial⟩, by simp⟩)
    clear close
    rintro ⟨w8, b8⟩ hk8
    simp only at hk8
    have close : ∀ (w5 : World), Kp No w8 w5 → Kp No w1 w5 := fun w5 h => Kp.then hk8 h
    (repeat' (first | refine G0 ?_ | refine sst_box rfl rfl rfl rfl rfl (fun b hb hlt => ?_) | refine sst_alloc tb_ok rfl rfl rfl EV (fun b hb hlt => ?_)))
    refine sst_guard rfl rfl rfl (fun hg => ?_) (fun hg => ?_)
    · (repeat' (first | refine G0 ?_ | refine sst_box rfl rfl rfl rfl rfl (fun b hb hlt => ?_) | refine sst_alloc tb_ok rfl rfl rfl EV (fun b hb hlt => ?_)))
      first
            | (refine sq_forget (t := 84) true rfl (sq_meetX fun w5 h5 => ?_); exact ⟨(w5, true), close w5 h5.kp, rfl, rfl, rfl, fun k h => h, ⟨_, rfl⟩, List.Sublist.refl _, ⟨rfl, rfl, rfl, rfl, rfl, trivial⟩, by simp⟩)
            | (refine sq_forget (t := 84) false rfl (sq_meetX fun w5 h5 => ?_); exact ⟨(w5, false), close w5 h5.kp, rfl, rfl, rfl, fun k h => h, ⟨_, rfl⟩, List.Sublist.refl _, ⟨rfl, rfl, rfl, rfl, rfl, trivial⟩, by simp⟩)
            | (refine sq_meetX fun w5 h5 => ?_; exact ⟨(w5, _), close w5 h5.kp, rfl, rfl, rfl, fun k h => h, ⟨_, rfl⟩, List.Sublist.refl _, ⟨rfl, rfl, rfl, rfl, rfl, trivial⟩, by simp⟩)
    (repeat' (first | refine G0 ?_ | refine sst_box rfl rfl rfl rfl rfl (fun b hb hlt => ?_) | refine sst_alloc tb_ok rfl rfl rfl EV (fun b hb hlt => ?_)))
    refine sst_guard rfl rfl rfl (fun h => ?_) (fun h => ?_)
    · obtain ⟨c1, hc1⟩ := hix 244 h (by omega)
      (repeat' (first | refine G0 ?_ | refine sst_box rfl rfl rfl rfl rfl (fun b hb hlt => ?_) | refine sst_alloc tb_ok rfl rfl rfl EV (fun b hb hlt => ?_)))
      refine sst_quiet rfl rfl (q_strIndex tb_ok rfl str_9 rfl rfl (i + 1) hii hc1) ?_
      (repeat' (first | refine G0 ?_ | refine sst_box rfl rfl rfl rfl rfl (fun b hb hlt => ?_) | refine sst_alloc tb_ok rfl rfl rfl EV (fun b hb hlt => ?_)))
      first
            | (refine sq_forget (t := 84) true rfl (sq_meetX fun w5 h5 => ?_); exact ⟨(w5, true), close w5 h5.kp, rfl, rfl, rfl, fun k h => h, ⟨_, rfl⟩, List.Sublist.refl _, ⟨rfl, rfl, rfl, rfl, rfl, trivial⟩, by simp⟩)
            | (refine sq_forget (t := 84) false rfl (sq_meetX fun w5 h5 => ?_); exact ⟨(w5, false), close w5 h5.kp, rfl, rfl, rfl, fun k h => h, ⟨_, rfl⟩, List.Sublist.refl _, ⟨rfl, rfl, rfl, rfl, rfl, trivial⟩, by simp⟩)
            | (refine sq_meetX fun w5 h5 => ?_; exact ⟨(w5, _), close w5 h5.kp, rfl, rfl, rfl, fun k h => h, ⟨_, rfl⟩, List.Sublist.refl _, ⟨rfl, rfl, rfl, rfl, rfl, trivial⟩, by simp⟩)
    · (repeat' (first | refine G0 ?_ | refine sst_box rfl rfl rfl rfl rfl (fun b hb hlt => ?_) | refine sst_alloc tb_ok rfl rfl rfl EV (fun b hb hlt => ?_)))
      first
            | (refine sq_forget (t := 84) true rfl (sq_meetX fun w5 h5 => ?_); exact ⟨(w5, true), close w5 h5.kp, rfl, rfl, rfl, fun k h => h, ⟨_, rfl⟩, List.Sublist.refl _, ⟨rfl, rfl, rfl, rfl, rfl, trivial⟩, by simp⟩)
            | (refine sq_forget (t := 84) false rfl (sq_meetX fun w5 h5 => ?_); exact ⟨(w5, false), close w5 h5.kp, rfl, rfl, rfl, fun k h => h, ⟨_, rfl⟩, List.Sublist.refl _, ⟨rfl, rfl, rfl, rfl, rfl, trivial⟩, by simp⟩)
            | (refine sq_meetX fun w5 h5 => ?_; exact ⟨(w5, _), close w5 h5.kp, rfl, rfl, rfl, fun k h => h, ⟨_, rfl⟩, List.Sublist.refl _, ⟨rfl, rfl, rfl, rfl, rfl, trivial⟩, by simp⟩)
  rintro ⟨w5, b5⟩ hk5
  simp only at hk5
  (repeat' (first | refine G0 ?_ | refine sst_box rfl rfl rfl rfl rfl (fun b hb hlt => ?_) | refine sst_alloc tb_ok rfl rfl rfl EV (fun b hb hlt => ?_)))
  refine swp_if rfl (fun h6 => ?_) (fun h6 => ?_)
  · (repeat' (first | refine G0 ?_ | refine sst_box rfl rfl rfl rfl rfl (fun b hb hlt => ?_) | refine sst_alloc tb_ok rfl rfl rfl EV (fun b hb hlt => ?_)))
    refine sq_ret tb_ok rfl EV (fun w' hk hr => ?_)
    exact fin _ _ (Kp.then hk5 hk)
  (repeat' (first | refine G0 ?_ | refine sst_box rfl rfl rfl rfl rfl (fun b hb hlt => ?_) | refine sst_alloc tb_ok rfl rfl rfl EV (fun b hb hlt => ?_)))
  refine sq_next fun w6 h6 => ?_
  refine ⟨(w6, i + m + 1), ⟨hk1.then (Kp.then hk5 h6.kp), by simp; omega⟩, by simp; omega, ?_⟩
  (refine WKmk ?_; try trivial)
  rw [wr_small (x := (i : Int) + m) (by omega), wr_small (by omega)]
  simp
end Go.Fw

set_option linter.unusedVariables false
set_option linter.unusedSimpArgs false
set_option maxRecDepth 10000
set_option maxHeartbeats 2000000
namespace Go.Fw
open Go
attribute [local irreducible] SWp SQ SSeq SSt Quiet Next Meet
attribute [local irreducible] MeetX

def FormC (x : Val) : Prop := ∀ (S : Nat → Prop) (w : World) (cs : List Value), RepV S w x cs → Calls Go.Proofs.Tryz.prog 121 #[.agg cs.toArray, .bool true] w fun e w2 => ∃ v, e = .returned v ∧ Kp No w w2 ∧ ∃ b : Bool, v = .bool b

theorem fields_step (x : Val) (H2 : ∀ z ∈ x.d, FormC z.2) (S : Nat → Prop) (w : World) (cs : List Value) (hx : RepV S w x cs) : Calls Go.Proofs.Tryz.prog 163 #[.agg cs.toArray, .bool true] w fun e w2 => ∃ v, e = .returned v ∧ Kp No w w2 ∧ ∃ b : Bool, v = .bool b := by
  obtain ⟨A1, c1, A2, c2, rfl, hxk, hxn, hxt, hl, hd⟩ := hx.parts
  have hdb := hd.2.1
  rw [LIM_eq] at hdb
  refine calls_intro (args := [_, _]) w.heap.size Go.Proofs.Tryz.func163 rfl Go.Proofs.Tryz.ntmps163 (by simp) (Nat.le_refl _) ?_
  (repeat' (first | refine G0 ?_ | refine sst_box rfl rfl rfl rfl rfl (fun b hb hlt => ?_) | refine sst_alloc tb_ok rfl rfl rfl EV (fun b hb hlt => ?_)))
  clear hb hlt
  refine swp_loop (X := World × Nat) (fun y => Kp No w y.1 ∧ y.2 ≤ x.d.length)
    (fun y => ⟨58, [(5, .val (.int .i64 (y.2 : Int))), (2, .loc 0 0), (1, .val (.bool true))], [⟨b, 26, [.int .i64 x.k, .int .i64 x.n, .string x.t, .slice A1 x.l.length c1, .slice A2 x.d.length c2], false⟩], [], w.heap.size, y.1, No⟩) (fun y => x.d.length - y.2) ?_ ?_
  · intro w1 h1
    refine ⟨(w1, 0), ⟨h1.kp, Nat.zero_le _⟩, ?_⟩
    (refine WKmk ?_; try trivial)
  rintro ⟨w1, i⟩ ⟨hk1, hi⟩
  simp only at hk1 hi
  have fin : ∀ (b : Bool) w', Kp No w1 w' → ∃ v, Ending.returned (oneOr [Value.bool b]) = .returned v ∧ Kp No w w' ∧ ∃ b : Bool, v = .bool b := fun b w' hk => ⟨_, rfl, hk1.then hk, _, rfl⟩
  (repeat' (first | refine G0 ?_ | refine sst_box rfl rfl rfl rfl rfl (fun b hb hlt => ?_) | refine sst_alloc tb_ok rfl rfl rfl EV (fun b hb hlt => ?_)))
  refine swp_if rfl (fun h7 => ?_) (fun h7 => ?_)
  rotate_left
  · (repeat' (first | refine G0 ?_ | refine sst_box rfl rfl rfl rfl rfl (fun b hb hlt => ?_) | refine sst_alloc tb_ok rfl rfl rfl EV (fun b hb hlt => ?_)))
    refine sq_ret tb_ok rfl EV (fun w' hk hr => ?_)
    exact fin _ _ hk
  have hi : i < x.d.length := by simp at h7; omega
  obtain ⟨f, hf⟩ := get_of_lt hi
  have hdc := hd
  obtain ⟨yb, yoff, ycs, rfl, hyS, hyin, hyl, hyrow, hyr, hys⟩ := hd.get hf
  obtain ⟨B1, m1, B2, m2, rfl, -⟩ := hyr.parts
  (repeat' (first | refine G0 ?_ | refine sst_box rfl rfl rfl rfl rfl (fun b hb hlt => ?_) | refine sst_alloc tb_ok rfl rfl rfl EV (fun b hb hlt => ?_)))
  refine sst_quiet rfl rfl (q_index tb_ok rfl el_24 rfl rfl i rfl hyin) ?_
  (repeat' (first | refine G0 ?_ | refine sst_box rfl rfl rfl rfl rfl (fun b hb hlt => ?_) | refine sst_alloc tb_ok rfl rfl rfl EV (fun b hb hlt => ?_)))
  refine sst_quiet rfl rfl (q_far_agg tb_ok rfl sz_114 rfl id (by rfl) (hyrow.kp hk1 id)) ?_
  (repeat' (first | refine G0 ?_ | refine sst_box rfl rfl rfl rfl rfl (fun b hb hlt => ?_) | refine sst_alloc tb_ok rfl rfl rfl EV (fun b hb hlt => ?_)))
  refine sst_call tb_ok rfl rfl rfl rfl rfl EV AP (fun v _ _ => v = .bool (nameB f.1.data.toList)) ?_ ?_
  · exact fun w2 h2 => c76 f.1 hys w2
  rintro v w2 w3 h2 hk3 rfl
  have hk13 : Kp No w1 w3 := Kp.then h2.kp hk3
  (repeat' (first | refine G0 ?_ | refine sst_box rfl rfl rfl rfl rfl (fun b hb hlt => ?_) | refine sst_alloc tb_ok rfl rfl rfl EV (fun b hb hlt => ?_)))
  refine sst_guard rfl rfl rfl (fun h3 => ?_) (fun h3 => ?_)
  · (repeat' (first | refine G0 ?_ | refine sst_box rfl rfl rfl rfl rfl (fun b hb hlt => ?_) | refine sst_alloc tb_ok rfl rfl rfl EV (fun b hb hlt => ?_)))
    refine sq_ret tb_ok rfl EV (fun w' hk hr => ?_)
    exact fin _ _ (hk13.then hk)
  (repeat' (first | refine G0 ?_ | refine sst_box rfl rfl rfl rfl rfl (fun b hb hlt => ?_) | refine sst_alloc tb_ok rfl rfl rfl EV (fun b hb hlt => ?_)))
  refine sst_call tb_ok rfl rfl rfl rfl rfl EV AP (fun v _ _ => ∃ b : Bool, v = .bool b) ?_ ?_
  · exact fun w4 h4 => H2 f (List.mem_of_getElem? hf) _ w4 _ (hyr.kp ((hk1.then hk13).then h4.kp))
  rintro v w4 w5 h4 hk5 ⟨b2, rfl⟩
  have hk15 : Kp No w1 w5 := (hk13.then h4.kp).then hk5
  (repeat' (first | refine G0 ?_ | refine sst_box rfl rfl rfl rfl rfl (fun b hb hlt => ?_) | refine sst_alloc tb_ok rfl rfl rfl EV (fun b hb hlt => ?_)))
  refine swp_if rfl (fun h5 => ?_) (fun h5 => ?_)
  · (repeat' (first | refine G0 ?_ | refine sst_box rfl rfl rfl rfl rfl (fun b hb hlt => ?_) | refine sst_alloc tb_ok rfl rfl rfl EV (fun b hb hlt => ?_)))
    refine sq_ret tb_ok rfl EV (fun w' hk hr => ?_)
    exact fin _ _ (hk15.then hk)
  (repeat' (first | refine G0 ?_ | refine sst_box rfl rfl rfl rfl rfl (fun b hb hlt => ?_) | refine sst_alloc tb_ok rfl rfl rfl EV (fun b hb hlt => ?_)))
  rename_i b0 hi0
  clear hb hlt
  refine swp_loop (X := World × Nat) (fun y => Kp No w5 y.1 ∧ y.2 ≤ i)
    (fun y => ⟨58, [(7, .val (.int .i64 (y.2 : Int))), (5, .val (.int .i64 (i : Int))), (6, .loc 1 0), (2, .loc 0 0), (1, .val (.bool true))], [⟨b0, 26, [.int .i64 x.k, .int .i64 x.n, .string x.t, .slice A1 x.l.length c1, .slice (some ⟨yb, yoff, none⟩) x.d.length c2], false⟩, ⟨b, 114, [.string f.1, .int .i64 f.2.k, .int .i64 f.2.n, .string f.2.t, .slice B1 f.2.l.length m1, .slice B2 f.2.d.length m2], false⟩], [], w.heap.size, y.1, No⟩) (fun y => i - y.2) ?_ ?_
  · intro w6 h6
    refine ⟨(w6, 0), ⟨h6.kp, Nat.zero_le _⟩, ?_⟩
    (refine WKmk ?_; try trivial)
  rintro ⟨w6, j⟩ ⟨hk6, hj⟩
  simp only at hk6 hj
  have hk16 : Kp No w1 w6 := hk15.then hk6
  (repeat' (first | refine G0 ?_ | refine sst_box rfl rfl rfl rfl rfl (fun b hb hlt => ?_) | refine sst_alloc tb_ok rfl rfl rfl EV (fun b hb hlt => ?_)))
  refine swp_if rfl (fun h8 => ?_) (fun h8 => ?_)
  · have hj : j < i := by simp at h8; omega
    obtain ⟨g, hg⟩ := get_of_lt (l := x.d) (i := j) (by omega)
    obtain ⟨gb, goff, gcs, hgA, hgS, hgin, hgl, hgrow, hgr, hgs⟩ := hd.get hg
    obtain ⟨rfl, rfl⟩ : yb = gb ∧ yoff = goff := by simpa using hgA
    (repeat' (first | refine G0 ?_ | refine sst_box rfl rfl rfl rfl rfl (fun b hb hlt => ?_) | refine sst_alloc tb_ok rfl rfl rfl EV (fun b hb hlt => ?_)))
    refine swp_draw mixed [0, 1, 2, 3, 4, 5, 6, 7, 8] [] (by kernel_rfl) (by kernel_rfl) rfl ?_
    (repeat' (first | refine G0 ?_ | refine sst_box rfl rfl rfl rfl rfl (fun b hb hlt => ?_) | refine sst_alloc tb_ok rfl rfl rfl EV (fun b hb hlt => ?_)))
    refine sst_quiet rfl rfl (q_index tb_ok rfl el_24 rfl rfl j rfl hgin) ?_
    (repeat' (first | refine G0 ?_ | refine sst_box rfl rfl rfl rfl rfl (fun b hb hlt => ?_) | refine sst_alloc tb_ok rfl rfl rfl EV (fun b hb hlt => ?_)))
    refine sst_quiet rfl rfl (q_far_one tb_ok rfl sz_9 rfl id ((hk1.then hk16).cell hgrow.head id)) ?_
    (repeat' (first | refine G0 ?_ | refine sst_box rfl rfl rfl rfl rfl (fun b hb hlt => ?_) | refine sst_alloc tb_ok rfl rfl rfl EV (fun b hb hlt => ?_)))
    refine swp_if rfl (fun h9 => ?_) (fun h9 => ?_)
    · (repeat' (first | refine G0 ?_ | refine sst_box rfl rfl rfl rfl rfl (fun b hb hlt => ?_) | refine sst_alloc tb_ok rfl rfl rfl EV (fun b hb hlt => ?_)))
      refine sq_ret tb_ok rfl EV (fun w' hk hr => ?_)
      exact fin _ _ (hk16.then hk)
    (repeat' (first | refine G0 ?_ | refine sst_box rfl rfl rfl rfl rfl (fun b hb hlt => ?_) | refine sst_alloc tb_ok rfl rfl rfl EV (fun b hb hlt => ?_)))
    refine sq_next fun w7 h7 => ?_
    refine ⟨(w7, j + 1), ⟨hk6.then h7.kp, by simp; omega⟩, by simp; omega, ?_⟩
    (refine WKmk ?_; try trivial)
    rw [wr_small (x := (j : Int) + 1) (by omega)]
    simp
  · (repeat' (first | refine G0 ?_ | refine sst_box rfl rfl rfl rfl rfl (fun b hb hlt => ?_) | refine sst_alloc tb_ok rfl rfl rfl EV (fun b hb hlt => ?_)))
    refine sq_next fun w7 h7 => ?_
    refine ⟨(w7, i + 1), ⟨hk1.then (hk16.then h7.kp), by simp; omega⟩, by simp; omega, ?_⟩
    (refine WKmk ?_; try trivial)
    rw [wr_small (x := (i : Int) + 1) (by omega)]
    simp
end Go.Fw
