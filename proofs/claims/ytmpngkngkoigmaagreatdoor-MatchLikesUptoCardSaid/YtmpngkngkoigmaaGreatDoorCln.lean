/- Helping lemmas for the cards of this seat's laws, of the texts: W7, W8. They state no law of their own. -/
import Derived.Test.YtmpngkngkoigmaaGreatDoorNam
set_option linter.unusedVariables false
set_option linter.unusedSimpArgs false
set_option maxRecDepth 10000
set_option maxHeartbeats 2000000
namespace Go.Fw
open Go
attribute [local irreducible] SWp SQ SSeq SSt Quiet Next Meet
attribute [local irreducible] MeetX

theorem RepV.tr {S : Nat → Prop} {w : World} {v : Val} {cs : List Value} (h : RepV S w v cs) : RepV (fun _ => True) w v cs := h.to (Kp.refl No w) fun b _ _ => ⟨id, trivial⟩
theorem RepS.tr {S : Nat → Prop} {w : World} {A : Option Addr} {n c : Nat} {l : List Val} (h : RepS S w A n c l) : RepS (fun _ => True) w A n c l := h.to (Kp.refl No w) fun b _ _ => ⟨id, trivial⟩

theorem OwnL.rep {base : Nat} {w : World} {v : Value} {l : List Val} {xs : List Value} (h : OwnL base w v l xs) (hb : l.length * 80 ≤ LIM) : ∃ A c, v = .slice A l.length c ∧ RepS (fun _ => True) w A l.length c l :=
  RepS.ofRow h.1 rfl hb (fun _ _ => trivial) (fun i x hx => (h.2 i x hx).tr)

theorem c182n (x : Val) (p : List ByteArray) (S S' : Nat → Prop) (w : World) (cs : List Value) (A : Option Addr) (n c : Nat) (hx : RepV S w x cs) (hp : RepB S' w A n c p) (hlim : (passF x p).length * 80 ≤ LIM) :
    Calls Go.Proofs.Tryz.prog 182 #[.slice none 0 0, .agg cs.toArray, .slice A n c] w fun e w2 => ∃ v, e = .returned v ∧ Kp No w w2 ∧ ∃ A' c', v = .slice A' (passF x p).length c' ∧ RepS (fun _ => True) w2 A' (passF x p).length c' (passF x p) := by
  refine (pass_all x p w.heap.size w (.slice none 0 0) [] [] cs A n c (Nat.le_refl _) (OwnL.nil _ _) (hx.to (Kp.refl No w) fun b _ _ => ⟨id, by simp [Value.ownBlock]⟩) (hp.to (Kp.refl No w) fun b _ _ => ⟨id, by simp [Value.ownBlock]⟩) (by simpa using hlim)).mono ?_
  rintro e w2 ⟨v1, xs1, rfl, hk, ho, hb⟩
  rw [List.nil_append] at ho
  exact ⟨_, rfl, hk.mono (fun k _ h => by simp [Value.ownBlock] at h), ho.rep hlim⟩

theorem nullV_rep (S : Nat → Prop) (w : World) : RepV S w nullV [.int .i64 0, .int .i64 0, .string ⟨#[]⟩, .slice none 0 0, .slice none 0 0] :=
  RepV.of (by simp [inI]) (by simp [inI]) (by rw [LIM_eq]; simp [ByteArray.size]) (RepS.nil _ _ _ _) (RepD.nil _ _ _ _)

theorem reachF_le (x : Val) (p : List ByteArray) : (passF x p).length ≤ (reachF x p).length := by
  unfold reachF; split
  · rename_i h; rw [h]; simp
  · exact Nat.le_refl _

theorem c135 (x : Val) (p : List ByteArray) (S S' : Nat → Prop) (w : World) (cs : List Value) (A : Option Addr) (n c : Nat) (hx : RepV S w x cs) (hp : RepB S' w A n c p) (hlim : (reachF x p).length * 80 ≤ LIM) :
    Calls Go.Proofs.Tryz.prog 135 #[.agg cs.toArray, .slice A n c] w fun e w2 => ∃ v, e = .returned v ∧ Kp No w w2 ∧ ∃ A' c', v = .slice A' (reachF x p).length c' ∧ RepS (fun _ => True) w2 A' (reachF x p).length c' (reachF x p) := by
  have hle := reachF_le x p
  have hlim2 : (passF x p).length * 80 ≤ LIM := by omega
  have hb := hlim2
  rw [LIM_eq] at hb
  obtain ⟨A1, c1, A2, c2, rfl, -⟩ := hx.parts
  refine calls_intro (args := [_, _]) w.heap.size Go.Proofs.Tryz.func135 rfl Go.Proofs.Tryz.ntmps135 (by simp) (Nat.le_refl _) ?_
  (repeat' (first | refine G0 ?_ | refine sst_box rfl rfl rfl rfl rfl (fun b hb hlt => ?_) | refine sst_alloc tb_ok rfl rfl rfl EV (fun b hb hlt => ?_)))
  refine sst_call tb_ok rfl rfl rfl rfl rfl EV AP (fun v wa wb => ∃ A' c', v = .slice A' (passF x p).length c' ∧ RepS (fun _ => True) wb A' (passF x p).length c' (passF x p)) ?_ ?_
  · exact fun w1 h1 => c182n x p S S' w1 _ _ _ _ (hx.kp h1.kp) (hp.kp h1.kp) hlim2
  rintro v w2 w3 h2 hk3 ⟨A', c', rfl, hr'⟩
  have hk23 : Kp No w w3 := h2.kp.then hk3
  (repeat' (first | refine G0 ?_ | refine sst_box rfl rfl rfl rfl rfl (fun b hb hlt => ?_) | refine sst_alloc tb_ok rfl rfl rfl EV (fun b hb hlt => ?_)))
  refine swp_if rfl (fun h1 => ?_) (fun h1 => ?_)
  · have h0 : passF x p = [] := by simpa using h1
    have hr1 : reachF x p = [nullV] := by unfold reachF; rw [if_pos h0]
    (repeat' (first | refine G0 ?_ | refine sst_box rfl rfl rfl rfl rfl (fun b hb hlt => ?_) | refine sst_alloc tb_ok rfl rfl rfl EV (fun b hb hlt => ?_)))
    refine sst_buildSlice tb_ok rfl rfl rfl EV EV (by rfl) EV (by rfl) (by omega) (by simp) (fun g hg hgl => ?_)
    (repeat' (first | refine G0 ?_ | refine sst_box rfl rfl rfl rfl rfl (fun b hb hlt => ?_) | refine sst_alloc tb_ok rfl rfl rfl EV (fun b hb hlt => ?_)))
    refine sq_ret tb_ok rfl EV (fun w' hk hr => ?_)
    rw [hr1]
    obtain ⟨A4, c4, h4, h5⟩ := RepS.ofRow (S := fun _ => True) (l := [nullV]) (hr _ (by simp; rfl)) rfl (by rw [LIM_eq]; simp) (fun _ _ => trivial) (fun i y hy => by
      cases i with
      | zero => simp at hy; subst hy; exact nullV_rep _ _
      | succ i => simp at hy)
    exact ⟨_, rfl, hk23.then hk, _, _, h4, h5⟩
  have h0 : passF x p ≠ [] := by
    intro h; rw [h] at h1; simp at h1
  have hr1 : reachF x p = passF x p := by unfold reachF; rw [if_neg h0]
  (repeat' (first | refine G0 ?_ | refine sst_box rfl rfl rfl rfl rfl (fun b hb hlt => ?_) | refine sst_alloc tb_ok rfl rfl rfl EV (fun b hb hlt => ?_)))
  refine sq_ret tb_ok rfl EV (fun w' hk hr => ?_)
  rw [hr1]
  exact ⟨_, rfl, hk23.then hk, _, _, rfl, hr'.kp hk⟩

def kids6 (y : Val) : List Val := if y.k = 6 then y.l else []
def leavesF (x : Val) (p : List ByteArray) : List Val := (reachF x p).flatMap fun y => y :: kids6 y
theorem flatLe {α β : Type} (f : α → List β) : ∀ (l : List α) (i : Nat), ((l.take i).flatMap f).length ≤ (l.flatMap f).length := by
  intro l i
  conv => rhs; rw [← List.take_append_drop i l, List.flatMap_append, List.length_append]
  omega
theorem leavesF_le (x : Val) (p : List ByteArray) : (reachF x p).length ≤ (leavesF x p).length := by
  unfold leavesF
  induction reachF x p with
  | nil => simp
  | cons y l ih => simp only [List.flatMap_cons, List.length_append, List.length_cons]; omega

theorem byt1 {a b : Nat} (h : (a + b + 1) * 80 ≤ 140737488351232) : (a + 1) * 80 ≤ 140737488355328 :=
  Nat.le_trans (Nat.mul_le_mul_right 80 (by omega : a + 1 ≤ a + b + 1)) (Nat.le_trans h (by decide))
theorem byt2 {a b c : Nat} (h : (a + b + 1) * 80 ≤ 140737488351232) (hc : c < b) : (a + 1 + c + 1) * 80 ≤ 140737488355328 :=
  Nat.le_trans (Nat.mul_le_mul_right 80 (by omega : a + 1 + c + 1 ≤ a + b + 1)) (Nat.le_trans h (by decide))
theorem byt3 {a b c : Nat} (h : c * 80 ≤ 140737488351232) (hc : a + b + 1 ≤ c) : (a + b + 1) * 80 ≤ 140737488351232 :=
  Nat.le_trans (Nat.mul_le_mul_right 80 hc) h

theorem OwnL.push {base : Nat} {w3 w1 w4 : World} {v v' : Value} {pre : List Val} {ys ycs : List Value} {y : Val} {S : Nat → Prop} (ho : OwnL base w1 v pre ys) (hv : ∀ g, v.ownBlock = some g → w3.heap.size ≤ g) (hk13 : Kp No w3 w1)
    (hk : Kp (fun b => v.ownBlock = some b) w1 w4) (hown : w4.ownsRow base 26 5 v' (pre.length + 1) (ys ++ ycs)) (hb : v'.ownBlock = v.ownBlock ∨ ∃ g, v'.ownBlock = some g ∧ w1.heap.size ≤ g)
    (hy : RepV S w1 y ycs) (hS : ∀ b, S b → b < w1.heap.size → v.ownBlock ≠ some b) : OwnL base w4 v' (pre ++ [y]) (ys ++ ycs) ∧ (∀ g, v'.ownBlock = some g → w3.heap.size ≤ g) ∧ Kp No w3 w4 := by
  refine ⟨ho.app hk hown hb (hy.to hk fun b hb1 hlt => ⟨hS b hb1 hlt, ?_⟩), fun g hg => ?_, hk13.thenNew hk hv⟩
  · rcases hb with hb | ⟨g, hb, hg⟩
    · rw [hb]; exact hS b hb1 hlt
    · rw [hb]; intro e; have := Option.some.inj e; omega
  · rcases hb with hb | ⟨g', hb, hg'⟩
    · rw [hb] at hg; exact hv g hg
    · rw [hb] at hg; have := Option.some.inj hg; have := hk13.size; omega

theorem c172 (x : Val) (p : List ByteArray) (S S' : Nat → Prop) (w : World) (cs : List Value) (A : Option Addr) (n c : Nat) (hx : RepV S w x cs) (hp : RepB S' w A n c p) (hlim : (leavesF x p).length * 80 ≤ LIM) :
    Calls Go.Proofs.Tryz.prog 172 #[.agg cs.toArray, .slice A n c] w fun e w2 => ∃ v, e = .returned v ∧ Kp No w w2 ∧ ∃ A' c', v = .slice A' (leavesF x p).length c' ∧ RepS (fun _ => True) w2 A' (leavesF x p).length c' (leavesF x p) := by
  have hle := leavesF_le x p
  have hlim2 : (reachF x p).length * 80 ≤ LIM := by omega
  have hb := hlim
  rw [LIM_eq] at hb
  obtain ⟨A1, c1, A2, c2, rfl, -⟩ := hx.parts
  refine calls_intro (args := [_, _]) w.heap.size Go.Proofs.Tryz.func172 rfl Go.Proofs.Tryz.ntmps172 (by simp) (Nat.le_refl _) ?_
  refine swp_nilRow 26 5 ?_
  (repeat' (first | refine G0 ?_ | refine sst_box rfl rfl rfl rfl rfl (fun b hb hlt => ?_) | refine sst_alloc tb_ok rfl rfl rfl EV (fun b hb hlt => ?_)))
  refine sst_call tb_ok rfl rfl rfl rfl rfl EV AP (fun v wa wb => ∃ A' c', v = .slice A' (reachF x p).length c' ∧ RepS (fun _ => True) wb A' (reachF x p).length c' (reachF x p)) ?_ ?_
  · exact fun w1 h1 => c135 x p S S' w1 _ _ _ _ (hx.kp h1.kp) (hp.kp h1.kp) hlim2
  rintro v w2 w3 h2 hk3 ⟨A', c', rfl, hr'⟩
  have hk23 : Kp No w w3 := h2.kp.then hk3
  have hrn := hr'.2.1
  rw [LIM_eq] at hrn
  (repeat' (first | refine G0 ?_ | refine sst_box rfl rfl rfl rfl rfl (fun b hb hlt => ?_) | refine sst_alloc tb_ok rfl rfl rfl EV (fun b hb hlt => ?_)))
  refine swp_loop (X := World × Nat × Value × List Value) (fun y => Kp No w3 y.1 ∧ y.2.1 ≤ (reachF x p).length ∧ OwnL w.heap.size y.1 y.2.2.1 (((reachF x p).take y.2.1).flatMap fun y => y :: kids6 y) y.2.2.2 ∧
      ∀ g, y.2.2.1.ownBlock = some g → w3.heap.size ≤ g)
    (fun y => ⟨40, [(14, .val (.int .i64 (y.2.1 : Int))), (13, .val (.int .i64 ((reachF x p).length : Int))), (12, .val (.slice A' (reachF x p).length c')), (5, .val y.2.2.1)],
      [], [⟨y.2.2.1, 26, 5, (((reachF x p).take y.2.1).flatMap fun y => y :: kids6 y).length, y.2.2.2, false⟩], w.heap.size, y.1, No⟩) (fun y => (reachF x p).length - y.2.1) ?_ ?_
  · intro w1 h1
    refine ⟨(w1, 0, .slice none 0 0, []), ⟨h1.kp, Nat.zero_le _, by simpa using OwnL.nil _ _, by simp [Value.ownBlock]⟩, ?_⟩
    simp only [List.take_zero, List.flatMap_nil]
    (refine WKmk ?_; try trivial)
  rintro ⟨w1, i, v, ys⟩ ⟨hk1, hi, hov, hvb⟩
  simp only at hk1 hi hov hvb
  (repeat' (first | refine G0 ?_ | refine sst_box rfl rfl rfl rfl rfl (fun b hb hlt => ?_) | refine sst_alloc tb_ok rfl rfl rfl EV (fun b hb hlt => ?_)))
  refine swp_if rfl (fun h7 => ?_) (fun h7 => ?_)
  · have hi : i < (reachF x p).length := by simp at h7; omega
    obtain ⟨y, hy⟩ := get_of_lt hi
    obtain ⟨yb, yoff, ycs, rfl, hyS, hyin, hyl, hyrow, hyr⟩ := hr'.get hy
    obtain ⟨B1, m1, B2, m2, rfl, hyk, hyn, hyt, hyL, hyD⟩ := hyr.parts
    have hstep : (((reachF x p).take (i + 1)).flatMap fun y => y :: kids6 y) = (((reachF x p).take i).flatMap fun y => y :: kids6 y) ++ (y :: kids6 y) := by
      rw [take_snoc hy, List.flatMap_append]; simp
    have hfl1 := flatLe (fun y => y :: kids6 y) (reachF x p) (i + 1)
    rw [hstep, List.length_append, List.length_cons] at hfl1
    have hfl2 : (((reachF x p).take i).flatMap fun y => y :: kids6 y).length + (kids6 y).length + 1 ≤ (leavesF x p).length := by unfold leavesF; omega
    have hhb : ((((reachF x p).take i).flatMap fun y => y :: kids6 y).length + (kids6 y).length + 1) * 80 ≤ 140737488351232 := by rw [LIM_eq] at hlim; exact byt3 hlim hfl2
    clear hfl1
    generalize (((reachF x p).take i).flatMap fun y => y :: kids6 y) = pre at hov hstep hfl2 hhb ⊢
    (repeat' (first | refine G0 ?_ | refine sst_box rfl rfl rfl rfl rfl (fun b hb hlt => ?_) | refine sst_alloc tb_ok rfl rfl rfl EV (fun b hb hlt => ?_)))
    refine sst_quiet rfl rfl (q_index tb_ok rfl el_23 rfl rfl i rfl hyin) ?_
    (repeat' (first | refine G0 ?_ | refine sst_box rfl rfl rfl rfl rfl (fun b hb hlt => ?_) | refine sst_alloc tb_ok rfl rfl rfl EV (fun b hb hlt => ?_)))
    refine sst_quiet rfl rfl (q_far_agg tb_ok rfl sz_26 rfl id hyl (hyrow.kp hk1 id)) ?_
    (repeat' (first | refine G0 ?_ | refine sst_box rfl rfl rfl rfl rfl (fun b hb hlt => ?_) | refine sst_alloc tb_ok rfl rfl rfl EV (fun b hb hlt => ?_)))
    refine sst_buildSlice tb_ok rfl rfl rfl EV EV (by rfl) EV (by rfl) (by omega) (by simp) (fun g hg hgl => ?_)
    clear hg hgl
    repeat (clear hlt hb)
    have hby : (pre.length + 1) * 80 ≤ 140737488355328 := byt1 hhb
    (repeat' (first | refine G0 ?_ | refine sst_box rfl rfl rfl rfl rfl (fun b hb hlt => ?_) | refine sst_alloc tb_ok rfl rfl rfl EV (fun b hb hlt => ?_)))
    refine sst_append_row tb_ok rfl rfl rfl rfl EV 0 rfl rfl rfl rfl 1 rfl rfl rfl rfl (by rfl) (by rfl) (by exact hby) (fun v' hv' hb' => ?_)
    obtain ⟨a', e', rfl⟩ := hv'
    (repeat' (first | refine G0 ?_ | refine sst_box rfl rfl rfl rfl rfl (fun b hb hlt => ?_) | refine sst_alloc tb_ok rfl rfl rfl EV (fun b hb hlt => ?_)))
    have hbb : (Value.slice a' (pre.length + 1) e').ownBlock = v.ownBlock ∨ ∃ g, (Value.slice a' (pre.length + 1) e').ownBlock = some g ∧ w1.heap.size ≤ g := hb'.imp id (fun ⟨g, h1, h2, _⟩ => ⟨g, h1, h2⟩)
    clear hb'
    have hpush := fun w4 hk ho => OwnL.push (w4 := w4) (y := y) (ycs := [Value.int IntKind.i64 y.k, Value.int IntKind.i64 y.n, Value.string y.t, Value.slice B1 y.l.length m1, Value.slice B2 y.d.length m2]) hov hvb hk1 hk ho hbb (hyr.to hk1 (S' := fun b => b < w3.heap.size) fun b _ hlt => ⟨id, hlt⟩)
      (fun b hb _ e => by have := hvb b e; omega)
    have hD : ∀ {w4}, Kp (dirtyV No v) w1 w4 → Kp (fun b => v.ownBlock = some b) w1 w4 := fun h => h.mono fun k _ h => h.elim id False.elim
    generalize (Value.slice a' (pre.length + 1) e') = v1 at hbb hpush ⊢
    refine swp_if rfl (fun h8 => ?_) (fun h8 => ?_)
    · have hy6 : y.k = 6 := by simpa using h8
      have hk6 : kids6 y = y.l := by unfold kids6; rw [if_pos hy6]
      rw [hk6] at hstep hfl2 hhb
      have hyLn := hyL.2.1
      rw [LIM_eq] at hyLn
      (repeat' (first | refine G0 ?_ | refine sst_box rfl rfl rfl rfl rfl (fun b hb hlt => ?_) | refine sst_alloc tb_ok rfl rfl rfl EV (fun b hb hlt => ?_)))
      refine swp_loop (X := World × Nat × Value × List Value) (fun z => Kp No w3 z.1 ∧ z.2.1 ≤ y.l.length ∧ OwnL w.heap.size z.1 z.2.2.1 (pre ++ [y] ++ y.l.take z.2.1) z.2.2.2 ∧ ∀ g, z.2.2.1.ownBlock = some g → w3.heap.size ≤ g)
        (fun z => ⟨40, [(28, .val (.int .i64 (z.2.1 : Int))), (27, .val (.int .i64 (y.l.length : Int))), (26, .val (.slice B1 y.l.length m1)), (14, .val (.int .i64 (i : Int))), (13, .val (.int .i64 ((reachF x p).length : Int))), (12, .val (.slice (some ⟨yb, yoff, none⟩) (reachF x p).length c')), (5, .val z.2.2.1)],
          [], [⟨z.2.2.1, 26, 5, (pre ++ [y] ++ y.l.take z.2.1).length, z.2.2.2, false⟩], w.heap.size, z.1, No⟩) (fun z => y.l.length - z.2.1) ?_ ?_
      · intro w4 h4
        have h5 := hpush w4 (hD h4.kp) (h4.row _ (List.mem_cons_self))
        refine ⟨(w4, 0, v1, _), ⟨h5.2.2, Nat.zero_le _, by simp only [List.take_zero, List.append_nil]; exact h5.1, h5.2.1⟩, ?_⟩
        simp only [List.take_zero, List.append_nil, List.length_append, List.length_cons, List.length_nil, Nat.zero_add]
        (refine WKmk ?_; try trivial)
      rintro ⟨w5, j, v2, zs⟩ ⟨hk5, hj, hov5, hvb5⟩
      simp only at hk5 hj hov5 hvb5
      (repeat' (first | refine G0 ?_ | refine sst_box rfl rfl rfl rfl rfl (fun b hb hlt => ?_) | refine sst_alloc tb_ok rfl rfl rfl EV (fun b hb hlt => ?_)))
      refine swp_if rfl (fun h9 => ?_) (fun h9 => ?_)
      · have hj : j < y.l.length := by simp at h9; omega
        obtain ⟨u, hu⟩ := get_of_lt hj
        obtain ⟨ub, uoff, ucs, rfl, huS, huin, hul, hurow, hur⟩ := hyL.get hu
        obtain ⟨B3, m3, B4, m4, rfl, -⟩ := hur.parts
        have hstep2 : pre ++ [y] ++ y.l.take (j + 1) = pre ++ [y] ++ y.l.take j ++ [u] := by rw [take_snoc hu]; simp
        have hlen2 : (pre ++ [y] ++ y.l.take j).length = pre.length + 1 + j := by simp; omega
        have hby2 : ((pre ++ [y] ++ y.l.take j).length + 1) * 80 ≤ 140737488355328 := by rw [hlen2]; exact byt2 hhb hj
        (repeat' (first | refine G0 ?_ | refine sst_box rfl rfl rfl rfl rfl (fun b hb hlt => ?_) | refine sst_alloc tb_ok rfl rfl rfl EV (fun b hb hlt => ?_)))
        refine sst_quiet rfl rfl (q_index tb_ok rfl el_23 rfl rfl j rfl huin) ?_
        (repeat' (first | refine G0 ?_ | refine sst_box rfl rfl rfl rfl rfl (fun b hb hlt => ?_) | refine sst_alloc tb_ok rfl rfl rfl EV (fun b hb hlt => ?_)))
        refine sst_quiet rfl rfl (q_far_agg tb_ok rfl sz_26 rfl id hul (hurow.kp hk5 id)) ?_
        (repeat' (first | refine G0 ?_ | refine sst_box rfl rfl rfl rfl rfl (fun b hb hlt => ?_) | refine sst_alloc tb_ok rfl rfl rfl EV (fun b hb hlt => ?_)))
        refine sst_call tb_ok rfl rfl rfl rfl rfl EV AP (fun v wa wb => ∃ cs' : List Value, v = .agg cs'.toArray ∧ RepV (fun b => wa.heap.size ≤ b) wb u cs') ?_ ?_
        · exact fun w2 h2 => clone_all u _ w2 _ (hur.kp (hk5.then h2.kp))
        rintro cv w6 w7 h6 hk7 ⟨cs', rfl, hru'⟩
        obtain ⟨B5, m5, B6, m6, rfl, -⟩ := hru'.parts
        have hk57 : Kp No w5 w7 := Kp.then h6.kp hk7
        have hsz6 : w5.heap.size ≤ w6.heap.size := h6.kp.size
        (repeat' (first | refine G0 ?_ | refine sst_box rfl rfl rfl rfl rfl (fun b hb hlt => ?_) | refine sst_alloc tb_ok rfl rfl rfl EV (fun b hb hlt => ?_)))
        refine sst_buildSlice tb_ok rfl rfl rfl EV EV (by rfl) EV (by rfl) (by omega) (by simp) (fun g hg hgl => ?_)
        clear hg hgl
        repeat (clear hlt hb)
        (repeat' (first | refine G0 ?_ | refine sst_box rfl rfl rfl rfl rfl (fun b hb hlt => ?_) | refine sst_alloc tb_ok rfl rfl rfl EV (fun b hb hlt => ?_)))
        refine sst_append_row tb_ok rfl rfl rfl rfl EV 0 rfl rfl rfl rfl 1 rfl rfl rfl rfl (by rfl) (by rfl) (by exact hby2) (fun v' hv' hb' => ?_)
        obtain ⟨a2, e2, rfl⟩ := hv'
        (repeat' (first | refine G0 ?_ | refine sst_box rfl rfl rfl rfl rfl (fun b hb hlt => ?_) | refine sst_alloc tb_ok rfl rfl rfl EV (fun b hb hlt => ?_)))
        refine sq_next fun w4 h4 => ?_
        have hD2 : Kp (fun b => v2.ownBlock = some b) w7 w4 := h4.kp.mono fun k _ h => h.elim id False.elim
        have h5 := OwnL.push (w4 := w4) (y := u) (hov5.kp hk57) hvb5 (hk5.then hk57) hD2 (h4.row _ (List.mem_cons_self)) (hb'.imp id (fun ⟨g, h1, h2, _⟩ => ⟨g, h1, h2⟩)) hru'
          (fun b hb _ e => by have := (hov5.lt e).2; omega)
        refine ⟨(w4, j + 1, _, _), ⟨h5.2.2, by simp; omega, by simp only [hstep2]; exact h5.1, h5.2.1⟩, by simp; omega, ?_⟩
        simp only [hstep2]
        rw [List.length_append (bs := [u])]
        simp only [List.length_cons, List.length_nil, Nat.zero_add]
        (refine WKmk ?_; try trivial)
        rw [wr_small (by omega)]
        simp
      · have hje : j = y.l.length := by simp at h9; omega
        subst hje
        rw [List.take_length] at hov5 ⊢
        rw [List.append_assoc, List.singleton_append, ← hstep] at hov5
        (repeat' (first | refine G0 ?_ | refine sst_box rfl rfl rfl rfl rfl (fun b hb hlt => ?_) | refine sst_alloc tb_ok rfl rfl rfl EV (fun b hb hlt => ?_)))
        refine sq_next fun w4 h4 => ?_
        refine ⟨(w4, i + 1, v2, zs), ⟨hk5.then h4.kp, by simp; omega, hov5.kp h4.kp, hvb5⟩, by simp; omega, ?_⟩
        simp only [hstep, List.append_assoc, List.singleton_append]
        (refine WKmk ?_; try trivial)
        rw [wr_small (by omega)]
        simp
    · have hy6 : ¬ y.k = 6 := by simpa using h8
      have hk6 : kids6 y = [] := by unfold kids6; rw [if_neg hy6]
      rw [hk6] at hstep
      (repeat' (first | refine G0 ?_ | refine sst_box rfl rfl rfl rfl rfl (fun b hb hlt => ?_) | refine sst_alloc tb_ok rfl rfl rfl EV (fun b hb hlt => ?_)))
      refine sq_next fun w4 h4 => ?_
      have h5 := hpush w4 (hD h4.kp) (h4.row _ (List.mem_cons_self))
      refine ⟨(w4, i + 1, v1, _), ⟨h5.2.2, by simp; omega, by simp only [hstep]; exact h5.1, h5.2.1⟩, by simp; omega, ?_⟩
      simp only [hstep, List.length_append, List.length_cons, List.length_nil, Nat.zero_add]
      (refine WKmk ?_; try trivial)
      rw [wr_small (by omega)]
      simp
  · (repeat' (first | refine G0 ?_ | refine sst_box rfl rfl rfl rfl rfl (fun b hb hlt => ?_) | refine sst_alloc tb_ok rfl rfl rfl EV (fun b hb hlt => ?_)))
    refine sq_ret tb_ok rfl EV (fun w' hk hr => ?_)
    have hie : i = (reachF x p).length := by simp at h7; omega
    subst hie
    rw [List.take_length] at hov
    obtain ⟨A4, c4, h4, h5⟩ := (hov.kp hk).rep hlim
    exact ⟨_, rfl, (hk23.then hk1).then hk, _, _, h4, h5⟩
end Go.Fw

set_option linter.unusedVariables false
set_option linter.unusedSimpArgs false
set_option maxRecDepth 10000
set_option maxHeartbeats 2000000
namespace Go.Fw
open Go
attribute [local irreducible] SWp SQ SSeq SSt Quiet Next Meet
attribute [local irreducible] MeetX

/-- A func value that answers q. -/
def FunC (w : World) (fv : Value) (q : Val → Bool) : Prop := ∃ (f : FuncId) (captured : List Value), fv = .func (.func f) #[] captured.toArray ∧ tb.fn f = true ∧
  ∀ (w1 : World), Kp No w w1 → ∀ (S : Nat → Prop) (x : Val) (cs : List Value), RepV S w1 x cs → Calls Go.Proofs.Tryz.prog f (.agg cs.toArray :: captured).toArray w1 fun e w2 => ∃ v, e = .returned v ∧ Kp No w1 w2 ∧ v = .bool (q x)

theorem FunC.kp {w w' : World} {fv : Value} {q : Val → Bool} (h : FunC w fv q) (hk : Kp No w w') : FunC w' fv q := by
  obtain ⟨f, cap, h1, h2, h3⟩ := h
  exact ⟨f, cap, h1, h2, fun w1 hk1 => h3 w1 (hk.trans hk1)⟩

theorem any_snoc {α : Type} {l : List α} {i : Nat} {x : α} {p : α → Bool} (h : l[i]? = some x) : (l.take (i + 1)).any p = ((l.take i).any p || p x) := by
  rw [take_snoc h]; simp

theorem c167 (l : List Val) (q : Val → Bool) (S : Nat → Prop) (w : World) (A : Option Addr) (n c : Nat) (fv : Value) (hl : RepS S w A n c l) (hf : FunC w fv q) :
    Calls Go.Proofs.Tryz.prog 167 #[.slice A n c, fv] w fun e w2 => ∃ v, e = .returned v ∧ Kp No w w2 ∧ v = .bool (l.any q) := by
  have hn := hl.1
  have hnb := hl.2.1
  rw [LIM_eq] at hnb
  obtain ⟨f, cap, rfl, hfn, hfc⟩ := hf
  refine calls_intro (args := [_, _]) w.heap.size Go.Proofs.Tryz.func167 rfl Go.Proofs.Tryz.ntmps167 (by simp) (Nat.le_refl _) ?_
  (repeat' (first | refine G0 ?_ | refine sst_box rfl rfl rfl rfl rfl (fun b hb hlt => ?_) | refine sst_alloc tb_ok rfl rfl rfl EV (fun b hb hlt => ?_)))
  refine swp_loop (X := World × Nat) (fun x => Kp No w x.1 ∧ x.2 ≤ n ∧ (l.take x.2).any q = false)
    (fun x => ⟨17, [(9, .val (.int .i64 (x.2 : Int))), (8, .val (.int .i64 (n : Int))), (7, .val (.slice A n c)), (1, .val (.func (.func f) #[] cap.toArray))], [], [], w.heap.size, x.1, No⟩) (fun x => n - x.2) ?_ ?_
  · intro w1 h1
    refine ⟨(w1, 0), ⟨h1.kp, Nat.zero_le _, by simp⟩, ?_⟩
    (refine WKmk ?_; try trivial)
  rintro ⟨w1, i⟩ ⟨hk1, hi, hall⟩
  simp only at hk1 hi hall
  (repeat' (first | refine G0 ?_ | refine sst_box rfl rfl rfl rfl rfl (fun b hb hlt => ?_) | refine sst_alloc tb_ok rfl rfl rfl EV (fun b hb hlt => ?_)))
  refine swp_if rfl (fun h4 => ?_) (fun h4 => ?_)
  · have hi : i < n := by simp at h4; omega
    obtain ⟨x, hx⟩ := get_of_lt (l := l) (i := i) (by omega)
    obtain ⟨b, off, cs, rfl, hSb, hin, hcl, hrow, hrx⟩ := hl.get hx
    obtain ⟨B1, m1, B2, m2, rfl, -⟩ := hrx.parts
    (repeat' (first | refine G0 ?_ | refine sst_box rfl rfl rfl rfl rfl (fun b hb hlt => ?_) | refine sst_alloc tb_ok rfl rfl rfl EV (fun b hb hlt => ?_)))
    refine sst_quiet rfl rfl (q_index tb_ok rfl el_23 rfl rfl i rfl hi) ?_
    (repeat' (first | refine G0 ?_ | refine sst_box rfl rfl rfl rfl rfl (fun b hb hlt => ?_) | refine sst_alloc tb_ok rfl rfl rfl EV (fun b hb hlt => ?_)))
    refine sst_quiet rfl rfl (q_far_agg tb_ok rfl sz_26 rfl id (by rfl) (hrow.kp hk1 id)) ?_
    (repeat' (first | refine G0 ?_ | refine sst_box rfl rfl rfl rfl rfl (fun b hb hlt => ?_) | refine sst_alloc tb_ok rfl rfl rfl EV (fun b hb hlt => ?_)))
    refine sst_call tb_ok rfl rfl rfl (first := []) (captured := cap) rfl hfn EV (by simp only [List.nil_append, List.append_nil, List.cons_append]; rfl) (fun v _ _ => v = .bool (q x)) ?_ ?_
    · exact fun w2 h2 => hfc w2 (hk1.then h2.kp) S x _ (hrx.kp (hk1.then h2.kp))
    rintro v w2 w3 h2 hk3 rfl
    have hk13 : Kp No w w3 := (hk1.then h2.kp).then hk3
    (repeat' (first | refine G0 ?_ | refine sst_box rfl rfl rfl rfl rfl (fun b hb hlt => ?_) | refine sst_alloc tb_ok rfl rfl rfl EV (fun b hb hlt => ?_)))
    refine swp_if rfl (fun h5 => ?_) (fun h5 => ?_)
    · (repeat' (first | refine G0 ?_ | refine sst_box rfl rfl rfl rfl rfl (fun b hb hlt => ?_) | refine sst_alloc tb_ok rfl rfl rfl EV (fun b hb hlt => ?_)))
      refine sq_ret tb_ok rfl EV (fun w' hk hr => ?_)
      refine ⟨_, rfl, hk13.then hk, ?_⟩
      have : l.any q = true := List.any_eq_true.2 ⟨x, List.mem_of_getElem? hx, h5⟩
      rw [this]; rfl
    (repeat' (first | refine G0 ?_ | refine sst_box rfl rfl rfl rfl rfl (fun b hb hlt => ?_) | refine sst_alloc tb_ok rfl rfl rfl EV (fun b hb hlt => ?_)))
    refine sq_next fun w4 h4 => ?_
    refine ⟨(w4, i + 1), ⟨hk13.then h4.kp, by simp; omega, ?_⟩, by simp; omega, ?_⟩
    · simp only [any_snoc hx, hall, h5, Bool.or_self]
    · (refine WKmk ?_; try trivial)
      rw [wr_small (by omega)]
      simp
  · (repeat' (first | refine G0 ?_ | refine sst_box rfl rfl rfl rfl rfl (fun b hb hlt => ?_) | refine sst_alloc tb_ok rfl rfl rfl EV (fun b hb hlt => ?_)))
    refine sq_ret tb_ok rfl EV (fun w' hk hr => ?_)
    have hie : i = l.length := by simp at h4; omega
    rw [hie, List.take_length] at hall
    exact ⟨_, rfl, hk1.then hk, by rw [hall]; rfl⟩

theorem c168 (x : Val) (S : Nat → Prop) (w : World) (cs : List Value) (hx : RepV S w x cs) : Calls Go.Proofs.Tryz.prog 168 #[.agg cs.toArray] w fun e w2 => ∃ v, e = .returned v ∧ Kp No w w2 ∧ v = .bool (x.k != 0) := by
  obtain ⟨B1, m1, B2, m2, rfl, -⟩ := hx.parts
  refine calls_intro (args := [_]) w.heap.size Go.Proofs.Tryz.func168 rfl Go.Proofs.Tryz.ntmps168 (by simp) (Nat.le_refl _) ?_
  (repeat' (first | refine G0 ?_ | refine sst_box rfl rfl rfl rfl rfl (fun b hb hlt => ?_) | refine sst_alloc tb_ok rfl rfl rfl EV (fun b hb hlt => ?_)))
  refine sq_ret tb_ok rfl EV (fun w' hk hr => ?_)
  exact ⟨_, rfl, hk, rfl⟩

def eqN (x y : Val) : Bool := if x.k = 0 then y.k == 2 else eqV' x y

theorem c214 (x y : Val) (S S' : Nat → Prop) (w : World) (cs cy : List Value) (b : Nat) (hx : RepV S w x cs) (hy : RepV S' w y cy) (hbx : RowAt w b 0 cy) :
    Calls Go.Proofs.Tryz.prog 214 #[.agg cs.toArray, .pointer (some ⟨b, 0, none⟩)] w fun e w2 => ∃ v, e = .returned v ∧ Kp No w w2 ∧ v = .bool (eqN x y) := by
  obtain ⟨B1, m1, B2, m2, rfl, -⟩ := hx.parts
  obtain ⟨B3, m3, B4, m4, rfl, -⟩ := hy.parts
  refine calls_intro (args := [_, _]) w.heap.size Go.Proofs.Tryz.func214 rfl Go.Proofs.Tryz.ntmps214 (by simp) (Nat.le_refl _) ?_
  (repeat' (first | refine G0 ?_ | refine sst_box rfl rfl rfl rfl rfl (fun b hb hlt => ?_) | refine sst_alloc tb_ok rfl rfl rfl EV (fun b hb hlt => ?_)))
  refine swp_if rfl (fun h1 => ?_) (fun h1 => ?_)
  · have h0 : x.k = 0 := by simpa using h1
    (repeat' (first | refine G0 ?_ | refine sst_box rfl rfl rfl rfl rfl (fun b hb hlt => ?_) | refine sst_alloc tb_ok rfl rfl rfl EV (fun b hb hlt => ?_)))
    refine sst_quiet rfl rfl (q_far_one tb_ok rfl sz_3 rfl id hbx.head) ?_
    (repeat' (first | refine G0 ?_ | refine sst_box rfl rfl rfl rfl rfl (fun b hb hlt => ?_) | refine sst_alloc tb_ok rfl rfl rfl EV (fun b hb hlt => ?_)))
    refine sq_ret tb_ok rfl EV (fun w' hk hr => ?_)
    exact ⟨_, rfl, hk, by unfold eqN; rw [if_pos h0]; rfl⟩
  have h0 : ¬ x.k = 0 := by simpa using h1
  (repeat' (first | refine G0 ?_ | refine sst_box rfl rfl rfl rfl rfl (fun b hb hlt => ?_) | refine sst_alloc tb_ok rfl rfl rfl EV (fun b hb hlt => ?_)))
  refine sst_quiet rfl rfl (q_far_agg tb_ok rfl sz_26 rfl id (by rfl) hbx) ?_
  (repeat' (first | refine G0 ?_ | refine sst_box rfl rfl rfl rfl rfl (fun b hb hlt => ?_) | refine sst_alloc tb_ok rfl rfl rfl EV (fun b hb hlt => ?_)))
  refine sst_call tb_ok rfl rfl rfl rfl rfl EV AP (fun v _ _ => v = .bool (eqV' x y)) ?_ ?_
  · exact fun w1 h1 => c109 x y S S' w1 _ _ (hx.kp h1.kp) (hy.kp h1.kp)
  rintro v w2 w3 h2 hk3 rfl
  (repeat' (first | refine G0 ?_ | refine sst_box rfl rfl rfl rfl rfl (fun b hb hlt => ?_) | refine sst_alloc tb_ok rfl rfl rfl EV (fun b hb hlt => ?_)))
  refine sq_ret tb_ok rfl EV (fun w' hk hr => ?_)
  exact ⟨_, rfl, (h2.kp.then hk3).then hk, by unfold eqN; rw [if_neg h0]; rfl⟩

theorem c174 (l : List Val) (y : Val) (S S' : Nat → Prop) (w : World) (A : Option Addr) (n c : Nat) (cy : List Value) (hl : RepS S w A n c l) (hy : RepV S' w y cy) :
    Calls Go.Proofs.Tryz.prog 174 #[.slice A n c, .agg cy.toArray] w fun e w2 => ∃ v, e = .returned v ∧ Kp No w w2 ∧ v = .bool (l.any fun x => eqN x y) := by
  obtain ⟨B3, m3, B4, m4, rfl, -⟩ := hy.parts
  refine calls_intro (args := [_, _]) w.heap.size Go.Proofs.Tryz.func174 rfl Go.Proofs.Tryz.ntmps174 (by simp) (Nat.le_refl _) ?_
  (repeat' (first | refine G0 ?_ | refine sst_box rfl rfl rfl rfl rfl (fun b hb hlt => ?_) | refine sst_alloc tb_ok rfl rfl rfl EV (fun b hb hlt => ?_)))
  refine sst_call tb_ok rfl rfl rfl rfl rfl EV AP (fun v _ _ => v = .bool (l.any fun x => eqN x y)) ?_ ?_
  · intro w1 h1
    refine c167 l _ S w1 _ _ _ _ (hl.kp h1.kp) ⟨214, [.pointer (some ⟨b, 0, none⟩)], rfl, rfl, fun w2 h2 S2 x cs hx => ?_⟩
    exact c214 x y S2 S' w2 cs _ b hx (hy.kp (h1.kp.then h2)) ((RowAt.ofBox (h1.loc _ (List.mem_cons_self))).kp h2 id)
  rintro v w2 w3 h2 hk3 rfl
  (repeat' (first | refine G0 ?_ | refine sst_box rfl rfl rfl rfl rfl (fun b hb hlt => ?_) | refine sst_alloc tb_ok rfl rfl rfl EV (fun b hb hlt => ?_)))
  refine sq_ret tb_ok rfl EV (fun w' hk hr => ?_)
  exact ⟨_, rfl, (h2.kp.then hk3).then hk, rfl⟩

/-- The cells of a predicate behind its numbers. -/
def Mid (mid : List Value) : Prop := ∃ m s0 S1 s1 s2 s3 x0 X1 x1 x2 x3 X4 x4 x5 x6 x7 x8 X9 x9 x10 X11 x11 x12 x13 X14 x14 x15 K k1 k2, mid = [.int .i64 m, .int .i64 s0, .slice S1 s1 s2, .int .i64 s3, .int .i64 x0, .slice X1 x1 x2, .string x3, .slice X4 x4 x5, .int .i64 x6, .int .i64 x7, .string x8, .slice X9 x9 x10, .slice X11 x11 x12, .int .i64 x13, .slice X14 x14 x15, .slice K k1 k2]

/-- A predicate that looks at one path. -/
def PL (S : Nat → Prop) (w : World) (op : Int) (p : List ByteArray) (a : Val) (al : List Val) (n : Int) (cs : List Value) : Prop :=
  ∃ A m c ca A2 m2 c2 mid, cs = .int .i64 op :: .slice A m c :: (ca ++ (.slice A2 m2 c2 :: .int .i64 n :: mid)) ∧ RepB S w A m c p ∧ RepV S w a ca ∧ RepS S w A2 m2 c2 al ∧ Mid mid

theorem PL.parts {S : Nat → Prop} {w : World} {op : Int} {p : List ByteArray} {a : Val} {al : List Val} {n : Int} {cs : List Value} (h : PL S w op p a al n cs) :
    ∃ A m c B1 n1 B2 n2 A2 m2 c2 m' s0 S1 s1 s2 s3 x0 X1 x1 x2 x3 X4 x4 x5 x6 x7 x8 X9 x9 x10 X11 x11 x12 x13 X14 x14 x15 K k1 k2,
      cs = [.int .i64 op, .slice A m c, .int .i64 a.k, .int .i64 a.n, .string a.t, .slice B1 a.l.length n1, .slice B2 a.d.length n2, .slice A2 m2 c2, .int .i64 n, .int .i64 m', .int .i64 s0, .slice S1 s1 s2, .int .i64 s3, .int .i64 x0, .slice X1 x1 x2, .string x3, .slice X4 x4 x5, .int .i64 x6, .int .i64 x7, .string x8, .slice X9 x9 x10, .slice X11 x11 x12, .int .i64 x13, .slice X14 x14 x15, .slice K k1 k2] ∧
      RepB S w A m c p ∧ RepV S w a [.int .i64 a.k, .int .i64 a.n, .string a.t, .slice B1 a.l.length n1, .slice B2 a.d.length n2] ∧ RepS S w A2 m2 c2 al := by
  obtain ⟨A, m, c, ca, A2, m2, c2, mid, rfl, hp, ha, has, hm⟩ := h
  obtain ⟨B1, n1, B2, n2, rfl, -⟩ := ha.parts
  obtain ⟨m', s0, S1, s1, s2, s3, x0, X1, x1, x2, x3, X4, x4, x5, x6, x7, x8, X9, x9, x10, X11, x11, x12, x13, X14, x14, x15, K, k1, k2, rfl⟩ := hm
  exact ⟨_, _, _, _, _, _, _, _, _, _, _, _, _, _, _, _, _, _, _, _, _, _, _, _, _, _, _, _, _, _, _, _, _, _, _, _, _, _, _, _, rfl, hp, ha, has⟩

theorem PL.kp {S : Nat → Prop} {w w' : World} {op : Int} {p : List ByteArray} {a : Val} {al : List Val} {n : Int} {cs : List Value} (h : PL S w op p a al n cs) (hk : Kp No w w') : PL S w' op p a al n cs := by
  obtain ⟨A, m, c, ca, A2, m2, c2, mid, rfl, hp, ha, has, hm⟩ := h
  exact ⟨A, m, c, ca, A2, m2, c2, mid, rfl, hp.kp hk, ha.kp hk, has.kp hk, hm⟩

theorem c124_10 (x : Val) (p : List ByteArray) (a : Val) (al : List Val) (n : Int) (S S' : Nat → Prop) (w : World) (cs cx : List Value) (hp : PL S w 10 p a al n cs) (hx : RepV S' w x cx) (hlim : (leavesF x p).length * 80 ≤ LIM) :
    Calls Go.Proofs.Tryz.prog 124 #[.agg cs.toArray, .agg cx.toArray] w fun e w2 => ∃ v, e = .returned v ∧ Kp No w w2 ∧ v = .bool (((reachF x p).any fun y => y.k != 0) == (n == 1)) := by
  obtain ⟨A, m, c, B1, n1, B2, n2, A2, m2, c2, m', s0, S1, s1, s2, s3, x0, X1, x1, x2, x3, X4, x4, x5, x6, x7, x8, X9, x9, x10, X11, x11, x12, x13, X14, x14, x15, K, k1, k2, rfl, hpath, harg, hargs⟩ := hp.parts
  obtain ⟨B3, m3, B4, m4, rfl, -⟩ := hx.parts
  refine calls_intro (args := [_, _]) w.heap.size Go.Proofs.Tryz.func124 rfl Go.Proofs.Tryz.ntmps124 (by simp) (Nat.le_refl _) ?_
  (repeat' (first | refine Gc ?_ | refine sst_box rfl rfl rfl rfl rfl (fun b hb hlt => ?_) | refine sst_alloc tb_ok rfl rfl rfl EV (fun b hb hlt => ?_)))
  refine sst_call tb_ok rfl rfl rfl rfl rfl EV AP (fun v wa wb => ∃ A' c', v = .slice A' (reachF x p).length c' ∧ RepS (fun _ => True) wb A' (reachF x p).length c' (reachF x p)) ?_ ?_
  · exact fun w1 h1 => c135 x p _ _ w1 _ _ _ _ (hx.kp h1.kp) (hpath.kp h1.kp) (Nat.le_trans (Nat.mul_le_mul_right 80 (leavesF_le x p)) hlim)
  rintro v w2 w3 h2 hk3 ⟨A', c', rfl, hr'⟩
  have hk23 : Kp No w w3 := h2.kp.then hk3
  (repeat' (first | refine Gc ?_ | refine sst_box rfl rfl rfl rfl rfl (fun b hb hlt => ?_) | refine sst_alloc tb_ok rfl rfl rfl EV (fun b hb hlt => ?_)))
  refine sst_call tb_ok rfl rfl rfl rfl rfl EV AP (fun v wa wb => v = .bool ((reachF x p).any fun y => y.k != 0)) ?_ ?_
  · exact fun w1 h1 => c167 _ _ _ w1 _ _ _ _ (hr'.kp h1.kp) ⟨168, [], rfl, rfl, fun w2 h2 S2 x cs hx => c168 x S2 w2 cs hx⟩
  rintro v w4 w5 h4 hk5 rfl
  (repeat' (first | refine Gc ?_ | refine sst_box rfl rfl rfl rfl rfl (fun b hb hlt => ?_) | refine sst_alloc tb_ok rfl rfl rfl EV (fun b hb hlt => ?_)))
  refine sq_ret tb_ok rfl EV (fun w' hk hr => ?_)
  exact ⟨_, rfl, ((hk23.then h4.kp).then hk5).then hk, rfl⟩
end Go.Fw
