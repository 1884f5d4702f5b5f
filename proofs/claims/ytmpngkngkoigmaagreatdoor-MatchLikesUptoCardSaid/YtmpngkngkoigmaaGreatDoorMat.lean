/- Helping lemmas for the cards of this seat's laws, of the texts: W9, W10, W11. They state no law of their own. -/
import Derived.Test.YtmpngkngkoigmaaGreatDoorCln
set_option linter.unusedVariables false
set_option linter.unusedSimpArgs false
set_option maxRecDepth 10000
set_option maxHeartbeats 2000000
namespace Go.Fw
open Go
attribute [local irreducible] SWp SQ SSeq SSt Quiet Next Meet
attribute [local irreducible] MeetX

theorem RowAt.pre {w : World} {b off : Nat} {l1 l2 : List Value} (h : RowAt w b off (l1 ++ l2)) : RowAt w b off l1 := fun j u hj => h j u (by
  have := (List.getElem?_eq_some_iff.1 hj).1
  rw [List.getElem?_append_left this]; exact hj)

def ordF (op : Int) (a x : Val) : Bool := if x.k = 0 ∨ x.k ≠ a.k then false else
  if op = 4 then decide (0 < cmpV x a) else if op = 5 then decide (0 ≤ cmpV x a) else if op = 6 then decide (cmpV x a < 0) else decide (cmpV x a ≤ 0)

theorem c215 (x : Val) (op : Int) (p : List ByteArray) (a : Val) (al : List Val) (n : Int) (S S' : Nat → Prop) (w : World) (cs cx : List Value) (b0 : Nat) (hp : PL S w op p a al n cs) (hx : RepV S' w x cx) (hbx : RowAt w b0 0 cs) :
    Calls Go.Proofs.Tryz.prog 215 #[.agg cx.toArray, .pointer (some ⟨b0, 0, none⟩)] w fun e w2 => ∃ v, e = .returned v ∧ Kp No w w2 ∧ v = .bool (ordF op a x) := by
  obtain ⟨A, m, c, B1, n1, B2, n2, A2, m2, c2, m', s0, S1, s1, s2, s3, x0, X1, x1, x2, x3, X4, x4, x5, x6, x7, x8, X9, x9, x10, X11, x11, x12, x13, X14, x14, x15, K, k1, k2, rfl, hpath, harg, hargs⟩ := hp.parts
  obtain ⟨B3, m3, B4, m4, rfl, -⟩ := hx.parts
  have hba : RowAt w b0 2 [.int .i64 a.k, .int .i64 a.n, .string a.t, .slice B1 a.l.length n1, .slice B2 a.d.length n2] := RowAt.pre (l2 := _ :: _) hbx.tail.tail
  refine calls_intro (args := [_, _]) w.heap.size Go.Proofs.Tryz.func215 rfl Go.Proofs.Tryz.ntmps215 (by simp) (Nat.le_refl _) ?_
  (repeat' (first | refine G0 ?_ | refine sst_box rfl rfl rfl rfl rfl (fun b hb hlt => ?_) | refine sst_alloc tb_ok rfl rfl rfl EV (fun b hb hlt => ?_)))
  refine sst_guard rfl rfl rfl (fun h1 => ?_) (fun h1 => ?_)
  · (repeat' (first | refine G0 ?_ | refine sst_box rfl rfl rfl rfl rfl (fun b hb hlt => ?_) | refine sst_alloc tb_ok rfl rfl rfl EV (fun b hb hlt => ?_)))
    refine sq_ret tb_ok rfl EV (fun w' hk hr => ?_)
    have h0 : x.k = 0 := by simpa using h1
    exact ⟨_, rfl, hk, by unfold ordF; rw [if_pos (.inl h0)]; rfl⟩
  have h0 : ¬ x.k = 0 := by simpa using h1
  (repeat' (first | refine G0 ?_ | refine sst_box rfl rfl rfl rfl rfl (fun b hb hlt => ?_) | refine sst_alloc tb_ok rfl rfl rfl EV (fun b hb hlt => ?_)))
  refine sst_quiet rfl rfl (q_far_one tb_ok rfl sz_3 rfl id hba.head) ?_
  (repeat' (first | refine G0 ?_ | refine sst_box rfl rfl rfl rfl rfl (fun b hb hlt => ?_) | refine sst_alloc tb_ok rfl rfl rfl EV (fun b hb hlt => ?_)))
  refine swp_if rfl (fun h2 => ?_) (fun h2 => ?_)
  · (repeat' (first | refine G0 ?_ | refine sst_box rfl rfl rfl rfl rfl (fun b hb hlt => ?_) | refine sst_alloc tb_ok rfl rfl rfl EV (fun b hb hlt => ?_)))
    refine sq_ret tb_ok rfl EV (fun w' hk hr => ?_)
    have h3 : x.k ≠ a.k := by simpa using h2
    exact ⟨_, rfl, hk, by unfold ordF; rw [if_pos (.inr h3)]; rfl⟩
  have h3 : ¬ (x.k = 0 ∨ x.k ≠ a.k) := by simp at h2; omega
  (repeat' (first | refine G0 ?_ | refine sst_box rfl rfl rfl rfl rfl (fun b hb hlt => ?_) | refine sst_alloc tb_ok rfl rfl rfl EV (fun b hb hlt => ?_)))
  refine sst_quiet rfl rfl (q_far_agg tb_ok rfl sz_26 rfl id (by rfl) hba) ?_
  (repeat' (first | refine G0 ?_ | refine sst_box rfl rfl rfl rfl rfl (fun b hb hlt => ?_) | refine sst_alloc tb_ok rfl rfl rfl EV (fun b hb hlt => ?_)))
  refine sst_call tb_ok rfl rfl rfl rfl rfl EV AP (fun v _ _ => v = .int .i64 (cmpV x a)) ?_ ?_
  · exact fun w1 h1 => cmp_all x a S' S w1 _ _ (hx.kp h1.kp) (harg.kp h1.kp)
  rintro v w2 w3 h4 hk3 rfl
  have hk13 : Kp No w w3 := h4.kp.then hk3
  (repeat' (first | refine G0 ?_ | refine sst_box rfl rfl rfl rfl rfl (fun b hb hlt => ?_) | refine sst_alloc tb_ok rfl rfl rfl EV (fun b hb hlt => ?_)))
  refine sst_quiet rfl rfl (q_far_one tb_ok rfl sz_3 rfl id (hk13.cell hbx.head id)) ?_
  (repeat' (first | refine G0 ?_ | refine sst_box rfl rfl rfl rfl rfl (fun b hb hlt => ?_) | refine sst_alloc tb_ok rfl rfl rfl EV (fun b hb hlt => ?_)))
  refine swp_if rfl (fun h5 => ?_) (fun h5 => ?_)
  · (repeat' (first | refine G0 ?_ | refine sst_box rfl rfl rfl rfl rfl (fun b hb hlt => ?_) | refine sst_alloc tb_ok rfl rfl rfl EV (fun b hb hlt => ?_)))
    refine sq_ret tb_ok rfl EV (fun w' hk hr => ?_)
    have h5 : op = 4 := by simpa using h5
    exact ⟨_, rfl, hk13.then hk, by unfold ordF; rw [if_neg h3, if_pos h5]; rfl⟩
  have h5 : ¬ op = 4 := by simpa using h5
  (repeat' (first | refine G0 ?_ | refine sst_box rfl rfl rfl rfl rfl (fun b hb hlt => ?_) | refine sst_alloc tb_ok rfl rfl rfl EV (fun b hb hlt => ?_)))
  refine swp_if rfl (fun h6 => ?_) (fun h6 => ?_)
  · (repeat' (first | refine G0 ?_ | refine sst_box rfl rfl rfl rfl rfl (fun b hb hlt => ?_) | refine sst_alloc tb_ok rfl rfl rfl EV (fun b hb hlt => ?_)))
    refine sq_ret tb_ok rfl EV (fun w' hk hr => ?_)
    have h6 : op = 5 := by simpa using h6
    exact ⟨_, rfl, hk13.then hk, by unfold ordF; rw [if_neg h3, if_neg h5, if_pos h6]; rfl⟩
  have h6 : ¬ op = 5 := by simpa using h6
  (repeat' (first | refine G0 ?_ | refine sst_box rfl rfl rfl rfl rfl (fun b hb hlt => ?_) | refine sst_alloc tb_ok rfl rfl rfl EV (fun b hb hlt => ?_)))
  refine swp_if rfl (fun h7 => ?_) (fun h7 => ?_)
  · (repeat' (first | refine G0 ?_ | refine sst_box rfl rfl rfl rfl rfl (fun b hb hlt => ?_) | refine sst_alloc tb_ok rfl rfl rfl EV (fun b hb hlt => ?_)))
    refine sq_ret tb_ok rfl EV (fun w' hk hr => ?_)
    have h7 : op = 6 := by simpa using h7
    exact ⟨_, rfl, hk13.then hk, by unfold ordF; rw [if_neg h3, if_neg h5, if_neg h6, if_pos h7]; rfl⟩
  have h7 : ¬ op = 6 := by simpa using h7
  (repeat' (first | refine G0 ?_ | refine sst_box rfl rfl rfl rfl rfl (fun b hb hlt => ?_) | refine sst_alloc tb_ok rfl rfl rfl EV (fun b hb hlt => ?_)))
  refine sq_ret tb_ok rfl EV (fun w' hk hr => ?_)
  exact ⟨_, rfl, hk13.then hk, by unfold ordF; rw [if_neg h3, if_neg h5, if_neg h6, if_neg h7]; rfl⟩

theorem c175 (l : List Val) (op : Int) (p : List ByteArray) (a : Val) (al : List Val) (n : Int) (S S' : Nat → Prop) (w : World) (cs : List Value) (A' : Option Addr) (n' c' : Nat) (hp : PL S w op p a al n cs) (hl : RepS S' w A' n' c' l) :
    Calls Go.Proofs.Tryz.prog 175 #[.agg cs.toArray, .slice A' n' c'] w fun e w2 => ∃ v, e = .returned v ∧ Kp No w w2 ∧ v = .bool (l.any (ordF op a)) := by
  have hp0 := hp
  obtain ⟨A, m, c, B1, n1, B2, n2, A2, m2, c2, m', s0, S1, s1, s2, s3, x0, X1, x1, x2, x3, X4, x4, x5, x6, x7, x8, X9, x9, x10, X11, x11, x12, x13, X14, x14, x15, K, k1, k2, rfl, hpath, harg, hargs⟩ := hp.parts
  refine calls_intro (args := [_, _]) w.heap.size Go.Proofs.Tryz.func175 rfl Go.Proofs.Tryz.ntmps175 (by simp) (Nat.le_refl _) ?_
  (repeat' (first | refine G0 ?_ | refine sst_box rfl rfl rfl rfl rfl (fun b hb hlt => ?_) | refine sst_alloc tb_ok rfl rfl rfl EV (fun b hb hlt => ?_)))
  refine sst_call tb_ok rfl rfl rfl rfl rfl EV AP (fun v _ _ => v = .bool (l.any (ordF op a))) ?_ ?_
  · intro w1 h1
    refine c167 l _ S' w1 _ _ _ _ (hl.kp h1.kp) ⟨215, [.pointer (some ⟨b, 0, none⟩)], rfl, rfl, fun w2 h2 S2 x cs hx => ?_⟩
    exact c215 x op p a al n S S2 w2 _ cs b (hp0.kp (h1.kp.then h2)) hx ((RowAt.ofBox (h1.loc _ (List.mem_cons_self))).kp h2 id)
  rintro v w2 w3 h2 hk3 rfl
  (repeat' (first | refine G0 ?_ | refine sst_box rfl rfl rfl rfl rfl (fun b hb hlt => ?_) | refine sst_alloc tb_ok rfl rfl rfl EV (fun b hb hlt => ?_)))
  refine sq_ret tb_ok rfl EV (fun w' hk hr => ?_)
  exact ⟨_, rfl, (h2.kp.then hk3).then hk, rfl⟩

theorem c173 (y : Val) (l : List Val) (S S' : Nat → Prop) (w : World) (cy : List Value) (b0 : Nat) (A' : Option Addr) (n' c' : Nat) (hy : RepV S w y cy) (hl : RepS S' w A' n' c' l) (hbx : w.cell? ⟨b0, 0, none⟩ = some (.slice A' n' c')) :
    Calls Go.Proofs.Tryz.prog 173 #[.agg cy.toArray, .pointer (some ⟨b0, 0, none⟩)] w fun e w2 => ∃ v, e = .returned v ∧ Kp No w w2 ∧ v = .bool (l.any fun x => eqN x y) := by
  obtain ⟨B3, m3, B4, m4, rfl, -⟩ := hy.parts
  refine calls_intro (args := [_, _]) w.heap.size Go.Proofs.Tryz.func173 rfl Go.Proofs.Tryz.ntmps173 (by simp) (Nat.le_refl _) ?_
  (repeat' (first | refine G0 ?_ | refine sst_box rfl rfl rfl rfl rfl (fun b hb hlt => ?_) | refine sst_alloc tb_ok rfl rfl rfl EV (fun b hb hlt => ?_)))
  refine sst_quiet rfl rfl (q_far_one tb_ok rfl sz_23 rfl id hbx) ?_
  (repeat' (first | refine G0 ?_ | refine sst_box rfl rfl rfl rfl rfl (fun b hb hlt => ?_) | refine sst_alloc tb_ok rfl rfl rfl EV (fun b hb hlt => ?_)))
  refine sst_call tb_ok rfl rfl rfl rfl rfl EV AP (fun v _ _ => v = .bool (l.any fun x => eqN x y)) ?_ ?_
  · exact fun w1 h1 => c174 l y S' S w1 _ _ _ _ (hl.kp h1.kp) (hy.kp h1.kp)
  rintro v w2 w3 h2 hk3 rfl
  (repeat' (first | refine G0 ?_ | refine sst_box rfl rfl rfl rfl rfl (fun b hb hlt => ?_) | refine sst_alloc tb_ok rfl rfl rfl EV (fun b hb hlt => ?_)))
  refine sq_ret tb_ok rfl EV (fun w' hk hr => ?_)
  exact ⟨_, rfl, (h2.kp.then hk3).then hk, rfl⟩

theorem c176 (y : Val) (q : Val → Bool) (S : Nat → Prop) (w : World) (cy : List Value) (b0 : Nat) (fv : Value) (hy : RepV S w y cy) (hf : FunC w fv q) (hbx : w.cell? ⟨b0, 0, none⟩ = some fv) :
    Calls Go.Proofs.Tryz.prog 176 #[.agg cy.toArray, .pointer (some ⟨b0, 0, none⟩)] w fun e w2 => ∃ v, e = .returned v ∧ Kp No w w2 ∧ v = .bool (!q y) := by
  obtain ⟨B3, m3, B4, m4, rfl, -⟩ := hy.parts
  obtain ⟨f, cap, rfl, hfn, hfc⟩ := hf
  refine calls_intro (args := [_, _]) w.heap.size Go.Proofs.Tryz.func176 rfl Go.Proofs.Tryz.ntmps176 (by simp) (Nat.le_refl _) ?_
  (repeat' (first | refine G0 ?_ | refine sst_box rfl rfl rfl rfl rfl (fun b hb hlt => ?_) | refine sst_alloc tb_ok rfl rfl rfl EV (fun b hb hlt => ?_)))
  refine sst_quiet rfl rfl (q_far_one tb_ok rfl sz_111 rfl id hbx) ?_
  (repeat' (first | refine G0 ?_ | refine sst_box rfl rfl rfl rfl rfl (fun b hb hlt => ?_) | refine sst_alloc tb_ok rfl rfl rfl EV (fun b hb hlt => ?_)))
  refine sst_call tb_ok rfl rfl rfl (first := []) (captured := cap) rfl hfn EV (by simp only [List.nil_append, List.append_nil, List.cons_append]; rfl) (fun v _ _ => v = .bool (q y)) ?_ ?_
  · exact fun w2 h2 => hfc w2 h2.kp S y _ (hy.kp h2.kp)
  rintro v w2 w3 h2 hk3 rfl
  (repeat' (first | refine G0 ?_ | refine sst_box rfl rfl rfl rfl rfl (fun b hb hlt => ?_) | refine sst_alloc tb_ok rfl rfl rfl EV (fun b hb hlt => ?_)))
  refine sq_ret tb_ok rfl EV (fun w' hk hr => ?_)
  exact ⟨_, rfl, (h2.kp.then hk3).then hk, rfl⟩

/-- match.leaf at this predicate answers q. -/
def LeafC (w : World) (cs : List Value) (q : Val → Bool) : Prop := ∀ (w1 : World), Kp No w w1 → ∀ (S : Nat → Prop) (y : Val) (cy : List Value), RepV S w1 y cy → Calls Go.Proofs.Tryz.prog 178 #[.agg cs.toArray, .agg cy.toArray] w1 fun e w2 => ∃ v, e = .returned v ∧ Kp No w1 w2 ∧ v = .bool (q y)

theorem c177 (y : Val) (q : Val → Bool) (op : Int) (p : List ByteArray) (a : Val) (al : List Val) (n : Int) (S S' : Nat → Prop) (w : World) (cs cy : List Value) (b0 : Nat) (hp : PL S w op p a al n cs) (hy : RepV S' w y cy) (hbx : RowAt w b0 0 cs) (hf : LeafC w cs q) :
    Calls Go.Proofs.Tryz.prog 177 #[.agg cy.toArray, .pointer (some ⟨b0, 0, none⟩)] w fun e w2 => ∃ v, e = .returned v ∧ Kp No w w2 ∧ v = .bool (q y) := by
  obtain ⟨A, m, c, B1, n1, B2, n2, A2, m2, c2, m', s0, S1, s1, s2, s3, x0, X1, x1, x2, x3, X4, x4, x5, x6, x7, x8, X9, x9, x10, X11, x11, x12, x13, X14, x14, x15, K, k1, k2, rfl, hpath, harg, hargs⟩ := hp.parts
  obtain ⟨B3, m3, B4, m4, rfl, -⟩ := hy.parts
  refine calls_intro (args := [_, _]) w.heap.size Go.Proofs.Tryz.func177 rfl Go.Proofs.Tryz.ntmps177 (by simp) (Nat.le_refl _) ?_
  (repeat' (first | refine G0 ?_ | refine sst_box rfl rfl rfl rfl rfl (fun b hb hlt => ?_) | refine sst_alloc tb_ok rfl rfl rfl EV (fun b hb hlt => ?_)))
  refine sst_quiet rfl rfl (q_far_agg tb_ok rfl sz_35 rfl id (by rfl) hbx) ?_
  (repeat' (first | refine G0 ?_ | refine sst_box rfl rfl rfl rfl rfl (fun b hb hlt => ?_) | refine sst_alloc tb_ok rfl rfl rfl EV (fun b hb hlt => ?_)))
  refine sst_call tb_ok rfl rfl rfl rfl rfl EV AP (fun v _ _ => v = .bool (q y)) ?_ ?_
  · exact fun w2 h2 => hf w2 h2.kp S' y _ (hy.kp h2.kp)
  rintro v w2 w3 h2 hk3 rfl
  (repeat' (first | refine G0 ?_ | refine sst_box rfl rfl rfl rfl rfl (fun b hb hlt => ?_) | refine sst_alloc tb_ok rfl rfl rfl EV (fun b hb hlt => ?_)))
  refine sq_ret tb_ok rfl EV (fun w' hk hr => ?_)
  exact ⟨_, rfl, (h2.kp.then hk3).then hk, rfl⟩

/-- What match.onPath answers at a predicate that looks at one path. -/
def onP (leaf : Val → Bool) (op : Int) (p : List ByteArray) (a : Val) (al : List Val) (n : Int) (x : Val) : Bool :=
  if op = 10 then ((reachF x p).any fun y => y.k != 0) == (n == 1)
  else if op = 2 then (leavesF x p).any fun y => eqN y a
  else if op = 3 then !((leavesF x p).any fun y => eqN y a)
  else if op = 4 ∨ op = 5 ∨ op = 6 ∨ op = 7 then (leavesF x p).any (ordF op a)
  else if op = 8 then al.any fun z => (leavesF x p).any fun y => eqN y z
  else if op = 9 then !(al.any fun z => (leavesF x p).any fun y => eqN y z)
  else if op = 14 then !(al.any fun z => !((leavesF x p).any fun y => eqN y z))
  else (leavesF x p).any leaf

theorem c124 (x : Val) (leaf : Val → Bool) (op : Int) (p : List ByteArray) (a : Val) (al : List Val) (n : Int) (S S' : Nat → Prop) (w : World) (cs cx : List Value) (hp : PL S w op p a al n cs) (hx : RepV S' w x cx) (hlim : (leavesF x p).length * 80 ≤ LIM)
    (h13 : op ≠ 13) (h15 : op ≠ 15) (hleaf : (op ≠ 10 ∧ ¬ (2 ≤ op ∧ op ≤ 9) ∧ op ≠ 14) → LeafC w cs leaf) :
    Calls Go.Proofs.Tryz.prog 124 #[.agg cs.toArray, .agg cx.toArray] w fun e w2 => ∃ v, e = .returned v ∧ Kp No w w2 ∧ v = .bool (onP leaf op p a al n x) := by
  by_cases h10 : op = 10
  · subst h10
    unfold onP; rw [if_pos rfl]
    exact c124_10 x p a al n S S' w cs cx hp hx hlim
  have hp0 := hp
  obtain ⟨A, m, c, B1, n1, B2, n2, A2, m2, c2, m', s0, S1, s1, s2, s3, x0, X1, x1, x2, x3, X4, x4, x5, x6, x7, x8, X9, x9, x10, X11, x11, x12, x13, X14, x14, x15, K, k1, k2, rfl, hpath, harg, hargs⟩ := hp.parts
  obtain ⟨B3, m3, B4, m4, rfl, -⟩ := hx.parts
  unfold onP; rw [if_neg h10]
  refine calls_intro (args := [_, _]) w.heap.size Go.Proofs.Tryz.func124 rfl Go.Proofs.Tryz.ntmps124 (by simp) (Nat.le_refl _) ?_
  (repeat' (first | refine G0 ?_ | refine sst_box rfl rfl rfl rfl rfl (fun b hb hlt => ?_) | refine sst_alloc tb_ok rfl rfl rfl EV (fun b hb hlt => ?_)))
  refine swp_if rfl (fun h => ?_) (fun h => ?_)
  · exact absurd (by simpa using h) h10
  (repeat' (first | refine G0 ?_ | refine sst_box rfl rfl rfl rfl rfl (fun b hb hlt => ?_) | refine sst_alloc tb_ok rfl rfl rfl EV (fun b hb hlt => ?_)))
  refine swp_if rfl (fun h => ?_) (fun h => ?_)
  · exact absurd (by simpa using h) h13
  (repeat' (first | refine G0 ?_ | refine sst_box rfl rfl rfl rfl rfl (fun b hb hlt => ?_) | refine sst_alloc tb_ok rfl rfl rfl EV (fun b hb hlt => ?_)))
  refine swp_if rfl (fun h => ?_) (fun h => ?_)
  · exact absurd (by simpa using h) h15
  (repeat' (first | refine G0 ?_ | refine sst_box rfl rfl rfl rfl rfl (fun b hb hlt => ?_) | refine sst_alloc tb_ok rfl rfl rfl EV (fun b hb hlt => ?_)))
  refine sst_call tb_ok rfl rfl rfl rfl rfl EV AP (fun v wa wb => ∃ A' c', v = .slice A' (leavesF x p).length c' ∧ RepS (fun _ => True) wb A' (leavesF x p).length c' (leavesF x p)) ?_ ?_
  · exact fun w1 h1 => c172 x p _ _ w1 _ _ _ _ (hx.kp h1.kp) (hpath.kp h1.kp) hlim
  rintro v w2 w3 h2 hk3 ⟨A', c', rfl, hr'⟩
  have hk23 : Kp No w w3 := h2.kp.then hk3
  (repeat' (first | refine G0 ?_ | refine sst_box rfl rfl rfl rfl rfl (fun b hb hlt => ?_) | refine sst_alloc tb_ok rfl rfl rfl EV (fun b hb hlt => ?_)))
  have hle : ∀ {k : Int}, op = k → (op == k) = true := fun h => by rw [h]; simp
  refine swp_if rfl (fun h => ?_) (fun h => ?_)
  · have ho : op = 2 := by simpa using h
    rw [if_pos ho]
    (repeat' (first | refine G0 ?_ | refine sst_box rfl rfl rfl rfl rfl (fun b hb hlt => ?_) | refine sst_alloc tb_ok rfl rfl rfl EV (fun b hb hlt => ?_)))
    refine sst_call tb_ok rfl rfl rfl rfl rfl EV AP (fun v _ _ => v = .bool ((leavesF x p).any fun y => eqN y a)) ?_ ?_
    · exact fun w1 h1 => c174 _ a _ _ w1 _ _ _ _ (hr'.kp h1.kp) (harg.kp (hk23.then h1.kp))
    rintro v w4 w5 h4 hk5 rfl
    (repeat' (first | refine G0 ?_ | refine sst_box rfl rfl rfl rfl rfl (fun b hb hlt => ?_) | refine sst_alloc tb_ok rfl rfl rfl EV (fun b hb hlt => ?_)))
    refine sq_ret tb_ok rfl EV (fun w' hk hr => ?_)
    exact ⟨_, rfl, ((hk23.then h4.kp).then hk5).then hk, rfl⟩
  have ho2 : ¬ op = 2 := by simpa using h
  rw [if_neg ho2]
  (repeat' (first | refine G0 ?_ | refine sst_box rfl rfl rfl rfl rfl (fun b hb hlt => ?_) | refine sst_alloc tb_ok rfl rfl rfl EV (fun b hb hlt => ?_)))
  refine swp_if rfl (fun h => ?_) (fun h => ?_)
  · have ho : op = 3 := by simpa using h
    rw [if_pos ho]
    (repeat' (first | refine G0 ?_ | refine sst_box rfl rfl rfl rfl rfl (fun b hb hlt => ?_) | refine sst_alloc tb_ok rfl rfl rfl EV (fun b hb hlt => ?_)))
    refine sst_call tb_ok rfl rfl rfl rfl rfl EV AP (fun v _ _ => v = .bool ((leavesF x p).any fun y => eqN y a)) ?_ ?_
    · exact fun w1 h1 => c174 _ a _ _ w1 _ _ _ _ (hr'.kp h1.kp) (harg.kp (hk23.then h1.kp))
    rintro v w4 w5 h4 hk5 rfl
    (repeat' (first | refine G0 ?_ | refine sst_box rfl rfl rfl rfl rfl (fun b hb hlt => ?_) | refine sst_alloc tb_ok rfl rfl rfl EV (fun b hb hlt => ?_)))
    refine sq_ret tb_ok rfl EV (fun w' hk hr => ?_)
    exact ⟨_, rfl, ((hk23.then h4.kp).then hk5).then hk, rfl⟩
  have ho3 : ¬ op = 3 := by simpa using h
  rw [if_neg ho3]
  (repeat' (first | refine G0 ?_ | refine sst_box rfl rfl rfl rfl rfl (fun b hb hlt => ?_) | refine sst_alloc tb_ok rfl rfl rfl EV (fun b hb hlt => ?_)))
  refine swp_if rfl (fun h => ?_) (fun h => ?_)
  · have ho : op = 4 ∨ op = 5 ∨ op = 6 ∨ op = 7 := by simp at h; omega
    rw [if_pos ho]
    (repeat' (first | refine G0 ?_ | refine sst_box rfl rfl rfl rfl rfl (fun b hb hlt => ?_) | refine sst_alloc tb_ok rfl rfl rfl EV (fun b hb hlt => ?_)))
    refine sst_call tb_ok rfl rfl rfl rfl rfl EV AP (fun v _ _ => v = .bool ((leavesF x p).any (ordF op a))) ?_ ?_
    · exact fun w1 h1 => c175 _ op p a al n _ _ w1 _ _ _ _ (hp0.kp (hk23.then h1.kp)) (hr'.kp h1.kp)
    rintro v w4 w5 h4 hk5 rfl
    (repeat' (first | refine G0 ?_ | refine sst_box rfl rfl rfl rfl rfl (fun b hb hlt => ?_) | refine sst_alloc tb_ok rfl rfl rfl EV (fun b hb hlt => ?_)))
    refine sq_ret tb_ok rfl EV (fun w' hk hr => ?_)
    exact ⟨_, rfl, ((hk23.then h4.kp).then hk5).then hk, rfl⟩
  have ho4 : ¬ op = 4 := by simpa using h
  (repeat' (first | refine G0 ?_ | refine sst_box rfl rfl rfl rfl rfl (fun b hb hlt => ?_) | refine sst_alloc tb_ok rfl rfl rfl EV (fun b hb hlt => ?_)))
  refine swp_if rfl (fun h => ?_) (fun h => ?_)
  · have ho : op = 4 ∨ op = 5 ∨ op = 6 ∨ op = 7 := by simp at h; omega
    rw [if_pos ho]
    (repeat' (first | refine G0 ?_ | refine sst_box rfl rfl rfl rfl rfl (fun b hb hlt => ?_) | refine sst_alloc tb_ok rfl rfl rfl EV (fun b hb hlt => ?_)))
    refine sst_call tb_ok rfl rfl rfl rfl rfl EV AP (fun v _ _ => v = .bool ((leavesF x p).any (ordF op a))) ?_ ?_
    · exact fun w1 h1 => c175 _ op p a al n _ _ w1 _ _ _ _ (hp0.kp (hk23.then h1.kp)) (hr'.kp h1.kp)
    rintro v w4 w5 h4 hk5 rfl
    (repeat' (first | refine G0 ?_ | refine sst_box rfl rfl rfl rfl rfl (fun b hb hlt => ?_) | refine sst_alloc tb_ok rfl rfl rfl EV (fun b hb hlt => ?_)))
    refine sq_ret tb_ok rfl EV (fun w' hk hr => ?_)
    exact ⟨_, rfl, ((hk23.then h4.kp).then hk5).then hk, rfl⟩
  have ho5 : ¬ op = 5 := by simpa using h
  (repeat' (first | refine G0 ?_ | refine sst_box rfl rfl rfl rfl rfl (fun b hb hlt => ?_) | refine sst_alloc tb_ok rfl rfl rfl EV (fun b hb hlt => ?_)))
  refine swp_if rfl (fun h => ?_) (fun h => ?_)
  · have ho : op = 4 ∨ op = 5 ∨ op = 6 ∨ op = 7 := by simp at h; omega
    rw [if_pos ho]
    (repeat' (first | refine G0 ?_ | refine sst_box rfl rfl rfl rfl rfl (fun b hb hlt => ?_) | refine sst_alloc tb_ok rfl rfl rfl EV (fun b hb hlt => ?_)))
    refine sst_call tb_ok rfl rfl rfl rfl rfl EV AP (fun v _ _ => v = .bool ((leavesF x p).any (ordF op a))) ?_ ?_
    · exact fun w1 h1 => c175 _ op p a al n _ _ w1 _ _ _ _ (hp0.kp (hk23.then h1.kp)) (hr'.kp h1.kp)
    rintro v w4 w5 h4 hk5 rfl
    (repeat' (first | refine G0 ?_ | refine sst_box rfl rfl rfl rfl rfl (fun b hb hlt => ?_) | refine sst_alloc tb_ok rfl rfl rfl EV (fun b hb hlt => ?_)))
    refine sq_ret tb_ok rfl EV (fun w' hk hr => ?_)
    exact ⟨_, rfl, ((hk23.then h4.kp).then hk5).then hk, rfl⟩
  have ho6 : ¬ op = 6 := by simpa using h
  (repeat' (first | refine G0 ?_ | refine sst_box rfl rfl rfl rfl rfl (fun b hb hlt => ?_) | refine sst_alloc tb_ok rfl rfl rfl EV (fun b hb hlt => ?_)))
  refine swp_if rfl (fun h => ?_) (fun h => ?_)
  · have ho : op = 4 ∨ op = 5 ∨ op = 6 ∨ op = 7 := by simp at h; omega
    rw [if_pos ho]
    (repeat' (first | refine G0 ?_ | refine sst_box rfl rfl rfl rfl rfl (fun b hb hlt => ?_) | refine sst_alloc tb_ok rfl rfl rfl EV (fun b hb hlt => ?_)))
    refine sst_call tb_ok rfl rfl rfl rfl rfl EV AP (fun v _ _ => v = .bool ((leavesF x p).any (ordF op a))) ?_ ?_
    · exact fun w1 h1 => c175 _ op p a al n _ _ w1 _ _ _ _ (hp0.kp (hk23.then h1.kp)) (hr'.kp h1.kp)
    rintro v w4 w5 h4 hk5 rfl
    (repeat' (first | refine G0 ?_ | refine sst_box rfl rfl rfl rfl rfl (fun b hb hlt => ?_) | refine sst_alloc tb_ok rfl rfl rfl EV (fun b hb hlt => ?_)))
    refine sq_ret tb_ok rfl EV (fun w' hk hr => ?_)
    exact ⟨_, rfl, ((hk23.then h4.kp).then hk5).then hk, rfl⟩
  have ho7 : ¬ op = 7 := by simpa using h
  rw [if_neg (by omega)]
  (repeat' (first | refine G0 ?_ | refine sst_box rfl rfl rfl rfl rfl (fun b hb hlt => ?_) | refine sst_alloc tb_ok rfl rfl rfl EV (fun b hb hlt => ?_)))
  refine swp_if rfl (fun h => ?_) (fun h => ?_)
  · have ho : op = 8 := by simpa using h
    rw [if_pos ho]
    (repeat' (first | refine G0 ?_ | refine sst_box rfl rfl rfl rfl rfl (fun b hb hlt => ?_) | refine sst_alloc tb_ok rfl rfl rfl EV (fun b hb hlt => ?_)))
    refine sst_call tb_ok rfl rfl rfl rfl rfl EV AP (fun v _ _ => v = .bool (al.any fun z => (leavesF x p).any fun y => eqN y z)) ?_ ?_
    · exact fun w1 h1 => c167 al _ _ w1 _ _ _ _ (hargs.kp (hk23.then h1.kp)) ⟨173, [_], rfl, rfl, fun w2 h2 S2 y cs hy => c173 y _ S2 _ w2 cs _ _ _ _ hy (hr'.kp (h1.kp.then h2)) ((RowAt.ofBox (h1.loc _ (List.mem_cons_of_mem _ (List.mem_cons_of_mem _ List.mem_cons_self)))).kp h2 id).head⟩
    rintro v w4 w5 h4 hk5 rfl
    (repeat' (first | refine G0 ?_ | refine sst_box rfl rfl rfl rfl rfl (fun b hb hlt => ?_) | refine sst_alloc tb_ok rfl rfl rfl EV (fun b hb hlt => ?_)))
    refine sq_ret tb_ok rfl EV (fun w' hk hr => ?_)
    exact ⟨_, rfl, ((hk23.then h4.kp).then hk5).then hk, rfl⟩
  have ho8 : ¬ op = 8 := by simpa using h
  rw [if_neg ho8]
  (repeat' (first | refine G0 ?_ | refine sst_box rfl rfl rfl rfl rfl (fun b hb hlt => ?_) | refine sst_alloc tb_ok rfl rfl rfl EV (fun b hb hlt => ?_)))
  refine swp_if rfl (fun h => ?_) (fun h => ?_)
  · have ho : op = 9 := by simpa using h
    rw [if_pos ho]
    (repeat' (first | refine G0 ?_ | refine sst_box rfl rfl rfl rfl rfl (fun b hb hlt => ?_) | refine sst_alloc tb_ok rfl rfl rfl EV (fun b hb hlt => ?_)))
    refine sst_call tb_ok rfl rfl rfl rfl rfl EV AP (fun v _ _ => v = .bool (al.any fun z => (leavesF x p).any fun y => eqN y z)) ?_ ?_
    · exact fun w1 h1 => c167 al _ _ w1 _ _ _ _ (hargs.kp (hk23.then h1.kp)) ⟨173, [_], rfl, rfl, fun w2 h2 S2 y cs hy => c173 y _ S2 _ w2 cs _ _ _ _ hy (hr'.kp (h1.kp.then h2)) ((RowAt.ofBox (h1.loc _ (List.mem_cons_of_mem _ (List.mem_cons_of_mem _ List.mem_cons_self)))).kp h2 id).head⟩
    rintro v w4 w5 h4 hk5 rfl
    (repeat' (first | refine G0 ?_ | refine sst_box rfl rfl rfl rfl rfl (fun b hb hlt => ?_) | refine sst_alloc tb_ok rfl rfl rfl EV (fun b hb hlt => ?_)))
    refine sq_ret tb_ok rfl EV (fun w' hk hr => ?_)
    exact ⟨_, rfl, ((hk23.then h4.kp).then hk5).then hk, rfl⟩
  have ho9 : ¬ op = 9 := by simpa using h
  rw [if_neg ho9]
  (repeat' (first | refine G0 ?_ | refine sst_box rfl rfl rfl rfl rfl (fun b hb hlt => ?_) | refine sst_alloc tb_ok rfl rfl rfl EV (fun b hb hlt => ?_)))
  refine swp_if rfl (fun h => ?_) (fun h => ?_)
  · have ho : op = 14 := by simpa using h
    rw [if_pos ho]
    (repeat' (first | refine G0 ?_ | refine sst_box rfl rfl rfl rfl rfl (fun b hb hlt => ?_) | refine sst_alloc tb_ok rfl rfl rfl EV (fun b hb hlt => ?_)))
    refine sst_call tb_ok rfl rfl rfl rfl rfl EV AP (fun v _ _ => v = .bool (al.any fun z => !((leavesF x p).any fun y => eqN y z))) ?_ ?_
    · intro w1 h1
      refine c167 al _ _ w1 _ _ _ _ (hargs.kp (hk23.then h1.kp)) ⟨176, [_], rfl, rfl, fun w2 h2 S2 y cs hy => ?_⟩
      refine c176 y (fun z => (leavesF x p).any fun y => eqN y z) S2 w2 cs _ _ hy ?_ ((RowAt.ofBox (h1.loc _ (List.mem_cons_of_mem _ (List.mem_cons_of_mem _ (List.mem_cons_of_mem _ List.mem_cons_self))))).kp h2 id).head
      refine FunC.kp (w := w1) ?_ h2
      exact ⟨173, [_], rfl, rfl, fun w3' h3 S2 y cs hy => c173 y _ S2 _ w3' cs _ _ _ _ hy (hr'.kp (h1.kp.then h3)) ((RowAt.ofBox (h1.loc _ (List.mem_cons_of_mem _ (List.mem_cons_of_mem _ List.mem_cons_self)))).kp h3 id).head⟩
    rintro v w4 w5 h4 hk5 rfl
    (repeat' (first | refine G0 ?_ | refine sst_box rfl rfl rfl rfl rfl (fun b hb hlt => ?_) | refine sst_alloc tb_ok rfl rfl rfl EV (fun b hb hlt => ?_)))
    refine sq_ret tb_ok rfl EV (fun w' hk hr => ?_)
    exact ⟨_, rfl, ((hk23.then h4.kp).then hk5).then hk, rfl⟩
  have ho14 : ¬ op = 14 := by simpa using h
  rw [if_neg ho14]
  (repeat' (first | refine G0 ?_ | refine sst_box rfl rfl rfl rfl rfl (fun b hb hlt => ?_) | refine sst_alloc tb_ok rfl rfl rfl EV (fun b hb hlt => ?_)))
  have hleaf := hleaf ⟨h10, by omega, ho14⟩
  refine sst_call tb_ok rfl rfl rfl rfl rfl EV AP (fun v _ _ => v = .bool ((leavesF x p).any leaf)) ?_ ?_
  · intro w1 h1
    refine c167 _ _ _ w1 _ _ _ _ (hr'.kp h1.kp) ⟨177, [_], rfl, rfl, fun w2 h2 S2 y cs hy => ?_⟩
    exact c177 y leaf op p a al n S S2 w2 _ cs _ (hp0.kp (hk23.then (h1.kp.then h2))) hy ((RowAt.ofBox (h1.loc _ (List.mem_cons_self))).kp h2 id) (fun w5 hk5 => hleaf w5 ((hk23.then (h1.kp.then h2)).then hk5))
  rintro v w4 w5 h4 hk5 rfl
  (repeat' (first | refine G0 ?_ | refine sst_box rfl rfl rfl rfl rfl (fun b hb hlt => ?_) | refine sst_alloc tb_ok rfl rfl rfl EV (fun b hb hlt => ?_)))
  refine sq_ret tb_ok rfl EV (fun w' hk hr => ?_)
  exact ⟨_, rfl, ((hk23.then h4.kp).then hk5).then hk, rfl⟩
end Go.Fw

set_option linter.unusedVariables false
set_option linter.unusedSimpArgs false
set_option maxRecDepth 10000
set_option maxHeartbeats 2000000
namespace Go.Fw
open Go
attribute [local irreducible] SWp SQ SSeq SSt Quiet Next Meet
attribute [local irreducible] MeetX

/-- An operator that looks at the leaves of one path. -/
def opOK (op : Int) : Prop := op ≠ 1 ∧ op ≠ 13 ∧ op ≠ 15 ∧ op < 20

theorem LeafC.kp {w w' : World} {cs : List Value} {q : Val → Bool} (h : LeafC w cs q) (hk : Kp No w w') : LeafC w' cs q := fun w1 hk1 => h w1 (hk.trans hk1)

theorem c70 (x : Val) (leaf : Val → Bool) (op : Int) (p : List ByteArray) (a : Val) (al : List Val) (n : Int) (S S' : Nat → Prop) (w : World) (cs cx : List Value) (hp : PL S w op p a al n cs) (hx : RepV S' w x cx) (hlim : (leavesF x p).length * 80 ≤ LIM)
    (hop : opOK op) (hleaf : (op ≠ 10 ∧ ¬ (2 ≤ op ∧ op ≤ 9) ∧ op ≠ 14) → LeafC w cs leaf) :
    Calls Go.Proofs.Tryz.prog 70 #[.agg cs.toArray, .agg cx.toArray] w fun e w2 => ∃ v, e = .returned v ∧ Kp No w w2 ∧ v = .bool (onP leaf op p a al n x) := by
  have hp0 := hp
  obtain ⟨h1, h13, h15, h20⟩ := hop
  obtain ⟨A, m, c, B1, n1, B2, n2, A2, m2, c2, m', s0, S1, s1, s2, s3, x0, X1, x1, x2, x3, X4, x4, x5, x6, x7, x8, X9, x9, x10, X11, x11, x12, x13, X14, x14, x15, K, k1, k2, rfl, hpath, harg, hargs⟩ := hp.parts
  obtain ⟨B3, m3, B4, m4, rfl, -⟩ := hx.parts
  refine calls_intro (args := [_, _]) w.heap.size Go.Proofs.Tryz.func70 rfl Go.Proofs.Tryz.ntmps70 (by simp) (Nat.le_refl _) ?_
  (repeat' (first | refine G0 ?_ | refine sst_box rfl rfl rfl rfl rfl (fun b hb hlt => ?_) | refine sst_alloc tb_ok rfl rfl rfl EV (fun b hb hlt => ?_)))
  refine swp_if rfl (fun h => ?_) (fun h => ?_)
  · exact absurd (by simpa using h) h1
  (repeat' (first | refine G0 ?_ | refine sst_box rfl rfl rfl rfl rfl (fun b hb hlt => ?_) | refine sst_alloc tb_ok rfl rfl rfl EV (fun b hb hlt => ?_)))
  refine swp_if rfl (fun h => ?_) (fun h => ?_)
  · exact absurd (show op = 20 by simpa using h) (by omega)
  (repeat' (first | refine G0 ?_ | refine sst_box rfl rfl rfl rfl rfl (fun b hb hlt => ?_) | refine sst_alloc tb_ok rfl rfl rfl EV (fun b hb hlt => ?_)))
  refine swp_if rfl (fun h => ?_) (fun h => ?_)
  · exact absurd (show op = 21 by simpa using h) (by omega)
  (repeat' (first | refine G0 ?_ | refine sst_box rfl rfl rfl rfl rfl (fun b hb hlt => ?_) | refine sst_alloc tb_ok rfl rfl rfl EV (fun b hb hlt => ?_)))
  refine swp_if rfl (fun h => ?_) (fun h => ?_)
  · exact absurd (show op = 22 by simpa using h) (by omega)
  (repeat' (first | refine G0 ?_ | refine sst_box rfl rfl rfl rfl rfl (fun b hb hlt => ?_) | refine sst_alloc tb_ok rfl rfl rfl EV (fun b hb hlt => ?_)))
  refine swp_if rfl (fun h => ?_) (fun h => ?_)
  · exact absurd (show op = 23 by simpa using h) (by omega)
  (repeat' (first | refine G0 ?_ | refine sst_box rfl rfl rfl rfl rfl (fun b hb hlt => ?_) | refine sst_alloc tb_ok rfl rfl rfl EV (fun b hb hlt => ?_)))
  refine swp_if rfl (fun h => ?_) (fun h => ?_)
  · exact absurd (show op = 24 by simpa using h) (by omega)
  (repeat' (first | refine G0 ?_ | refine sst_box rfl rfl rfl rfl rfl (fun b hb hlt => ?_) | refine sst_alloc tb_ok rfl rfl rfl EV (fun b hb hlt => ?_)))
  refine sst_call tb_ok rfl rfl rfl rfl rfl EV AP (fun v _ _ => v = .bool (onP leaf op p a al n x)) ?_ ?_
  · exact fun w1 h1 => c124 x leaf op p a al n _ _ w1 _ _ (hp0.kp h1.kp) (hx.kp h1.kp) hlim h13 h15 (fun h => (hleaf h).kp h1.kp)
  rintro v w2 w3 h2 hk3 rfl
  (repeat' (first | refine G0 ?_ | refine sst_box rfl rfl rfl rfl rfl (fun b hb hlt => ?_) | refine sst_alloc tb_ok rfl rfl rfl EV (fun b hb hlt => ?_)))
  refine sq_ret tb_ok rfl EV (fun w' hk hr => ?_)
  exact ⟨_, rfl, (h2.kp.then hk3).then hk, rfl⟩

theorem c23 (x : Val) (leaf : Val → Bool) (op : Int) (p : List ByteArray) (a : Val) (al : List Val) (n : Int) (S S' : Nat → Prop) (w : World) (cs cx : List Value) (hp : PL S w op p a al n cs) (hx : RepV S' w x cx) (hlim : (leavesF x p).length * 80 ≤ LIM)
    (hop : opOK op) (hleaf : (op ≠ 10 ∧ ¬ (2 ≤ op ∧ op ≤ 9) ∧ op ≠ 14) → LeafC w cs leaf) :
    Calls Go.Proofs.Tryz.prog 23 #[.agg cs.toArray, .agg cx.toArray] w fun e w2 => ∃ v, e = .returned v ∧ Kp No w w2 ∧ v = .bool (x.k == 5 && onP leaf op p a al n x) := by
  have hp0 := hp
  obtain ⟨A, m, c, B1, n1, B2, n2, A2, m2, c2, m', s0, S1, s1, s2, s3, x0, X1, x1, x2, x3, X4, x4, x5, x6, x7, x8, X9, x9, x10, X11, x11, x12, x13, X14, x14, x15, K, k1, k2, rfl, hpath, harg, hargs⟩ := hp.parts
  obtain ⟨B3, m3, B4, m4, rfl, -⟩ := hx.parts
  refine calls_intro (args := [_, _]) w.heap.size Go.Proofs.Tryz.func23 rfl Go.Proofs.Tryz.ntmps23 (by simp) (Nat.le_refl _) ?_
  (repeat' (first | refine G0 ?_ | refine sst_box rfl rfl rfl rfl rfl (fun b hb hlt => ?_) | refine sst_alloc tb_ok rfl rfl rfl EV (fun b hb hlt => ?_)))
  refine sst_guard rfl rfl rfl (fun h => ?_) (fun h => ?_)
  · (repeat' (first | refine G0 ?_ | refine sst_box rfl rfl rfl rfl rfl (fun b hb hlt => ?_) | refine sst_alloc tb_ok rfl rfl rfl EV (fun b hb hlt => ?_)))
    refine sst_call tb_ok rfl rfl rfl rfl rfl EV AP (fun v _ _ => v = .bool (onP leaf op p a al n x)) ?_ ?_
    · exact fun w1 h1 => c70 x leaf op p a al n _ _ w1 _ _ (hp0.kp h1.kp) (hx.kp h1.kp) hlim hop (fun h => (hleaf h).kp h1.kp)
    rintro v w2 w3 h2 hk3 rfl
    (repeat' (first | refine G0 ?_ | refine sst_box rfl rfl rfl rfl rfl (fun b hb hlt => ?_) | refine sst_alloc tb_ok rfl rfl rfl EV (fun b hb hlt => ?_)))
    refine sq_ret tb_ok rfl EV (fun w' hk hr => ?_)
    exact ⟨_, rfl, (h2.kp.then hk3).then hk, by rw [h]; rfl⟩
  (repeat' (first | refine G0 ?_ | refine sst_box rfl rfl rfl rfl rfl (fun b hb hlt => ?_) | refine sst_alloc tb_ok rfl rfl rfl EV (fun b hb hlt => ?_)))
  refine sq_ret tb_ok rfl EV (fun w' hk hr => ?_)
  exact ⟨_, rfl, hk, by rw [h]; rfl⟩

theorem c69 (x : Val) (leaf : Val → Bool) (op : Int) (p : List ByteArray) (a : Val) (al : List Val) (n : Int) (S S' : Nat → Prop) (w : World) (cs cx : List Value) (hp : PL S w op p a al n cs) (hx : RepV S' w x cx) (hlim : (leavesF x p).length * 80 ≤ LIM)
    (hop : opOK op) (hleaf : (op ≠ 10 ∧ ¬ (2 ≤ op ∧ op ≤ 9) ∧ op ≠ 14) → LeafC w cs leaf) :
    Calls Go.Proofs.Tryz.prog 69 #[.agg cs.toArray, .agg cx.toArray] w fun e w2 => ∃ v, e = .returned v ∧ Kp No w w2 ∧ v = .bool (onP leaf op p a al n x) := by
  have hp0 := hp
  obtain ⟨A, m, c, B1, n1, B2, n2, A2, m2, c2, m', s0, S1, s1, s2, s3, x0, X1, x1, x2, x3, X4, x4, x5, x6, x7, x8, X9, x9, x10, X11, x11, x12, x13, X14, x14, x15, K, k1, k2, rfl, hpath, harg, hargs⟩ := hp.parts
  obtain ⟨B3, m3, B4, m4, rfl, -⟩ := hx.parts
  refine calls_intro (args := [_, _]) w.heap.size Go.Proofs.Tryz.func69 rfl Go.Proofs.Tryz.ntmps69 (by simp) (Nat.le_refl _) ?_
  (repeat' (first | refine G0 ?_ | refine sst_box rfl rfl rfl rfl rfl (fun b hb hlt => ?_) | refine sst_alloc tb_ok rfl rfl rfl EV (fun b hb hlt => ?_)))
  refine sst_call tb_ok rfl rfl rfl rfl rfl EV AP (fun v _ _ => v = .bool (onP leaf op p a al n x)) ?_ ?_
  · exact fun w1 h1 => c70 x leaf op p a al n _ _ w1 _ _ (hp0.kp h1.kp) (hx.kp h1.kp) hlim hop (fun h => (hleaf h).kp h1.kp)
  rintro v w2 w3 h2 hk3 rfl
  (repeat' (first | refine G0 ?_ | refine sst_box rfl rfl rfl rfl rfl (fun b hb hlt => ?_) | refine sst_alloc tb_ok rfl rfl rfl EV (fun b hb hlt => ?_)))
  refine sq_ret tb_ok rfl EV (fun w' hk hr => ?_)
  exact ⟨_, rfl, (h2.kp.then hk3).then hk, rfl⟩

theorem c68 (i : Int) (hi : inI i) (w : World) : Calls Go.Proofs.Tryz.prog 68 #[.int .i64 i] w fun e w2 => ∃ v, e = .returned v ∧ Kp No w w2 ∧ v = .agg #[.int .i64 3, .int .i64 i, .string ⟨#[]⟩, .slice none 0 0, .slice none 0 0] := by
  refine calls_intro (args := [_]) w.heap.size Go.Proofs.Tryz.func68 rfl Go.Proofs.Tryz.ntmps68 (by simp) (Nat.le_refl _) ?_
  (repeat' (first | refine G0 ?_ | refine sst_box rfl rfl rfl rfl rfl (fun b hb hlt => ?_) | refine sst_alloc tb_ok rfl rfl rfl EV (fun b hb hlt => ?_)))
  refine sq_ret tb_ok rfl EV (fun w' hk hr => ?_)
  exact ⟨_, rfl, hk, rfl⟩

theorem c26 (A : Option Addr) (n c : Nat) (w : World) : Calls Go.Proofs.Tryz.prog 26 #[.slice A n c] w fun e w2 => ∃ v, e = .returned v ∧ Kp No w w2 ∧ v = .agg #[.int .i64 6, .int .i64 0, .string ⟨#[]⟩, .slice A n c, .slice none 0 0] := by
  refine calls_intro (args := [_]) w.heap.size Go.Proofs.Tryz.func26 rfl Go.Proofs.Tryz.ntmps26 (by simp) (Nat.le_refl _) ?_
  (repeat' (first | refine G0 ?_ | refine sst_box rfl rfl rfl rfl rfl (fun b hb hlt => ?_) | refine sst_alloc tb_ok rfl rfl rfl EV (fun b hb hlt => ?_)))
  refine sq_ret tb_ok rfl EV (fun w' hk hr => ?_)
  exact ⟨_, rfl, hk, rfl⟩

theorem c24 (s : ByteArray) (w : World) : Calls Go.Proofs.Tryz.prog 24 #[.string s] w fun e w2 => ∃ v, e = .returned v ∧ Kp No w w2 ∧ v = .agg #[.int .i64 4, .int .i64 0, .string s, .slice none 0 0, .slice none 0 0] := by
  refine calls_intro (args := [_]) w.heap.size Go.Proofs.Tryz.func24 rfl Go.Proofs.Tryz.ntmps24 (by simp) (Nat.le_refl _) ?_
  (repeat' (first | refine G0 ?_ | refine sst_box rfl rfl rfl rfl rfl (fun b hb hlt => ?_) | refine sst_alloc tb_ok rfl rfl rfl EV (fun b hb hlt => ?_)))
  refine sq_ret tb_ok rfl EV (fun w' hk hr => ?_)
  exact ⟨_, rfl, hk, rfl⟩
end Go.Fw

set_option linter.unusedVariables false
set_option linter.unusedSimpArgs false
set_option maxRecDepth 10000
set_option maxHeartbeats 2000000
namespace Go.Fw
open Go
attribute [local irreducible] SWp SQ SSeq SSt Quiet Next Meet
attribute [local irreducible] MeetX

def dvals (d : List (ByteArray × Val)) : List Val := d.map (·.2)
def partsF (x : Val) : List Val := (if x.k = 6 then x.l else []) ++ (if x.k = 5 then dvals x.d else [])

theorem byt4 {a c : Nat} (hc : c < a) (h : a * 80 ≤ 140737488351232) : (c + 1) * 80 ≤ 140737488355328 :=
  Nat.le_trans (Nat.mul_le_mul_right 80 (by omega : c + 1 ≤ a)) (Nat.le_trans h (by decide))
theorem byt5 {a c : Nat} (hc : c < a) (h : a * 96 ≤ 140737488351232) : (c + 1) * 80 ≤ 140737488355328 :=
  Nat.le_trans (Nat.mul_le_mul (by omega : c + 1 ≤ a) (by decide : 80 ≤ 96)) (Nat.le_trans h (by decide))

theorem partsF_6 {x : Val} (h : x.k = 6) : partsF x = x.l := by
  unfold partsF; rw [if_pos h, if_neg (by omega), List.append_nil]
theorem partsF_5 {x : Val} (h : x.k = 5) : partsF x = dvals x.d := by
  unfold partsF; rw [if_neg (by omega), if_pos h, List.nil_append]
theorem partsF_0 {x : Val} (h : x.k ≠ 6) (h2 : x.k ≠ 5) : partsF x = [] := by
  unfold partsF; rw [if_neg h, if_neg h2]; rfl

theorem c207 (x : Val) (S : Nat → Prop) (w : World) (cs : List Value) (hx : RepV S w x cs) :
    Calls Go.Proofs.Tryz.prog 207 #[.agg cs.toArray] w fun e w2 => ∃ v, e = .returned v ∧ Kp No w w2 ∧ ∃ A c, v = .slice A (partsF x).length c ∧ RepS (fun _ => True) w2 A (partsF x).length c (partsF x) := by
  obtain ⟨A1, c1, A2, c2, rfl, hxk, hxn, hxt, hl, hd⟩ := hx.parts
  have hlb := hl.2.1
  have hdb := hd.2.1
  rw [LIM_eq] at hlb hdb
  refine calls_intro (args := [_]) w.heap.size Go.Proofs.Tryz.func207 rfl Go.Proofs.Tryz.ntmps207 (by simp) (Nat.le_refl _) ?_
  refine swp_nilRow 26 5 ?_
  (repeat' (first | refine G0 ?_ | refine sst_box rfl rfl rfl rfl rfl (fun b hb hlt => ?_) | refine sst_alloc tb_ok rfl rfl rfl EV (fun b hb hlt => ?_)))
  refine swp_if rfl (fun h6 => ?_) (fun h6 => ?_)
  · have h6 : x.k = 6 := by simpa using h6
    rw [partsF_6 h6]
    (repeat' (first | refine G0 ?_ | refine sst_box rfl rfl rfl rfl rfl (fun b hb hlt => ?_) | refine sst_alloc tb_ok rfl rfl rfl EV (fun b hb hlt => ?_)))
    refine swp_loop (X := World × Nat × Value × List Value) (fun y => Kp No w y.1 ∧ y.2.1 ≤ x.l.length ∧ OwnL w.heap.size y.1 y.2.2.1 (x.l.take y.2.1) y.2.2.2 ∧ ∀ g, y.2.2.1.ownBlock = some g → w.heap.size ≤ g)
      (fun y => ⟨44, [(4, .val (.int .i64 (y.2.1 : Int))), (3, .val y.2.2.1), (1, .loc 0 0)], [⟨b, 26, [.int .i64 x.k, .int .i64 x.n, .string x.t, .slice A1 x.l.length c1, .slice A2 x.d.length c2], false⟩],
        [⟨y.2.2.1, 26, 5, (x.l.take y.2.1).length, y.2.2.2, false⟩], w.heap.size, y.1, No⟩) (fun y => x.l.length - y.2.1) ?_ ?_
    · intro w1 h1
      refine ⟨(w1, 0, .slice none 0 0, []), ⟨h1.kp, Nat.zero_le _, by simpa using OwnL.nil _ _, by simp [Value.ownBlock]⟩, ?_⟩
      simp only [List.take_zero]
      (refine WKmk ?_; try trivial)
    rintro ⟨w1, i, v, ys⟩ ⟨hk1, hi, hov, hvb⟩
    simp only at hk1 hi hov hvb
    (repeat' (first | refine G0 ?_ | refine sst_box rfl rfl rfl rfl rfl (fun b hb hlt => ?_) | refine sst_alloc tb_ok rfl rfl rfl EV (fun b hb hlt => ?_)))
    refine swp_if rfl (fun h7 => ?_) (fun h7 => ?_)
    · have hi : i < x.l.length := by simp at h7; omega
      obtain ⟨y, hy⟩ := get_of_lt hi
      obtain ⟨yb, yoff, ycs, rfl, hyS, hyin, hyl, hyrow, hyr⟩ := hl.get hy
      obtain ⟨B1, m1, B2, m2, rfl, -⟩ := hyr.parts
      have hlen : (x.l.take i).length = i := by rw [List.length_take]; omega
      have hby : ((x.l.take i).length + 1) * 80 ≤ 140737488355328 := by rw [hlen]; exact byt4 hi hlb
      (repeat' (first | refine G0 ?_ | refine sst_box rfl rfl rfl rfl rfl (fun b hb hlt => ?_) | refine sst_alloc tb_ok rfl rfl rfl EV (fun b hb hlt => ?_)))
      refine sst_quiet rfl rfl (q_index tb_ok rfl el_23 rfl rfl i rfl hyin) ?_
      (repeat' (first | refine G0 ?_ | refine sst_box rfl rfl rfl rfl rfl (fun b hb hlt => ?_) | refine sst_alloc tb_ok rfl rfl rfl EV (fun b hb hlt => ?_)))
      refine sst_quiet rfl rfl (q_far_agg tb_ok rfl sz_26 rfl id hyl (hyrow.kp hk1 id)) ?_
      (repeat' (first | refine G0 ?_ | refine sst_box rfl rfl rfl rfl rfl (fun b hb hlt => ?_) | refine sst_alloc tb_ok rfl rfl rfl EV (fun b hb hlt => ?_)))
      refine sst_buildSlice tb_ok rfl rfl rfl EV EV (by rfl) EV (by rfl) (by omega) (by simp) (fun g hg hgl => ?_)
      (repeat' (first | refine G0 ?_ | refine sst_box rfl rfl rfl rfl rfl (fun b hb hlt => ?_) | refine sst_alloc tb_ok rfl rfl rfl EV (fun b hb hlt => ?_)))
      refine sst_append_row tb_ok rfl rfl rfl rfl EV 0 rfl rfl rfl rfl 1 rfl rfl rfl rfl (by rfl) (by rfl) (by exact hby) (fun v' hv' hb' => ?_)
      obtain ⟨a', e', rfl⟩ := hv'
      (repeat' (first | refine G0 ?_ | refine sst_box rfl rfl rfl rfl rfl (fun b hb hlt => ?_) | refine sst_alloc tb_ok rfl rfl rfl EV (fun b hb hlt => ?_)))
      refine sq_next fun w4 h4 => ?_
      have h5 := OwnL.push (w4 := w4) (y := y) hov hvb hk1 (h4.kp.mono fun k _ h => h.elim id False.elim) (h4.row _ (List.mem_cons_self)) (hb'.imp id (fun ⟨g, h1, h2, _⟩ => ⟨g, h1, h2⟩)) (hyr.to hk1 (S' := fun b => b < w.heap.size) fun b _ hlt => ⟨id, hlt⟩)
        (fun b hb _ e => by have := hvb b e; omega)
      refine ⟨(w4, i + 1, _, _), ⟨h5.2.2, by simp; omega, by simp only [take_snoc hy]; exact h5.1, h5.2.1⟩, by simp; omega, ?_⟩
      simp only [take_snoc hy]
      rw [List.length_append (bs := [y])]
      simp only [List.length_cons, List.length_nil, Nat.zero_add]
      (refine WKmk ?_; try trivial)
      rw [wr_small (by omega)]
      simp
    · have hie : i = x.l.length := by simp at h7; omega
      subst hie
      rw [List.take_length] at hov ⊢
      (repeat' (first | refine G0 ?_ | refine sst_box rfl rfl rfl rfl rfl (fun b hb hlt => ?_) | refine sst_alloc tb_ok rfl rfl rfl EV (fun b hb hlt => ?_)))
      refine swp_if rfl (fun h => ?_) (fun h => ?_)
      · exfalso; simp [h6] at h
      (repeat' (first | refine G0 ?_ | refine sst_box rfl rfl rfl rfl rfl (fun b hb hlt => ?_) | refine sst_alloc tb_ok rfl rfl rfl EV (fun b hb hlt => ?_)))
      refine sq_ret tb_ok rfl EV (fun w' hk hr => ?_)
      obtain ⟨A4, c4, h4, h5⟩ := (hov.kp hk).rep hl.2.1
      exact ⟨_, rfl, hk1.then hk, _, _, h4, h5⟩
  have h6 : x.k ≠ 6 := by simpa using h6
  (repeat' (first | refine G0 ?_ | refine sst_box rfl rfl rfl rfl rfl (fun b hb hlt => ?_) | refine sst_alloc tb_ok rfl rfl rfl EV (fun b hb hlt => ?_)))
  refine swp_if rfl (fun h5 => ?_) (fun h5 => ?_)
  · have h5 : x.k = 5 := by simpa using h5
    rw [partsF_5 h5]
    have hdl : (dvals x.d).length = x.d.length := by simp [dvals]
    (repeat' (first | refine G0 ?_ | refine sst_box rfl rfl rfl rfl rfl (fun b hb hlt => ?_) | refine sst_alloc tb_ok rfl rfl rfl EV (fun b hb hlt => ?_)))
    refine swp_loop (X := World × Nat × Value × List Value) (fun y => Kp No w y.1 ∧ y.2.1 ≤ x.d.length ∧ OwnL w.heap.size y.1 y.2.2.1 ((dvals x.d).take y.2.1) y.2.2.2 ∧ ∀ g, y.2.2.1.ownBlock = some g → w.heap.size ≤ g)
      (fun y => ⟨44, [(5, .val (.int .i64 (y.2.1 : Int))), (3, .val y.2.2.1), (1, .loc 0 0)], [⟨b, 26, [.int .i64 x.k, .int .i64 x.n, .string x.t, .slice A1 x.l.length c1, .slice A2 x.d.length c2], false⟩],
        [⟨y.2.2.1, 26, 5, ((dvals x.d).take y.2.1).length, y.2.2.2, false⟩], w.heap.size, y.1, No⟩) (fun y => x.d.length - y.2.1) ?_ ?_
    · intro w1 h1
      refine ⟨(w1, 0, .slice none 0 0, []), ⟨h1.kp, Nat.zero_le _, by simpa using OwnL.nil _ _, by simp [Value.ownBlock]⟩, ?_⟩
      simp only [List.take_zero]
      (refine WKmk ?_; try trivial)
    rintro ⟨w1, i, v, ys⟩ ⟨hk1, hi, hov, hvb⟩
    simp only at hk1 hi hov hvb
    (repeat' (first | refine G0 ?_ | refine sst_box rfl rfl rfl rfl rfl (fun b hb hlt => ?_) | refine sst_alloc tb_ok rfl rfl rfl EV (fun b hb hlt => ?_)))
    refine swp_if rfl (fun h7 => ?_) (fun h7 => ?_)
    · have hi : i < x.d.length := by simp at h7; omega
      obtain ⟨f, hf⟩ := get_of_lt hi
      have hy : (dvals x.d)[i]? = some f.2 := by simp [dvals, hf]
      obtain ⟨yb, yoff, ycs, rfl, hyS, hyin, hyl, hyrow, hyr, hys⟩ := hd.get hf
      obtain ⟨B1, m1, B2, m2, rfl, -⟩ := hyr.parts
      have hlen : ((dvals x.d).take i).length = i := by rw [List.length_take]; omega
      have hby : (((dvals x.d).take i).length + 1) * 80 ≤ 140737488355328 := by rw [hlen]; exact byt5 hi hdb
      (repeat' (first | refine G0 ?_ | refine sst_box rfl rfl rfl rfl rfl (fun b hb hlt => ?_) | refine sst_alloc tb_ok rfl rfl rfl EV (fun b hb hlt => ?_)))
      refine sst_quiet rfl rfl (q_index tb_ok rfl el_24 rfl rfl i rfl hyin) ?_
      (repeat' (first | refine G0 ?_ | refine sst_box rfl rfl rfl rfl rfl (fun b hb hlt => ?_) | refine sst_alloc tb_ok rfl rfl rfl EV (fun b hb hlt => ?_)))
      refine sst_quiet rfl rfl (q_far_agg tb_ok rfl sz_26 rfl id hyl (hyrow.tail.kp hk1 id)) ?_
      (repeat' (first | refine G0 ?_ | refine sst_box rfl rfl rfl rfl rfl (fun b hb hlt => ?_) | refine sst_alloc tb_ok rfl rfl rfl EV (fun b hb hlt => ?_)))
      refine sst_buildSlice tb_ok rfl rfl rfl EV EV (by rfl) EV (by rfl) (by omega) (by simp) (fun g hg hgl => ?_)
      (repeat' (first | refine G0 ?_ | refine sst_box rfl rfl rfl rfl rfl (fun b hb hlt => ?_) | refine sst_alloc tb_ok rfl rfl rfl EV (fun b hb hlt => ?_)))
      refine sst_append_row tb_ok rfl rfl rfl rfl EV 0 rfl rfl rfl rfl 1 rfl rfl rfl rfl (by rfl) (by rfl) (by exact hby) (fun v' hv' hb' => ?_)
      obtain ⟨a', e', rfl⟩ := hv'
      (repeat' (first | refine G0 ?_ | refine sst_box rfl rfl rfl rfl rfl (fun b hb hlt => ?_) | refine sst_alloc tb_ok rfl rfl rfl EV (fun b hb hlt => ?_)))
      refine sq_next fun w4 h4 => ?_
      have h5 := OwnL.push (w4 := w4) (y := f.2) hov hvb hk1 (h4.kp.mono fun k _ h => h.elim id False.elim) (h4.row _ (List.mem_cons_self)) (hb'.imp id (fun ⟨g, h1, h2, _⟩ => ⟨g, h1, h2⟩)) (hyr.to hk1 (S' := fun b => b < w.heap.size) fun b _ hlt => ⟨id, hlt⟩)
        (fun b hb _ e => by have := hvb b e; omega)
      refine ⟨(w4, i + 1, _, _), ⟨h5.2.2, by simp; omega, by simp only [take_snoc hy]; exact h5.1, h5.2.1⟩, by simp; omega, ?_⟩
      simp only [take_snoc hy]
      rw [List.length_append (bs := [f.2])]
      simp only [List.length_cons, List.length_nil, Nat.zero_add]
      (refine WKmk ?_; try trivial)
      rw [wr_small (by omega)]
      simp
    · have hie : i = (dvals x.d).length := by simp at h7; omega
      subst hie
      rw [List.take_length] at hov ⊢
      (repeat' (first | refine G0 ?_ | refine sst_box rfl rfl rfl rfl rfl (fun b hb hlt => ?_) | refine sst_alloc tb_ok rfl rfl rfl EV (fun b hb hlt => ?_)))
      refine sq_ret tb_ok rfl EV (fun w' hk hr => ?_)
      obtain ⟨A4, c4, h4, h5⟩ := (hov.kp hk).rep (by rw [hdl, LIM_eq]; omega)
      exact ⟨_, rfl, hk1.then hk, _, _, h4, h5⟩
  have h5 : x.k ≠ 5 := by simpa using h5
  rw [partsF_0 h6 h5]
  (repeat' (first | refine G0 ?_ | refine sst_box rfl rfl rfl rfl rfl (fun b hb hlt => ?_) | refine sst_alloc tb_ok rfl rfl rfl EV (fun b hb hlt => ?_)))
  refine sq_ret tb_ok rfl EV (fun w' hk hr => ?_)
  exact ⟨_, rfl, hk, _, _, rfl, RepS.nil _ _ _ _⟩

theorem sizeOf_part {x y : Val} (h : y ∈ partsF x) : SizeOf.sizeOf y < SizeOf.sizeOf x := by
  unfold partsF at h
  rw [List.mem_append] at h
  rcases h with h | h
  · split at h
    · exact sizeOf_mem h
    · cases h
  · split at h
    · simp only [dvals, List.mem_map] at h
      obtain ⟨f, hf, rfl⟩ := h
      obtain ⟨k, n, t, l, d⟩ := x
      exact sizeOf_d hf
    · cases h
end Go.Fw
