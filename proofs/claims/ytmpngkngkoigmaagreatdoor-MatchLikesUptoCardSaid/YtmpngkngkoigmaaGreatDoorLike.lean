/- Helping lemmas for the cards of this seat's laws, of the texts: V10, W27, V11, W28, W29. They state no law of their own. -/
import Derived.Test.YtmpngkngkoigmaaGreatDoorKitC
import Derived.Test.YtmpngkngkoigmaaGreatDoorPos
import Derived.Test.YtmpngkngkoigmaaGreatDoorOrdb
set_option linter.unusedVariables false
set_option linter.unusedSimpArgs false
namespace Go.Fw
open Go
/-- A pattern with * and ? matches a string. -/
def glob (p s : List UInt8) : Bool :=
  match p with
  | [] => s.isEmpty
  | c :: q => if c = 42 then (glob q s || match s with | [] => false | _ :: t => glob (c :: q) t) else match s with | [] => false | x :: t => (c == 63 || c == x) && glob q t
  termination_by p.length + s.length

theorem glob_nil (s : List UInt8) : glob [] s = s.isEmpty := by rw [glob]
theorem glob_star_nil (q : List UInt8) : glob (42 :: q) [] = glob q [] := by rw [glob]; simp
theorem glob_star_cons (q : List UInt8) (x : UInt8) (t : List UInt8) : glob (42 :: q) (x :: t) = (glob q (x :: t) || glob (42 :: q) t) := by
  rw [glob]; simp
theorem glob_lit_nil {c : UInt8} (q : List UInt8) (h : c ≠ 42) : glob (c :: q) [] = false := by rw [glob]; simp [h]
theorem glob_lit_cons {c : UInt8} (q : List UInt8) (x : UInt8) (t : List UInt8) (h : c ≠ 42) : glob (c :: q) (x :: t) = ((c == 63 || c == x) && glob q t) := by rw [glob]; simp [h]

theorem glob_suffix (q : List UInt8) : ∀ (w u : List UInt8), glob (42 :: q) u = true → glob (42 :: q) (w ++ u) = true
  | [], u, h => h
  | x :: w, u, h => by rw [List.cons_append, glob_star_cons, glob_suffix q w u h, Bool.or_true]

inductive LM : List UInt8 → List UInt8 → Prop
  | nil : LM [] []
  | cons {c x : UInt8} {l w : List UInt8} (h : c ≠ 42) (hx : (c == 63 || c == x) = true) (hl : LM l w) : LM (c :: l) (x :: w)

theorem LM.length {l w : List UInt8} (h : LM l w) : l.length = w.length := by
  induction h with
  | nil => rfl
  | cons _ _ _ ih => simp [ih]
theorem LM.ns {l w : List UInt8} (h : LM l w) : ∀ c ∈ l, c ≠ 42 := by
  induction h with
  | nil => simp
  | cons h1 _ _ ih => intro c hc; rcases List.mem_cons.1 hc with rfl | hc; · exact h1
                      · exact ih c hc
theorem LM.snoc {l w : List UInt8} {c x : UInt8} (h : LM l w) (h1 : c ≠ 42) (hx : (c == 63 || c == x) = true) : LM (l ++ [c]) (w ++ [x]) := by
  induction h with
  | nil => exact .cons h1 hx .nil
  | cons g1 g2 _ ih => exact .cons g1 g2 ih
theorem LM.glob {l w : List UInt8} (h : LM l w) (r u : List UInt8) : glob (l ++ r) (w ++ u) = glob r u := by
  induction h with
  | nil => rfl
  | cons h1 h2 _ ih => rw [List.cons_append, List.cons_append, glob_lit_cons _ _ _ h1, h2, Bool.true_and, ih]

theorem glob_long : ∀ (l r v : List UInt8), (∀ c ∈ l, c ≠ 42) → glob (l ++ r) v = true → l.length ≤ v.length ∧ glob r (v.drop l.length) = true
  | [], r, v, _, h => ⟨Nat.zero_le _, by simpa using h⟩
  | c :: l, r, [], hl, h => by rw [List.cons_append, glob_lit_nil _ (hl c List.mem_cons_self)] at h; cases h
  | c :: l, r, x :: v, hl, h => by
    rw [List.cons_append, glob_lit_cons _ _ _ (hl c List.mem_cons_self), Bool.and_eq_true] at h
    have := glob_long l r v (fun c hc => hl c (List.mem_cons_of_mem _ hc)) h.2
    simpa using this

theorem glob_star_iff (q : List UInt8) : ∀ (v : List UInt8), glob (42 :: q) v = true ↔ ∃ j, j ≤ v.length ∧ glob q (v.drop j) = true
  | [] => by
    rw [glob_star_nil]
    exact ⟨fun h => ⟨0, Nat.le_refl _, h⟩, fun ⟨j, hj, h⟩ => by simpa using h⟩
  | x :: v => by
    rw [glob_star_cons, Bool.or_eq_true, glob_star_iff q v]
    constructor
    · rintro (h | ⟨j, hj, h⟩)
      · exact ⟨0, Nat.zero_le _, h⟩
      · exact ⟨j + 1, by simpa using hj, by simpa using h⟩
    · rintro ⟨j, hj, h⟩
      cases j with
      | zero => exact .inl h
      | succ j => exact .inr ⟨j, by simpa using hj, by simpa using h⟩

theorem glob_skip {l w : List UInt8} (h : LM l w) (r u : List UInt8) : glob (42 :: (l ++ 42 :: r)) (w ++ u) = glob (42 :: r) u := by
  rw [Bool.eq_iff_iff]
  constructor
  · intro hg
    obtain ⟨j, hj, hm⟩ := (glob_star_iff _ _).1 hg
    obtain ⟨h1, h2⟩ := glob_long _ _ _ h.ns hm
    rw [List.drop_drop] at h2
    have hlen := h.length
    have e : (w ++ u).drop (j + l.length) = u.drop j := by
      rw [hlen, Nat.add_comm, ← List.drop_drop, List.drop_left]
    rw [e] at h2
    have := glob_suffix r (u.take j) _ h2
    rwa [List.take_append_drop] at this
  · intro hg
    exact (glob_star_iff _ _).2 ⟨0, Nat.zero_le _, by rw [List.drop_zero, h.glob]; exact hg⟩

theorem glob_end {l w : List UInt8} (h : LM l w) (r : List UInt8) : glob (42 :: (l ++ r)) w = glob r [] := by
  rw [Bool.eq_iff_iff]
  constructor
  · intro hg
    obtain ⟨j, hj, hm⟩ := (glob_star_iff _ _).1 hg
    obtain ⟨h1, h2⟩ := glob_long _ _ _ h.ns hm
    have hlen := h.length
    rw [List.length_drop] at h1
    by_cases hw : w.length = 0
    · have : w = [] := List.eq_nil_of_length_eq_zero hw
      subst this
      simpa using h2
    · have hj0 : j = 0 := by omega
      subst hj0
      rw [List.drop_zero, List.drop_of_length_le (by omega)] at h2
      exact h2
  · intro hg
    refine (glob_star_iff _ _).2 ⟨0, Nat.zero_le _, ?_⟩
    have := h.glob r []
    rw [List.append_nil] at this
    rw [List.drop_zero, this]; exact hg

theorem glob_fail {l w : List UInt8} (h : LM l w) (r : List UInt8) (x : UInt8) (u : List UInt8) (hr : glob r (x :: u) = false) : glob (42 :: (l ++ r)) (w ++ x :: u) = glob (42 :: (l ++ r)) ((w ++ x :: u).tail) := by
  cases w with
  | nil =>
    cases h
    simp only [List.nil_append, List.tail_cons]
    rw [glob_star_cons, hr, Bool.false_or]
  | cons y w =>
    simp only [List.cons_append, List.tail_cons]
    rw [glob_star_cons]
    have := h.glob r (x :: u)
    rw [List.cons_append] at this
    rw [this, hr, Bool.false_or]

/-- What is left of a pattern matches the empty string if it is stars alone. -/
theorem glob_empty_star (q : List UInt8) : glob (42 :: q) [] = glob q [] := glob_star_nil q

theorem glob_plain : ∀ (p s : List UInt8), (∀ c ∈ p, c ≠ 42 ∧ c ≠ 63) → glob p s = (p == s)
  | [], [], _ => by simp [glob_nil]
  | [], x :: s, _ => by simp [glob_nil]
  | c :: p, [], h => by rw [glob_lit_nil _ (h c List.mem_cons_self).1]; rfl
  | c :: p, x :: s, h => by
    rw [glob_lit_cons _ _ _ (h c List.mem_cons_self).1, glob_plain p s fun c hc => h c (List.mem_cons_of_mem _ hc)]
    have : (c == 63) = false := by simpa using (h c List.mem_cons_self).2
    rw [this, Bool.false_or]
    rfl
theorem glob_all (s : List UInt8) : glob [42] s = true := (glob_star_iff _ _).2 ⟨s.length, Nat.le_refl _, by simp [glob_nil]⟩
theorem glob_prefix : ∀ (p s : List UInt8), (∀ c ∈ p, c ≠ 42 ∧ c ≠ 63) → glob (p ++ [42]) s = p.isPrefixOf s
  | [], s, _ => by rw [List.nil_append, glob_all]; cases s <;> rfl
  | c :: p, [], h => by rw [List.cons_append, glob_lit_nil _ (h c List.mem_cons_self).1]; rfl
  | c :: p, x :: s, h => by
    rw [List.cons_append, glob_lit_cons _ _ _ (h c List.mem_cons_self).1, glob_prefix p s fun c hc => h c (List.mem_cons_of_mem _ hc)]
    have : (c == 63) = false := by simpa using (h c List.mem_cons_self).2
    rw [this, Bool.false_or]
    rfl
/-- What stands at the head of a round of match.like. -/
def GI (P S : List UInt8) (i k : Nat) (st : Option Nat) (back : Nat) : Prop :=
  i ≤ S.length ∧ k ≤ P.length ∧ match st with
  | none => back = 0 ∧ glob P S = glob (P.drop k) (S.drop i)
  | some t => ∃ l v, P.drop t = 42 :: (l ++ P.drop k) ∧ S.drop back = v ++ S.drop i ∧ LM l v ∧ glob P S = glob (P.drop t) (S.drop back) ∧ k = t + 1 + l.length ∧ i = back + v.length

section
variable {P S : List UInt8} {i k : Nat} {st : Option Nat} {back : Nat}
theorem drop_get {l : List UInt8} {i : Nat} {x : UInt8} (h : l[i]? = some x) : l.drop i = x :: l.drop (i + 1) := by
  obtain ⟨h1, h2⟩ := List.getElem?_eq_some_iff.1 h
  rw [List.drop_eq_getElem_cons h1, h2]

theorem GI.backLe (h : GI P S i k st back) : back ≤ i := by
  obtain ⟨h1, h2, h3⟩ := h
  cases st with
  | none => obtain ⟨rfl, _⟩ := h3; omega
  | some t => obtain ⟨l, v, _, _, _, _, _, h⟩ := h3; omega
theorem GI.lt (h : GI P S i k st back) {t : Nat} (ht : st = some t) : t < k ∧ t + 1 ≤ P.length := by
  subst ht
  obtain ⟨h1, h2, l, v, _, _, _, _, h, _⟩ := h
  omega

theorem GI.start : GI P S 0 0 none 0 := ⟨Nat.zero_le _, Nat.zero_le _, rfl, by simp⟩

theorem GI.star (h : GI P S i k st back) (hk : P[k]? = some 42) : GI P S i (k + 1) (some k) i := by
  have hkl := (List.getElem?_eq_some_iff.1 hk).1
  have hd := drop_get hk
  obtain ⟨h1, h2, h3⟩ := h
  refine ⟨h1, by omega, [], [], by simpa using hd, by simp, .nil, ?_, by simp, by simp⟩
  cases st with
  | none => exact h3.2
  | some t =>
    obtain ⟨l, v, e1, e2, hl, e3, _, _⟩ := h3
    rw [e3, e1, e2, hd, glob_skip hl]

theorem GI.step (h : GI P S i k st back) {c x : UInt8} (hk : P[k]? = some c) (hi : S[i]? = some x) (hc : c ≠ 42) (hx : (c == 63 || c == x) = true) : GI P S (i + 1) (k + 1) st back := by
  have hkl := (List.getElem?_eq_some_iff.1 hk).1
  have hil := (List.getElem?_eq_some_iff.1 hi).1
  have hd := drop_get hk
  have hd2 := drop_get hi
  obtain ⟨h1, h2, h3⟩ := h
  refine ⟨by omega, by omega, ?_⟩
  cases st with
  | none =>
    refine ⟨h3.1, ?_⟩
    rw [h3.2, hd, hd2, glob_lit_cons _ _ _ hc, hx, Bool.true_and]
  | some t =>
    obtain ⟨l, v, e1, e2, hl, e3, e4, e5⟩ := h3
    exact ⟨l ++ [c], v ++ [x], by rw [e1, hd]; simp, by rw [e2, hd2]; simp, hl.snoc hc hx, e3, by simp; omega, by simp; omega⟩

/-- Nothing fits here. -/
def NoFit (P S : List UInt8) (i k : Nat) : Prop := k = P.length ∨ ∃ c x, P[k]? = some c ∧ S[i]? = some x ∧ c ≠ 42 ∧ (c == 63 || c == x) = false

theorem NoFit.glob (h : NoFit P S i k) (hi : i < S.length) : glob (P.drop k) (S.drop i) = false := by
  rcases h with rfl | ⟨c, x, hk, hx, hc, hn⟩
  · rw [List.drop_length, glob_nil, List.drop_eq_getElem_cons hi]; rfl
  · rw [drop_get hk, drop_get hx, glob_lit_cons _ _ _ hc, hn, Bool.false_and]

theorem GI.fail (h : GI P S i k st back) (hi : i < S.length) (hn : NoFit P S i k) {t : Nat} (ht : st = some t) : GI P S (back + 1) (t + 1) (some t) (back + 1) := by
  subst ht
  have hb := h.backLe
  obtain ⟨h1, h2, l, v, e1, e2, hl, e3, e4, e5⟩ := h
  have hg := hn.glob hi
  have hd : S.drop i = S[i] :: S.drop (i + 1) := List.drop_eq_getElem_cons hi
  have htl : P.drop (t + 1) = l ++ P.drop k := by
    rw [← List.tail_drop, e1]; rfl
  refine ⟨by omega, by omega, [], [], by rw [e1, htl]; rfl, by simp, .nil, ?_, by simp, by simp⟩
  rw [hd] at hg
  rw [e3, ← List.tail_drop (i := back), e1, e2, hd, glob_fail hl _ _ _ hg]

theorem GI.no (h : GI P S i k none back) (hi : i < S.length) (hn : NoFit P S i k) : Go.Fw.glob P S = false := by
  rw [h.2.2.2]; exact hn.glob hi

theorem GI.fin (h : GI P S i k st back) (hi : i = S.length) : Go.Fw.glob P S = Go.Fw.glob (P.drop k) [] := by
  subst hi
  obtain ⟨h1, h2, h3⟩ := h
  cases st with
  | none => rw [h3.2, List.drop_length]
  | some t =>
    obtain ⟨l, v, e1, e2, hl, e3, _, _⟩ := h3
    rw [List.drop_length, List.append_nil] at e2
    rw [e3, e1, e2, glob_end hl]
end
end Go.Fw

set_option linter.unusedVariables false
set_option linter.unusedSimpArgs false
set_option maxRecDepth 10000
set_option maxHeartbeats 2000000
namespace Go.Fw
open Go
attribute [local irreducible] SWp SQ SSeq SSt Quiet Next Meet
attribute [local irreducible] MeetX ForkQ STr

theorem u8_63 (c : UInt8) : ((c.toNat : Int) == 63) = (c == 63) := u8_eq c 63 (by omega)
theorem u8_42 (c : UInt8) : ((c.toNat : Int) == 42) = (c == 42) := u8_eq c 42 (by omega)
theorem u8_2 (c x : UInt8) : ((c.toNat : Int) == (x.toNat : Int)) = (c == x) := by
  have := u8_eq c x.toNat (UInt8.toNat_lt x)
  rw [this]
  congr 1
  simp

/-- match.like -/
theorem c218 (s p : ByteArray) (hs : s.size ≤ LIM) (hp : p.size ≤ LIM) (w : World) : Calls Go.Proofs.Tryz.prog 218 #[.string s, .string p] w fun e w2 => ∃ v, e = .returned v ∧ Kp No w w2 ∧ v = .bool (glob p.data.toList s.data.toList) := by
  rw [LIM_eq] at hs hp
  have hsz := size_len s
  have hpz := size_len p
  refine calls_intro (args := [_, _]) w.heap.size Go.Proofs.Tryz.func218 rfl Go.Proofs.Tryz.ntmps218 (by simp) (Nat.le_refl _) ?_
  (repeat' (first | refine G0 ?_ | refine sst_box rfl rfl rfl rfl rfl (fun b hb hlt => ?_) | refine sst_alloc tb_ok rfl rfl rfl EV (fun b hb hlt => ?_)))
  refine swp_loop (X := World × Nat × Nat × Option Nat × Nat) (fun y => Kp No w y.1 ∧ GI p.data.toList s.data.toList y.2.1 y.2.2.1 y.2.2.2.1 y.2.2.2.2)
    (fun y => ⟨76, [(5, .val (.int .i64 (y.2.1 : Int))), (6, .val (.int .i64 (y.2.2.1 : Int))), (7, .val (.int .i64 (optI y.2.2.2.1))), (8, .val (.int .i64 (y.2.2.2.2 : Int))), (0, .val (.string s)), (1, .val (.string p))], [], [], w.heap.size, y.1, No⟩)
    (fun y => (s.size + 1 - y.2.2.2.2) * (p.size + 1) + (p.size - y.2.2.1)) ?_ ?_
  · intro w1 h1
    refine ⟨(w1, 0, 0, none, 0), ⟨h1.kp, GI.start⟩, ?_⟩
    (refine WKmk ?_; try trivial)
  rintro ⟨w1, i, k, st, back⟩ ⟨hk1, hG⟩
  simp only at hk1 hG
  have hil := hG.1
  have hkl := hG.2.1
  have hbk := hG.backLe
  (repeat' (first | refine G0 ?_ | refine sst_box rfl rfl rfl rfl rfl (fun b hb hlt => ?_) | refine sst_alloc tb_ok rfl rfl rfl EV (fun b hb hlt => ?_)))
  refine swp_if rfl (fun h1 => ?_) (fun h1 => ?_)
  · have hi : i < s.size := by simp at h1; omega
    obtain ⟨x, hx⟩ := get_of_lt (l := s.data.toList) (i := i) (by omega)
    (repeat' (first | refine G0 ?_ | refine sst_box rfl rfl rfl rfl rfl (fun b hb hlt => ?_) | refine sst_alloc tb_ok rfl rfl rfl EV (fun b hb hlt => ?_)))
    refine sst_guard rfl rfl rfl (fun h2 => ?_) (fun h2 => ?_)
    · have hk : k < p.size := by simp at h2; omega
      obtain ⟨c, hc⟩ := get_of_lt (l := p.data.toList) (i := k) (by omega)
      (repeat' (first | refine G0 ?_ | refine sst_box rfl rfl rfl rfl rfl (fun b hb hlt => ?_) | refine sst_alloc tb_ok rfl rfl rfl EV (fun b hb hlt => ?_)))
      refine sst_quiet rfl rfl (q_strIndex tb_ok rfl str_9 rfl rfl k rfl hc) ?_
      (repeat' (first | refine G0 ?_ | refine sst_box rfl rfl rfl rfl rfl (fun b hb hlt => ?_) | refine sst_alloc tb_ok rfl rfl rfl EV (fun b hb hlt => ?_)))
      refine swp_if rfl (fun h3 => ?_) (fun h3 => ?_)
      · rw [u8_42] at h3
        have h3 : c = 42 := by simpa using h3
        subst h3
        (repeat' (first | refine G0 ?_ | refine sst_box rfl rfl rfl rfl rfl (fun b hb hlt => ?_) | refine sst_alloc tb_ok rfl rfl rfl EV (fun b hb hlt => ?_)))
        refine sq_next fun w2 h2 => ?_
        refine ⟨(w2, i, k + 1, some k, i), ⟨hk1.then h2.kp, hG.star hc⟩, ?_, ?_⟩
        · have hm : (s.size + 1 - i) * (p.size + 1) ≤ (s.size + 1 - back) * (p.size + 1) := Nat.mul_le_mul_right _ (by omega)
          simp only []
          omega
        · (refine WKmk ?_; try trivial)
          simp only [optI]
          rw [wr_small (by omega)]
          simp
      · rw [u8_42] at h3
        have hc42 : c ≠ 42 := by simpa using h3
        (repeat' (first | refine G0 ?_ | refine sst_box rfl rfl rfl rfl rfl (fun b hb hlt => ?_) | refine sst_alloc tb_ok rfl rfl rfl EV (fun b hb hlt => ?_)))
        refine swp_draw mixed [0, 1, 2, 3, 4, 5, 6, 7, 8, 9, 10, 11, 12, 13, 14, 15, 16, 17, 18, 19] [] (by kernel_rfl) (by kernel_rfl) rfl ?_
        (repeat' (first | refine G0 ?_ | refine sst_box rfl rfl rfl rfl rfl (fun b hb hlt => ?_) | refine sst_alloc tb_ok rfl rfl rfl EV (fun b hb hlt => ?_)))
        refine sst_guard rfl rfl rfl (fun h4 => ?_) (fun h4 => ?_)
        · (repeat' (first | refine G0 ?_ | refine sst_box rfl rfl rfl rfl rfl (fun b hb hlt => ?_) | refine sst_alloc tb_ok rfl rfl rfl EV (fun b hb hlt => ?_)))
          refine sst_quiet rfl rfl (q_strIndex tb_ok rfl str_9 rfl rfl k rfl hc) ?_
          (repeat' (first | refine G0 ?_ | refine sst_box rfl rfl rfl rfl rfl (fun b hb hlt => ?_) | refine sst_alloc tb_ok rfl rfl rfl EV (fun b hb hlt => ?_)))
          refine sst_guard rfl rfl rfl (fun h5 => ?_) (fun h5 => ?_)
          · rw [u8_63] at h5
            (repeat' (first | refine Gk ?_ | refine sst_box rfl rfl rfl rfl rfl (fun b hb hlt => ?_) | refine sst_alloc tb_ok rfl rfl rfl EV (fun b hb hlt => ?_)))
            refine sq_next fun w2 h2 => ?_
            refine ⟨(w2, i + 1, k + 1, st, back), ⟨hk1.then h2.kp, hG.step hc hx hc42 (by rw [h5]; rfl)⟩, ?_, ?_⟩
            · simp only []
              omega
            · (refine WKmk ?_; try trivial)
              rw [wr_small (by omega), wr_small (by omega)]
              simp
          · rw [u8_63] at h5
            (repeat' (first | refine G0 ?_ | refine sst_box rfl rfl rfl rfl rfl (fun b hb hlt => ?_) | refine sst_alloc tb_ok rfl rfl rfl EV (fun b hb hlt => ?_)))
            refine sst_quiet rfl rfl (q_strIndex tb_ok rfl str_9 rfl rfl k rfl hc) ?_
            (repeat' (first | refine G0 ?_ | refine sst_box rfl rfl rfl rfl rfl (fun b hb hlt => ?_) | refine sst_alloc tb_ok rfl rfl rfl EV (fun b hb hlt => ?_)))
            refine sst_quiet rfl rfl (q_strIndex tb_ok rfl str_9 rfl rfl i rfl hx) ?_
            (repeat' (first | refine G0 ?_ | refine sst_box rfl rfl rfl rfl rfl (fun b hb hlt => ?_) | refine sst_alloc tb_ok rfl rfl rfl EV (fun b hb hlt => ?_)))
            refine swp_if rfl (fun h6 => ?_) (fun h6 => ?_)
            · rw [u8_2] at h6
              (repeat' (first | refine G0 ?_ | refine sst_box rfl rfl rfl rfl rfl (fun b hb hlt => ?_) | refine sst_alloc tb_ok rfl rfl rfl EV (fun b hb hlt => ?_)))
              refine sq_next fun w2 h2 => ?_
              refine ⟨(w2, i + 1, k + 1, st, back), ⟨hk1.then h2.kp, hG.step hc hx hc42 (by rw [h6]; simp)⟩, ?_, ?_⟩
              · simp only []
                omega
              · (refine WKmk ?_; try trivial)
                rw [wr_small (by omega), wr_small (by omega)]
                simp
            · rw [u8_2] at h6
              have hnf : NoFit p.data.toList s.data.toList i k := .inr ⟨c, x, hc, hx, hc42, by rw [h5, h6]; rfl⟩
              (repeat' (first | refine G0 ?_ | refine sst_box rfl rfl rfl rfl rfl (fun b hb hlt => ?_) | refine sst_alloc tb_ok rfl rfl rfl EV (fun b hb hlt => ?_)))
              cases st with
              | none =>
                refine swp_if rfl (fun h7 => ?_) (fun h7 => ?_)
                · simp [optI] at h7
                · (repeat' (first | refine Gk ?_ | refine sst_box rfl rfl rfl rfl rfl (fun b hb hlt => ?_) | refine sst_alloc tb_ok rfl rfl rfl EV (fun b hb hlt => ?_)))
                  refine sq_ret tb_ok rfl EV (fun w' hk hr => ?_)
                  exact ⟨_, rfl, hk1.then hk, by simp [oneOr, hG.no (by omega) hnf]⟩
              | some t =>
                have ht := hG.lt rfl
                refine swp_if rfl (fun h7 => ?_) (fun h7 => ?_)
                · (repeat' (first | refine G0 ?_ | refine sst_box rfl rfl rfl rfl rfl (fun b hb hlt => ?_) | refine sst_alloc tb_ok rfl rfl rfl EV (fun b hb hlt => ?_)))
                  refine sq_next fun w2 h2 => ?_
                  refine ⟨(w2, back + 1, t + 1, some t, back + 1), ⟨hk1.then h2.kp, hG.fail (by omega) hnf rfl⟩, ?_, ?_⟩
                  · have e : (s.size + 1 - back) * (p.size + 1) = (s.size + 1 - (back + 1)) * (p.size + 1) + (p.size + 1) := by
                      rw [show s.size + 1 - back = (s.size + 1 - (back + 1)) + 1 by omega, Nat.add_mul, Nat.one_mul]
                    simp only []
                    omega
                  · (refine WKmk ?_; try trivial)
                    simp only [optI]
                    rw [wr_small (by omega), wr_small (by omega)]
                    simp
                · exfalso
                  first
                    | (simp [optI] at h7; done)
                    | (simp [optI] at h7; omega)
        · exfalso
          simp at h4
          omega
    · have hk : k = p.size := by simp at h2; omega
      have hnf : NoFit p.data.toList s.data.toList i k := .inl (by omega)
      (repeat' (first | refine Gk ?_ | refine sst_box rfl rfl rfl rfl rfl (fun b hb hlt => ?_) | refine sst_alloc tb_ok rfl rfl rfl EV (fun b hb hlt => ?_)))
      refine swp_draw mixed [0, 1, 2, 3, 4, 5, 6, 7, 8, 9, 10, 11, 12, 13, 14, 15, 16, 17, 18, 19] [] (by kernel_rfl) (by kernel_rfl) rfl ?_
      (repeat' (first | refine G0 ?_ | refine sst_box rfl rfl rfl rfl rfl (fun b hb hlt => ?_) | refine sst_alloc tb_ok rfl rfl rfl EV (fun b hb hlt => ?_)))
      refine sst_guard rfl rfl rfl (fun h4 => ?_) (fun h4 => ?_)
      · exfalso
        simp at h4
        omega
      · (repeat' (first | refine Gk ?_ | refine sst_box rfl rfl rfl rfl rfl (fun b hb hlt => ?_) | refine sst_alloc tb_ok rfl rfl rfl EV (fun b hb hlt => ?_)))
        (repeat' (first | refine G0 ?_ | refine sst_box rfl rfl rfl rfl rfl (fun b hb hlt => ?_) | refine sst_alloc tb_ok rfl rfl rfl EV (fun b hb hlt => ?_)))
        cases st with
        | none =>
          refine swp_if rfl (fun h7 => ?_) (fun h7 => ?_)
          · simp [optI] at h7
          · (repeat' (first | refine Gk ?_ | refine sst_box rfl rfl rfl rfl rfl (fun b hb hlt => ?_) | refine sst_alloc tb_ok rfl rfl rfl EV (fun b hb hlt => ?_)))
            refine sq_ret tb_ok rfl EV (fun w' hk hr => ?_)
            exact ⟨_, rfl, hk1.then hk, by simp [oneOr, hG.no (by omega) hnf]⟩
        | some t =>
          have ht := hG.lt rfl
          refine swp_if rfl (fun h7 => ?_) (fun h7 => ?_)
          · (repeat' (first | refine G0 ?_ | refine sst_box rfl rfl rfl rfl rfl (fun b hb hlt => ?_) | refine sst_alloc tb_ok rfl rfl rfl EV (fun b hb hlt => ?_)))
            refine sq_next fun w2 h2 => ?_
            refine ⟨(w2, back + 1, t + 1, some t, back + 1), ⟨hk1.then h2.kp, hG.fail (by omega) hnf rfl⟩, ?_, ?_⟩
            · have e : (s.size + 1 - back) * (p.size + 1) = (s.size + 1 - (back + 1)) * (p.size + 1) + (p.size + 1) := by
                rw [show s.size + 1 - back = (s.size + 1 - (back + 1)) + 1 by omega, Nat.add_mul, Nat.one_mul]
              simp only []
              omega
            · (refine WKmk ?_; try trivial)
              simp only [optI]
              rw [wr_small (by omega), wr_small (by omega)]
              simp
          · exfalso
            first
              | (simp [optI] at h7; done)
              | (simp [optI] at h7; omega)
  · have hi : i = s.size := by simp at h1; omega
    have hfin := hG.fin (by omega)
    (repeat' (first | refine G0 ?_ | refine sst_box rfl rfl rfl rfl rfl (fun b hb hlt => ?_) | refine sst_alloc tb_ok rfl rfl rfl EV (fun b hb hlt => ?_)))
    refine swp_loop (X := World × Nat) (fun y => Kp No w y.1 ∧ y.2 ≤ p.size ∧ glob p.data.toList s.data.toList = glob (p.data.toList.drop y.2) [])
      (fun y => ⟨76, [(6, .val (.int .i64 (y.2 : Int))), (0, .val (.string s)), (1, .val (.string p))], [], [], w.heap.size, y.1, No⟩) (fun y => p.size - y.2) ?_ ?_
    · intro w2 h2
      refine ⟨(w2, k), ⟨hk1.then h2.kp, by simp only []; omega, hfin⟩, ?_⟩
      (refine WKmk ?_; try trivial)
    rintro ⟨w2, k⟩ ⟨hk2, hkp, hfin⟩
    simp only at hk2 hkp hfin
    (repeat' (first | refine G0 ?_ | refine sst_box rfl rfl rfl rfl rfl (fun b hb hlt => ?_) | refine sst_alloc tb_ok rfl rfl rfl EV (fun b hb hlt => ?_)))
    refine sst_guard rfl rfl rfl (fun h2 => ?_) (fun h2 => ?_)
    · have hk : k < p.size := by simp at h2; omega
      obtain ⟨c, hc⟩ := get_of_lt (l := p.data.toList) (i := k) (by omega)
      rw [drop_get hc] at hfin
      (repeat' (first | refine G0 ?_ | refine sst_box rfl rfl rfl rfl rfl (fun b hb hlt => ?_) | refine sst_alloc tb_ok rfl rfl rfl EV (fun b hb hlt => ?_)))
      refine sst_quiet rfl rfl (q_strIndex tb_ok rfl str_9 rfl rfl k rfl hc) ?_
      (repeat' (first | refine G0 ?_ | refine sst_box rfl rfl rfl rfl rfl (fun b hb hlt => ?_) | refine sst_alloc tb_ok rfl rfl rfl EV (fun b hb hlt => ?_)))
      refine swp_if rfl (fun h3 => ?_) (fun h3 => ?_)
      · rw [u8_42] at h3
        have h3 : c = 42 := by simpa using h3
        subst h3
        rw [glob_star_nil] at hfin
        (repeat' (first | refine G0 ?_ | refine sst_box rfl rfl rfl rfl rfl (fun b hb hlt => ?_) | refine sst_alloc tb_ok rfl rfl rfl EV (fun b hb hlt => ?_)))
        refine sq_next fun w3 h3 => ?_
        refine ⟨(w3, k + 1), ⟨hk2.then h3.kp, by simp only []; omega, hfin⟩, by simp only []; omega, ?_⟩
        (refine WKmk ?_; try trivial)
        rw [wr_small (by omega)]
        simp
      · rw [u8_42] at h3
        have hc42 : c ≠ 42 := by simpa using h3
        rw [glob_lit_nil _ hc42] at hfin
        (repeat' (first | refine G0 ?_ | refine sst_box rfl rfl rfl rfl rfl (fun b hb hlt => ?_) | refine sst_alloc tb_ok rfl rfl rfl EV (fun b hb hlt => ?_)))
        refine sq_ret tb_ok rfl EV (fun w' hk hr => ?_)
        refine ⟨_, rfl, hk2.then hk, ?_⟩
        rw [hfin]
        have : ((k : Int) == (p.size : Int)) = false := by simp; omega
        rw [this]
        rfl
    · have hk : k = p.size := by simp at h2; omega
      subst hk
      rw [hpz, List.drop_length, glob_nil] at hfin
      (repeat' (first | refine Gk ?_ | refine sst_box rfl rfl rfl rfl rfl (fun b hb hlt => ?_) | refine sst_alloc tb_ok rfl rfl rfl EV (fun b hb hlt => ?_)))
      refine sq_ret tb_ok rfl EV (fun w' hk hr => ?_)
      refine ⟨_, rfl, hk2.then hk, ?_⟩
      rw [hfin]
      simp [oneOr]
end Go.Fw

set_option linter.unusedVariables false
set_option linter.unusedSimpArgs false
namespace Go.Fw
open Go

theorem q_strAdd {s : Sym} {P : Program} {o : Oper} {T yT : TypeId} {x y : Operand} (hop : o.op = .binOp .add T x y yT) {a b : ByteArray} (hx : evS s x = some (.val (.string a))) (hy : evS s y = some (.val (.string b)))
    (hle : a.size + b.size ≤ 9223372036854775807) : Quiet P s o (.val (.string (a ++ b))) := by
  intro a' w' hf
  refine ⟨trivial, ?_⟩
  have hlt : ¬ (((a.size + b.size : Nat) : Int) > IntKind.i64.max) := by
    have : IntKind.i64.max = 9223372036854775807 := rfl
    rw [this]; omega
  unfold execOp
  simp only [hop, (hf.ev hx).1, (hf.ev hy).1, den]
  have hg := eqGuard_string (P := P) .add T x y a b w'
  have hb : (binOp .add T (.string a) (.string b)).run P w' = .ok (.string (a ++ b)) w' := by
    simp only [binOp, Op.stringOp]
    rw [if_neg hlt]
    rfl
  simp [hg, hb]

theorem extract_take (s : ByteArray) (n : Nat) : (s.extract 0 n).data.toList = s.data.toList.take n := by
  rw [ByteArray.data_extract, Array.toList_extract]
  simp [List.extract]

theorem prefix_take : ∀ (p s : List UInt8), p.length ≤ s.length → p.isPrefixOf s = (s.take p.length == p)
  | [], s, _ => by simp
  | c :: p, [], h => by simp at h
  | c :: p, x :: s, h => by
    have ih := prefix_take p s (by simpa using h)
    simp only [List.isPrefixOf, List.length_cons, List.take_succ_cons, ih]
    have e : (c == x) = (x == c) := by rw [Bool.eq_iff_iff, beq_iff_eq, beq_iff_eq]; exact eq_comm
    rw [e]
    rfl
theorem prefix_short : ∀ (p s : List UInt8), s.length < p.length → p.isPrefixOf s = false
  | [], s, h => by simp at h
  | c :: p, [], _ => rfl
  | c :: p, x :: s, h => by
    have ih := prefix_short p s (by simpa using h)
    simp only [List.isPrefixOf, ih, Bool.and_false]

theorem cmpB_zero : ∀ (a b : List UInt8), (cmpB a b == 0) = (a == b)
  | [], [] => rfl
  | [], _ :: _ => rfl
  | _ :: _, [] => rfl
  | a :: r, b :: bs => by
    show ((if a < b then (-1 : Int) else if b < a then 1 else cmpB r bs) == 0) = (a == b && r == bs)
    by_cases h1 : a < b
    · have : (a == b) = false := by simpa using fun e => by subst e; exact absurd h1 (UInt8.lt_irrefl a)
      rw [if_pos h1, this]; rfl
    · by_cases h2 : b < a
      · have : (a == b) = false := by simpa using fun e => by subst e; exact absurd h2 (UInt8.lt_irrefl a)
        rw [if_neg h1, if_pos h2, this]; rfl
      · have : (a == b) = true := by
          simpa using UInt8.le_antisymm (UInt8.not_lt.1 h2) (UInt8.not_lt.1 h1)
        rw [if_neg h1, if_neg h2, this, cmpB_zero r bs, Bool.true_and]

def textV (s : ByteArray) : Val := .mk 4 0 s [] []

theorem eqN_text (s : ByteArray) (y : Val) : eqN y (textV s) = (y.k == 4 && y.t.data.toList == s.data.toList) := by
  by_cases h4 : y.k = 4
  · obtain ⟨k, n, t, l, d⟩ := y
    have h4' : k = 4 := h4
    subst h4'
    have e : cmpV (.mk 4 n t l d) (textV s) = cmpB t.data.toList s.data.toList := by
      unfold textV
      rw [cmpV, if_neg (by simp), if_neg (by decide), if_pos (by decide)]
    show (if (4 : Int) = 0 then _ else eqV' _ _) = ((4 : Int) == 4 && _)
    rw [if_neg (by decide)]
    unfold eqV'
    rw [e, cmpB_zero]
    rfl
  · have h5 : (y.k == 4) = false := by simpa using h4
    rw [h5, Bool.false_and]
    unfold eqN eqV'
    split
    · rfl
    · have := cmpV_kinds (x := y) (y := textV s) h4
      simpa using this

def likeF (p : List UInt8) (y : Val) : Bool := y.k == 4 && glob p y.t.data.toList
def prefF (p : List UInt8) (y : Val) : Bool := y.k == 4 && p.isPrefixOf y.t.data.toList

theorem like_eq {s : ByteArray} (h : ∀ c ∈ s.data.toList, c ≠ 42 ∧ c ≠ 63) (y : Val) : likeF s.data.toList y = eqN y (textV s) := by
  rw [eqN_text, likeF, glob_plain _ _ h]
  congr 1
  rw [Bool.eq_iff_iff, beq_iff_eq, beq_iff_eq]; exact eq_comm
theorem like_prefix {s : ByteArray} (h : ∀ c ∈ s.data.toList, c ≠ 42 ∧ c ≠ 63) (y : Val) : likeF (s.data.toList ++ [42]) y = prefF s.data.toList y := by
  rw [likeF, prefF, glob_prefix _ _ h]
theorem onP_else (f : Val → Bool) (op : Int) (p : List ByteArray) (a : Val) (al : List Val) (n : Int) (x : Val) (h : op = 16 ∨ op = 17) : onP f op p a al n x = (leavesF x p).any f := by
  unfold onP
  rcases h with rfl | rfl <;> simp
theorem onP_eq2 (f : Val → Bool) (p : List ByteArray) (a : Val) (al : List Val) (n : Int) (x : Val) : onP f 2 p a al n x = (leavesF x p).any fun y => eqN y a := by
  unfold onP; simp
end Go.Fw

set_option linter.unusedVariables false
set_option linter.unusedSimpArgs false
set_option maxRecDepth 10000
set_option maxHeartbeats 2000000
namespace Go.Fw
open Go
attribute [local irreducible] SWp SQ SSeq SSt Quiet Next Meet
attribute [local irreducible] MeetX ForkQ STr

theorem c247 (s p : ByteArray) (w : World) : Calls Go.Proofs.Tryz.prog 247 #[.string s, .string p] w fun e w2 => ∃ v, e = .returned v ∧ Kp No w w2 ∧ v = .bool (p.data.toList.isPrefixOf s.data.toList) := by
  have hsz := size_len s
  have hpz := size_len p
  refine calls_intro (args := [_, _]) w.heap.size Go.Proofs.Tryz.func247 rfl Go.Proofs.Tryz.ntmps247 (by simp) (Nat.le_refl _) ?_
  (repeat' (first | refine G0 ?_ | refine sst_box rfl rfl rfl rfl rfl (fun b hb hlt => ?_) | refine sst_alloc tb_ok rfl rfl rfl EV (fun b hb hlt => ?_)))
  refine sst_guard rfl rfl rfl (fun h1 => ?_) (fun h1 => ?_)
  · have hle : p.size ≤ s.size := by simp at h1; omega
    (repeat' (first | refine G0 ?_ | refine sst_box rfl rfl rfl rfl rfl (fun b hb hlt => ?_) | refine sst_alloc tb_ok rfl rfl rfl EV (fun b hb hlt => ?_)))
    refine sst_quiet rfl rfl (q_strSlice tb_ok rfl str_9 rfl 0 p.size (by exact rfl) (by exact ⟨_, rfl⟩) (Nat.zero_le _) hle) ?_
    (repeat' (first | refine G0 ?_ | refine sst_box rfl rfl rfl rfl rfl (fun b hb hlt => ?_) | refine sst_alloc tb_ok rfl rfl rfl EV (fun b hb hlt => ?_)))
    refine sq_ret tb_ok rfl EV (fun w' hk hr => ?_)
    refine ⟨_, rfl, hk, ?_⟩
    rw [prefix_take _ _ (by omega), ← hpz, ← extract_take]
    rfl
  · (repeat' (first | refine Gk ?_ | refine sst_box rfl rfl rfl rfl rfl (fun b hb hlt => ?_) | refine sst_alloc tb_ok rfl rfl rfl EV (fun b hb hlt => ?_)))
    refine sq_ret tb_ok rfl EV (fun w' hk hr => ?_)
    refine ⟨_, rfl, hk, ?_⟩
    rw [prefix_short _ _ (by simp at h1; omega)]
    rfl

theorem c217 (s p : ByteArray) (w : World) : Calls Go.Proofs.Tryz.prog 217 #[.string s, .string p] w fun e w2 => ∃ v, e = .returned v ∧ Kp No w w2 ∧ v = .bool (p.data.toList.isPrefixOf s.data.toList) := by
  refine calls_intro (args := [_, _]) w.heap.size Go.Proofs.Tryz.func217 rfl Go.Proofs.Tryz.ntmps217 (by simp) (Nat.le_refl _) ?_
  (repeat' (first | refine G0 ?_ | refine sst_box rfl rfl rfl rfl rfl (fun b hb hlt => ?_) | refine sst_alloc tb_ok rfl rfl rfl EV (fun b hb hlt => ?_)))
  refine sst_call tb_ok rfl rfl rfl rfl rfl EV AP (fun v _ _ => v = .bool (p.data.toList.isPrefixOf s.data.toList)) ?_ ?_
  · exact fun w1 h1 => c247 s p w1
  rintro v w1 w2 h1 hk2 rfl
  (repeat' (first | refine G0 ?_ | refine sst_box rfl rfl rfl rfl rfl (fun b hb hlt => ?_) | refine sst_alloc tb_ok rfl rfl rfl EV (fun b hb hlt => ?_)))
  refine sq_ret tb_ok rfl EV (fun w' hk hr => ?_)
  exact ⟨_, rfl, (h1.kp.then hk2).then hk, rfl⟩

theorem c178_16 (y : Val) (p : List ByteArray) (a : Val) (al : List Val) (n : Int) (S S' : Nat → Prop) (w : World) (cs cy : List Value) (hp : PL S w 16 p a al n cs) (hy : RepV S' w y cy) :
    Calls Go.Proofs.Tryz.prog 178 #[.agg cs.toArray, .agg cy.toArray] w fun e w2 => ∃ v, e = .returned v ∧ Kp No w w2 ∧ v = .bool (prefF a.t.data.toList y) := by
  obtain ⟨A, m, c, B1, n1, B2, n2, A2, m2, c2, m', s0, S1, s1, s2, s3, x0, X1, x1, x2, x3, X4, x4, x5, x6, x7, x8, X9, x9, x10, X11, x11, x12, x13, X14, x14, x15, K, k1, k2, rfl, hpath, harg, hargs⟩ := hp.parts
  obtain ⟨D1, d1, D2, d2, rfl, hyk, hyn, hyt, hyl, hyd⟩ := hy.parts
  refine calls_intro (args := [_, _]) w.heap.size Go.Proofs.Tryz.func178 rfl Go.Proofs.Tryz.ntmps178 (by simp) (Nat.le_refl _) ?_
  (repeat' (first | refine Gk ?_ | refine sst_box rfl rfl rfl rfl rfl (fun b hb hlt => ?_) | refine sst_alloc tb_ok rfl rfl rfl EV (fun b hb hlt => ?_)))
  refine sst_guard rfl rfl rfl (fun h1 => ?_) (fun h1 => ?_)
  · (repeat' (first | refine Gk ?_ | refine sst_box rfl rfl rfl rfl rfl (fun b hb hlt => ?_) | refine sst_alloc tb_ok rfl rfl rfl EV (fun b hb hlt => ?_)))
    refine sst_call tb_ok rfl rfl rfl rfl rfl EV AP (fun v _ _ => v = .bool (a.t.data.toList.isPrefixOf y.t.data.toList)) ?_ ?_
    · exact fun w1 h1 => c217 _ _ w1
    rintro v w1 w2 h2 hk2 rfl
    (repeat' (first | refine Gk ?_ | refine sst_box rfl rfl rfl rfl rfl (fun b hb hlt => ?_) | refine sst_alloc tb_ok rfl rfl rfl EV (fun b hb hlt => ?_)))
    refine sq_ret tb_ok rfl EV (fun w' hk hr => ?_)
    exact ⟨_, rfl, (h2.kp.then hk2).then hk, by simp only [oneOr, prefF, h1, Bool.true_and]⟩
  · (repeat' (first | refine Gk ?_ | refine sst_box rfl rfl rfl rfl rfl (fun b hb hlt => ?_) | refine sst_alloc tb_ok rfl rfl rfl EV (fun b hb hlt => ?_)))
    refine sq_ret tb_ok rfl EV (fun w' hk hr => ?_)
    exact ⟨_, rfl, hk, by simp only [oneOr, prefF, h1, Bool.false_and]⟩

theorem c178_17 (y : Val) (p : List ByteArray) (a : Val) (al : List Val) (n : Int) (S S' : Nat → Prop) (w : World) (cs cy : List Value) (hp : PL S w 17 p a al n cs) (hy : RepV S' w y cy) :
    Calls Go.Proofs.Tryz.prog 178 #[.agg cs.toArray, .agg cy.toArray] w fun e w2 => ∃ v, e = .returned v ∧ Kp No w w2 ∧ v = .bool (likeF a.t.data.toList y) := by
  obtain ⟨A, m, c, B1, n1, B2, n2, A2, m2, c2, m', s0, S1, s1, s2, s3, x0, X1, x1, x2, x3, X4, x4, x5, x6, x7, x8, X9, x9, x10, X11, x11, x12, x13, X14, x14, x15, K, k1, k2, rfl, hpath, harg, hargs⟩ := hp.parts
  obtain ⟨D1, d1, D2, d2, rfl, hyk, hyn, hyt, hyl, hyd⟩ := hy.parts
  obtain ⟨_, _, _, _, _, _, _, hat, _, _⟩ := harg.parts
  refine calls_intro (args := [_, _]) w.heap.size Go.Proofs.Tryz.func178 rfl Go.Proofs.Tryz.ntmps178 (by simp) (Nat.le_refl _) ?_
  (repeat' (first | refine Gk ?_ | refine sst_box rfl rfl rfl rfl rfl (fun b hb hlt => ?_) | refine sst_alloc tb_ok rfl rfl rfl EV (fun b hb hlt => ?_)))
  refine sst_guard rfl rfl rfl (fun h1 => ?_) (fun h1 => ?_)
  · (repeat' (first | refine Gk ?_ | refine sst_box rfl rfl rfl rfl rfl (fun b hb hlt => ?_) | refine sst_alloc tb_ok rfl rfl rfl EV (fun b hb hlt => ?_)))
    refine sst_call tb_ok rfl rfl rfl rfl rfl EV AP (fun v _ _ => v = .bool (glob a.t.data.toList y.t.data.toList)) ?_ ?_
    · exact fun w1 h1 => c218 _ _ hyt hat w1
    rintro v w1 w2 h2 hk2 rfl
    (repeat' (first | refine Gk ?_ | refine sst_box rfl rfl rfl rfl rfl (fun b hb hlt => ?_) | refine sst_alloc tb_ok rfl rfl rfl EV (fun b hb hlt => ?_)))
    refine sq_ret tb_ok rfl EV (fun w' hk hr => ?_)
    exact ⟨_, rfl, (h2.kp.then hk2).then hk, by simp only [oneOr, likeF, h1, Bool.true_and]⟩
  · (repeat' (first | refine Gk ?_ | refine sst_box rfl rfl rfl rfl rfl (fun b hb hlt => ?_) | refine sst_alloc tb_ok rfl rfl rfl EV (fun b hb hlt => ?_)))
    refine sq_ret tb_ok rfl EV (fun w' hk hr => ?_)
    exact ⟨_, rfl, hk, by simp only [oneOr, likeF, h1, Bool.false_and]⟩
end Go.Fw

set_option linter.unusedVariables false
set_option linter.unusedSimpArgs false
set_option maxRecDepth 10000
set_option maxHeartbeats 2000000
namespace Go.Fw
open Go
attribute [local irreducible] SWp SQ SSeq SSt Quiet Next Meet
attribute [local irreducible] MeetX ForkQ STr

theorem leafC_16 {S : Nat → Prop} {w : World} {p : List ByteArray} {a : Val} {al : List Val} {n : Int} {cs : List Value} (hp : PL S w 16 p a al n cs) : LeafC w cs (prefF a.t.data.toList) :=
  fun w1 hk S' y cy hy => c178_16 y p a al n _ _ w1 cs cy (hp.kp hk) hy
theorem leafC_17 {S : Nat → Prop} {w : World} {p : List ByteArray} {a : Val} {al : List Val} {n : Int} {cs : List Value} (hp : PL S w 17 p a al n cs) : LeafC w cs (likeF a.t.data.toList) :=
  fun w1 hk S' y cy hy => c178_17 y p a al n _ _ w1 cs cy (hp.kp hk) hy
def textC (s : ByteArray) : List Value := [.int .i64 4, .int .i64 0, .string s, .slice none 0 0, .slice none 0 0]
theorem textV_rep (S : Nat → Prop) (w : World) {s : ByteArray} (hs : s.size ≤ LIM) : RepV S w (textV s) (textC s) :=
  RepV.of (by simp [inI]) (by simp [inI]) hs (RepS.nil _ _ _ _) (RepD.nil _ _ _ _)
def bStar : ByteArray := ⟨#[42]⟩

/-- docstorelaw15.MatchLikes -/
theorem c6 (p : List ByteArray) (s : ByteArray) (d : Val) (S1 S4 : Nat → Prop) (w : World) (A : Option Addr) (m c : Nat) (cd : List Value) (hp : RepB S1 w A m c p) (hs : s.size + 1 ≤ LIM) (hd : RepV S4 w d cd) (hn : nodesV d ≤ 1048576) :
    Calls Go.Proofs.Tryz.prog 6 #[.slice A m c, .string s, .agg cd.toArray] w fun e w2 => ∃ v, e = .returned v ∧ Kp No w w2 ∧ v = .bool true := by
  obtain ⟨D1, d1, D2, d2, rfl, hdk, hdn, hdt, hdl, hdd⟩ := hd.parts
  have hd : RepV S4 w (.mk 5 d.n d.t d.l d.d) _ := RepV.of (by simp [inI]) hdn hdt hdl hdd
  have hs1 : s.size ≤ LIM := by omega
  have hs0 := hs
  rw [LIM_eq] at hs0
  have hsz := size_len s
  obtain ⟨s2, hs2⟩ : ∃ s2, s2 = s ++ bStar := ⟨_, rfl⟩
  have hl2 : s2.data.toList = s.data.toList ++ [42] := by rw [hs2]; simp [bStar]
  have hz2 : s2.size ≤ LIM := by have := size_len s2; rw [hl2] at this; simp at this; omega
  refine calls_intro (args := [_, _, _]) w.heap.size Go.Proofs.Tryz.func6 rfl Go.Proofs.Tryz.ntmps6 (by simp) (Nat.le_refl _) ?_
  (repeat' (first | refine G0 ?_ | refine sst_box rfl rfl rfl rfl rfl (fun b hb hlt => ?_) | refine sst_alloc tb_ok rfl rfl rfl EV (fun b hb hlt => ?_)))
  clear hb hlt
  revert b
  intro b5
  refine sst_call tb_ok rfl rfl rfl rfl rfl EV AP (fun v _ _ => v = .agg #[.int .i64 4, .int .i64 0, .string s, .slice none 0 0, .slice none 0 0]) ?_ ?_
  · exact fun w1 h1 => c24 _ w1
  rintro r w1 w2 h1 hk2 rfl
  have hk2 : Kp No w w2 := h1.kp.then hk2
  (repeat' (first | refine G0 ?_ | refine sst_box rfl rfl rfl rfl rfl (fun b hb hlt => ?_) | refine sst_alloc tb_ok rfl rfl rfl EV (fun b hb hlt => ?_)))
  clear hb hlt
  revert b
  intro b7
  refine sst_quiet rfl rfl (q_strAdd rfl rfl rfl (b := bStar) (by have : bStar.size = 1 := rfl; omega)) ?_
  rw [← hs2]
  (repeat' (first | refine G0 ?_ | refine sst_box rfl rfl rfl rfl rfl (fun b hb hlt => ?_) | refine sst_alloc tb_ok rfl rfl rfl EV (fun b hb hlt => ?_)))
  refine sst_call tb_ok rfl rfl rfl rfl rfl EV AP (fun v _ _ => v = .agg #[.int .i64 4, .int .i64 0, .string s2, .slice none 0 0, .slice none 0 0]) ?_ ?_
  · exact fun w1 h1 => c24 _ w1
  rintro r w3 w4 h3 hk4 rfl
  have hk4 : Kp No w w4 := (hk2.then h3.kp).then hk4
  (repeat' (first | refine G0 ?_ | refine sst_box rfl rfl rfl rfl rfl (fun b hb hlt => ?_) | refine sst_alloc tb_ok rfl rfl rfl EV (fun b hb hlt => ?_)))
  clear hb hlt
  revert b
  intro b8
  refine sst_call tb_ok rfl rfl rfl rfl rfl EV AP (fun v _ _ => ∃ b : Bool, v = .bool b ∧ (b = true → pathB p = true)) ?_ ?_
  · exact fun w5 h5 => c21_17 p _ S1 (fun _ => True) S4 (textV s) A none none m c 0 0 w5 _ (hp.kp (hk4.then h5.kp)) (textV_rep _ _ hs1) (hd.kp (hk4.then h5.kp))
  rintro v w5 w6 h5 hk6 ⟨b1, rfl, hb1⟩
  have hk6 : Kp No w w6 := (hk4.then h5.kp).then hk6
  cases b1 with
  | false =>
    (repeat' (first | refine Gk ?_ | refine sst_box rfl rfl rfl rfl rfl (fun b hb hlt => ?_) | refine sst_alloc tb_ok rfl rfl rfl EV (fun b hb hlt => ?_)))
    refine sst_call tb_ok rfl rfl rfl rfl rfl EV AP (fun v _ _ => v = .bool true) ?_ ?_
    · exact fun w3 h3 => c22 w3
    rintro v w7 w8 h7 hk8 rfl
    (repeat' (first | refine Gk ?_ | refine sst_box rfl rfl rfl rfl rfl (fun b hb hlt => ?_) | refine sst_alloc tb_ok rfl rfl rfl EV (fun b hb hlt => ?_)))
    refine sq_ret tb_ok rfl EV (fun w' hk hr => ?_)
    exact ⟨_, rfl, ((hk6.then h7.kp).then hk8).then hk, rfl⟩
  | true =>
  have hpb := hb1 rfl
  have hlim := leaves_doc hn hpb
  (repeat' (first | refine Gk ?_ | refine sst_box rfl rfl rfl rfl rfl (fun b hb hlt => ?_) | refine sst_alloc tb_ok rfl rfl rfl EV (fun b hb hlt => ?_)))
  refine sst_call tb_ok rfl rfl rfl rfl rfl EV AP (fun v _ _ => ∃ b : Bool, v = .bool b ∧ (b = true → pathB p = true)) ?_ ?_
  · exact fun w5 h5 => c21_17 p _ S1 (fun _ => True) S4 (textV s2) A none none m c 0 0 w5 _ (hp.kp (hk6.then h5.kp)) (textV_rep _ _ hz2) (hd.kp (hk6.then h5.kp))
  rintro v w7 w8 h7 hk8 ⟨b2, rfl, -⟩
  have hk8 : Kp No w w8 := (hk6.then h7.kp).then hk8
  cases b2 with
  | false =>
    (repeat' (first | refine Gk ?_ | refine sst_box rfl rfl rfl rfl rfl (fun b hb hlt => ?_) | refine sst_alloc tb_ok rfl rfl rfl EV (fun b hb hlt => ?_)))
    refine sst_call tb_ok rfl rfl rfl rfl rfl EV AP (fun v _ _ => v = .bool true) ?_ ?_
    · exact fun w3 h3 => c22 w3
    rintro v w9 w10 h9 hk10 rfl
    (repeat' (first | refine Gk ?_ | refine sst_box rfl rfl rfl rfl rfl (fun b hb hlt => ?_) | refine sst_alloc tb_ok rfl rfl rfl EV (fun b hb hlt => ?_)))
    refine sq_ret tb_ok rfl EV (fun w' hk hr => ?_)
    exact ⟨_, rfl, ((hk8.then h9.kp).then hk10).then hk, rfl⟩
  | true =>
  generalize hDv : Val.mk 5 d.n d.t d.l d.d = Dv at hd hlim
  have hDk : (Dv.k == 5) = true := by rw [← hDv]; rfl
  obtain ⟨a, ha⟩ : ∃ a, onP (fun _ => false) 2 p (textV s) [] 0 Dv = a := ⟨_, rfl⟩
  obtain ⟨b, hb⟩ : ∃ b, onP (prefF s.data.toList) 16 p (textV s) [] 0 Dv = b := ⟨_, rfl⟩
  (repeat' (first | refine Gk ?_ | refine sst_box rfl rfl rfl rfl rfl (fun b hb hlt => ?_) | refine sst_alloc tb_ok rfl rfl rfl EV (fun b hb hlt => ?_)))
  refine swp_loop (X := World × Nat) (fun y => Kp No w y.1 ∧ y.2 ≤ s.size ∧ ∀ c ∈ s.data.toList.take y.2, c ≠ 42 ∧ c ≠ 63)
    (fun y => ⟨77, [(9, .val (.int .i64 (y.2 : Int))), (0, .val (.slice A m c)), (1, .val (.string s)), (5, .loc 0 0), (7, .loc 1 0), (8, .loc 2 0)], [⟨b5, 26, [.int .i64 5, .int .i64 d.n, .string d.t, .slice D1 d.l.length d1, .slice D2 d.d.length d2], false⟩, ⟨b7, 35, [.int .i64 17, .slice A m c, .int .i64 4, .int .i64 0, .string s, .slice none 0 0, .slice none 0 0, .slice none 0 0, .int .i64 0, .int .i64 0, .int .i64 0, .slice none 0 0, .int .i64 0, .int .i64 0, .slice none 0 0, .string ⟨#[]⟩, .slice none 0 0, .int .i64 0, .int .i64 0, .string ⟨#[]⟩, .slice none 0 0, .slice none 0 0, .int .i64 0, .slice none 0 0, .slice none 0 0], false⟩, ⟨b8, 35, [.int .i64 17, .slice A m c, .int .i64 4, .int .i64 0, .string s2, .slice none 0 0, .slice none 0 0, .slice none 0 0, .int .i64 0, .int .i64 0, .int .i64 0, .slice none 0 0, .int .i64 0, .int .i64 0, .slice none 0 0, .string ⟨#[]⟩, .slice none 0 0, .int .i64 0, .int .i64 0, .string ⟨#[]⟩, .slice none 0 0, .slice none 0 0, .int .i64 0, .slice none 0 0, .slice none 0 0], false⟩], [], w.heap.size, y.1, No⟩) (fun y => s.size - y.2) ?_ ?_
  · intro w9 h9
    refine ⟨(w9, 0), ⟨hk8.then h9.kp, Nat.zero_le _, by simp⟩, ?_⟩
    (refine WKmk ?_; try trivial)
  rintro ⟨w9, i⟩ ⟨hk9, hi, hall⟩
  simp only at hk9 hi hall
  (repeat' (first | refine G0 ?_ | refine sst_box rfl rfl rfl rfl rfl (fun b hb hlt => ?_) | refine sst_alloc tb_ok rfl rfl rfl EV (fun b hb hlt => ?_)))
  refine swp_if rfl (fun h1 => ?_) (fun h1 => ?_)
  · have hi : i < s.size := by simp at h1; omega
    obtain ⟨c0, hc⟩ := get_of_lt (l := s.data.toList) (i := i) (by omega)
    (repeat' (first | refine G0 ?_ | refine sst_box rfl rfl rfl rfl rfl (fun b hb hlt => ?_) | refine sst_alloc tb_ok rfl rfl rfl EV (fun b hb hlt => ?_)))
    refine sst_quiet rfl rfl (q_strIndex tb_ok rfl str_9 rfl rfl i rfl hc) ?_
    (repeat' (first | refine G0 ?_ | refine sst_box rfl rfl rfl rfl rfl (fun b hb hlt => ?_) | refine sst_alloc tb_ok rfl rfl rfl EV (fun b hb hlt => ?_)))
    refine sst_guard rfl rfl rfl (fun h2 => ?_) (fun h2 => ?_)
    · (repeat' (first | refine Gk ?_ | refine sst_box rfl rfl rfl rfl rfl (fun b hb hlt => ?_) | refine sst_alloc tb_ok rfl rfl rfl EV (fun b hb hlt => ?_)))
      refine sst_call tb_ok rfl rfl rfl rfl rfl EV AP (fun v _ _ => v = .bool true) ?_ ?_
      · exact fun w3 h3 => c22 w3
      rintro v w11 w12 h11 hk12 rfl
      (repeat' (first | refine Gk ?_ | refine sst_box rfl rfl rfl rfl rfl (fun b hb hlt => ?_) | refine sst_alloc tb_ok rfl rfl rfl EV (fun b hb hlt => ?_)))
      refine sq_ret tb_ok rfl EV (fun w' hk hr => ?_)
      exact ⟨_, rfl, ((hk9.then h11.kp).then hk12).then hk, rfl⟩
    (repeat' (first | refine G0 ?_ | refine sst_box rfl rfl rfl rfl rfl (fun b hb hlt => ?_) | refine sst_alloc tb_ok rfl rfl rfl EV (fun b hb hlt => ?_)))
    refine sst_quiet rfl rfl (q_strIndex tb_ok rfl str_9 rfl rfl i rfl hc) ?_
    (repeat' (first | refine G0 ?_ | refine sst_box rfl rfl rfl rfl rfl (fun b hb hlt => ?_) | refine sst_alloc tb_ok rfl rfl rfl EV (fun b hb hlt => ?_)))
    refine swp_if rfl (fun h3 => ?_) (fun h3 => ?_)
    · (repeat' (first | refine Gk ?_ | refine sst_box rfl rfl rfl rfl rfl (fun b hb hlt => ?_) | refine sst_alloc tb_ok rfl rfl rfl EV (fun b hb hlt => ?_)))
      refine sst_call tb_ok rfl rfl rfl rfl rfl EV AP (fun v _ _ => v = .bool true) ?_ ?_
      · exact fun w3 h3 => c22 w3
      rintro v w11 w12 h11 hk12 rfl
      (repeat' (first | refine Gk ?_ | refine sst_box rfl rfl rfl rfl rfl (fun b hb hlt => ?_) | refine sst_alloc tb_ok rfl rfl rfl EV (fun b hb hlt => ?_)))
      refine sq_ret tb_ok rfl EV (fun w' hk hr => ?_)
      exact ⟨_, rfl, ((hk9.then h11.kp).then hk12).then hk, rfl⟩
    rw [u8_42] at h2
    rw [u8_63] at h3
    (repeat' (first | refine G0 ?_ | refine sst_box rfl rfl rfl rfl rfl (fun b hb hlt => ?_) | refine sst_alloc tb_ok rfl rfl rfl EV (fun b hb hlt => ?_)))
    refine sq_next fun w10 h10 => ?_
    refine ⟨(w10, i + 1), ⟨hk9.then h10.kp, by simp only []; omega, ?_⟩, by simp only []; omega, ?_⟩
    · simp only []
      rw [take_snoc hc]
      intro x hx
      rcases List.mem_append.1 hx with hx | hx
      · exact hall x hx
      · obtain rfl := List.mem_singleton.1 hx
        exact ⟨by simpa using h2, by simpa using h3⟩
    · (refine WKmk ?_; try trivial)
      rw [wr_small (by omega)]
      simp
  have hie : i = s.size := by simp at h1; omega
  rw [hie, hsz, List.take_length] at hall
  have hla : onP (likeF s.data.toList) 17 p (textV s) [] 0 Dv = a := by
    rw [← ha, onP_else _ _ _ _ _ _ _ (.inr rfl), onP_eq2]
    congr 1
    funext y
    exact like_eq hall y
  have hlb : onP (likeF s2.data.toList) 17 p (textV s2) [] 0 Dv = b := by
    rw [← hb, onP_else _ _ _ _ _ _ _ (.inr rfl), onP_else _ _ _ _ _ _ _ (.inl rfl), hl2]
    congr 1
    funext y
    exact like_prefix hall y
  have go : ∀ (f : Val → Bool) (op : Int) (a : Val) (al : List Val) (n : Int) (w1 : World) (cs : List Value) (r : Bool), PL (fun _ => True) w1 op p a al n cs → Kp No w w1 → opOK op → ((op ≠ 10 ∧ ¬ (2 ≤ op ∧ op ≤ 9) ∧ op ≠ 14) → LeafC w1 cs f) → onP f op p a al n Dv = r →
      Calls Go.Proofs.Tryz.prog 23 #[.agg cs.toArray, .agg #[.int .i64 5, .int .i64 d.n, .string d.t, .slice D1 d.l.length d1, .slice D2 d.d.length d2]] w1 fun e w2 => ∃ v, e = .returned v ∧ Kp No w1 w2 ∧ v = .bool r := by
    intro f op a al n w1 cs r hP hk hop hno he
    have := c23 Dv f op p a al n (fun _ => True) S4 w1 cs _ hP (hd.kp hk) hlim hop hno
    rw [hDk, he, Bool.true_and] at this
    exact this
  have hk8 := hk9
  clear hk9 h1 hie hi hall
  (repeat' (first | refine G0 ?_ | refine sst_box rfl rfl rfl rfl rfl (fun b hb hlt => ?_) | refine sst_alloc tb_ok rfl rfl rfl EV (fun b hb hlt => ?_)))
  refine swp_draw mixed [0, 1, 4, 2, 3, 5, 6] [] (by kernel_rfl) (by kernel_rfl) rfl ?_
  (repeat' (first | refine G0 ?_ | refine sst_box rfl rfl rfl rfl rfl (fun b hb hlt => ?_) | refine sst_alloc tb_ok rfl rfl rfl EV (fun b hb hlt => ?_)))
  refine sst_call tb_ok rfl rfl rfl rfl rfl EV AP (fun v _ _ => v = .agg #[.int .i64 4, .int .i64 0, .string s, .slice none 0 0, .slice none 0 0]) ?_ ?_
  · exact fun w1 h1 => c24 _ w1
  rintro r w11 w12 h11 hk12 rfl
  have hk12 : Kp No w w12 := (hk8.then h11.kp).then hk12
  (repeat' (first | refine G0 ?_ | refine sst_box rfl rfl rfl rfl rfl (fun b hb hlt => ?_) | refine sst_alloc tb_ok rfl rfl rfl EV (fun b hb hlt => ?_)))
  refine sst_call tb_ok rfl rfl rfl rfl rfl EV AP (fun v _ _ => v = .bool a) ?_ ?_
  · exact fun w7 h7 => go _ 2 (textV s) [] 0 w7 _ _ (pred_arg (hp.kp (hk12.then h7.kp)) (textV_rep (fun _ => True) _ hs1)) (hk12.then h7.kp) (by unfold opOK; omega) (fun h => absurd h (by omega)) ha
  rintro v w13 w14 h13 hk14 rfl
  have hk14 : Kp No w w14 := (hk12.then h13.kp).then hk14
  (repeat' (first | refine G0 ?_ | refine sst_box rfl rfl rfl rfl rfl (fun b hb hlt => ?_) | refine sst_alloc tb_ok rfl rfl rfl EV (fun b hb hlt => ?_)))
  refine swp_draw mixed [0, 1, 4, 2, 3, 5, 6] [] (by kernel_rfl) (by kernel_rfl) rfl ?_
  (repeat' (first | refine G0 ?_ | refine sst_box rfl rfl rfl rfl rfl (fun b hb hlt => ?_) | refine sst_alloc tb_ok rfl rfl rfl EV (fun b hb hlt => ?_)))
  refine sst_call tb_ok rfl rfl rfl rfl rfl EV AP (fun v _ _ => v = .agg #[.int .i64 4, .int .i64 0, .string s, .slice none 0 0, .slice none 0 0]) ?_ ?_
  · exact fun w1 h1 => c24 _ w1
  rintro r w15 w16 h15 hk16 rfl
  have hk16 : Kp No w w16 := (hk14.then h15.kp).then hk16
  (repeat' (first | refine G0 ?_ | refine sst_box rfl rfl rfl rfl rfl (fun b hb hlt => ?_) | refine sst_alloc tb_ok rfl rfl rfl EV (fun b hb hlt => ?_)))
  refine sst_call tb_ok rfl rfl rfl rfl rfl EV AP (fun v _ _ => v = .bool b) ?_ ?_
  · exact fun w7 h7 => go _ 16 (textV s) [] 0 w7 _ _ (pred_arg (hp.kp (hk16.then h7.kp)) (textV_rep (fun _ => True) _ hs1)) (hk16.then h7.kp) (by unfold opOK; omega) (fun _ => leafC_16 (pred_arg (hp.kp (hk16.then h7.kp)) (textV_rep (fun _ => True) _ hs1))) hb
  rintro v w17 w18 h17 hk18 rfl
  have hk18 : Kp No w w18 := (hk16.then h17.kp).then hk18
  (repeat' (first | refine G0 ?_ | refine sst_box rfl rfl rfl rfl rfl (fun b hb hlt => ?_) | refine sst_alloc tb_ok rfl rfl rfl EV (fun b hb hlt => ?_)))
  refine sst_call tb_ok rfl rfl rfl rfl rfl EV AP (fun v _ _ => v = .bool a) ?_ ?_
  · exact fun w7 h7 => go _ 17 (textV s) [] 0 w7 _ _ (pred_arg (hp.kp (hk18.then h7.kp)) (textV_rep (fun _ => True) _ hs1)) (hk18.then h7.kp) (by unfold opOK; omega) (fun _ => leafC_17 (pred_arg (hp.kp (hk18.then h7.kp)) (textV_rep (fun _ => True) _ hs1))) hla
  rintro v w19 w20 h19 hk20 rfl
  have hk20 : Kp No w w20 := (hk18.then h19.kp).then hk20
  clear ha hla
  obtain ⟨b', hb'⟩ : ∃ b', b' = b := ⟨_, rfl⟩
  rw [← hb'] at hlb
  cases a
  all_goals
    (repeat' (first | refine Gk ?_ | refine sst_box rfl rfl rfl rfl rfl (fun b hb hlt => ?_) | refine sst_alloc tb_ok rfl rfl rfl EV (fun b hb hlt => ?_)))
  all_goals
    refine sst_call tb_ok rfl rfl rfl rfl rfl EV AP (fun v _ _ => v = .bool b') ?_ ?_
  all_goals first
    | exact fun w7 h7 => go _ 17 (textV s2) [] 0 w7 _ _ (pred_arg (hp.kp (hk20.then h7.kp)) (textV_rep (fun _ => True) _ hz2)) (hk20.then h7.kp) (by unfold opOK; omega) (fun _ => leafC_17 (pred_arg (hp.kp (hk20.then h7.kp)) (textV_rep (fun _ => True) _ hz2))) hlb
    | skip
  all_goals
    rintro v w21 w22 h21 hk22 rfl
    have hk22 : Kp No w w22 := (hk20.then h21.kp).then hk22
    clear go hlb hb
    subst hb'
    cases b'
  all_goals
    (repeat' (first | refine Gk ?_ | refine sst_box rfl rfl rfl rfl rfl (fun b hb hlt => ?_) | refine sst_alloc tb_ok rfl rfl rfl EV (fun b hb hlt => ?_)))
  all_goals
    refine sst_call tb_ok rfl rfl rfl rfl rfl EV AP (fun v _ _ => v = .bool true) ?_ ?_
  all_goals first
    | exact fun w1 h1 => c22 w1
    | skip
  all_goals
    rintro v w23 w24 h23 hk24 rfl
    (repeat' (first | refine Gk ?_ | refine sst_box rfl rfl rfl rfl rfl (fun b hb hlt => ?_) | refine sst_alloc tb_ok rfl rfl rfl EV (fun b hb hlt => ?_)))
    refine sq_ret tb_ok rfl EV (fun w' hk hr => ?_)
    exact ⟨_, rfl, ((hk22.then h23.kp).then hk24).then hk, rfl⟩
end Go.Fw
