/- Helping lemmas for the cards of this seat's laws, of the texts: V2, W5, V3, W6. They state no law of their own. -/
import Derived.Test.YtmpngkngkoigmaaGreatDoorCmp
import Derived.Test.YtmpngkngkoigmaaGreatDoorKitC
set_option linter.unusedVariables false
set_option linter.unusedSimpArgs false
namespace Go.Fw
open Go

/-! ### Rows cut in elements -/

def sl (size : Nat) (xs : List Value) (i : Nat) : List Value := (xs.drop (i * size)).take size

theorem sl_get {size : Nat} {xs : List Value} {i j : Nat} {u : Value} (h : (sl size xs i)[j]? = some u) : xs[i * size + j]? = some u := by
  unfold sl at h
  rw [List.getElem?_take] at h
  split at h
  · rw [List.getElem?_drop] at h; exact h
  · cases h

theorem mul_lt_le {i n size : Nat} (hi : i < n) : i * size + size ≤ n * size := by
  have : (i + 1) * size ≤ n * size := Nat.mul_le_mul_right _ hi
  rw [Nat.succ_mul] at this
  exact this

theorem sl_length {size n : Nat} {xs : List Value} {i : Nat} (h : xs.length = n * size) (hi : i < n) : (sl size xs i).length = size := by
  have := mul_lt_le (size := size) hi
  unfold sl; rw [List.length_take, List.length_drop, h]
  omega

theorem sl_put_same {size : Nat} {xs vs : List Value} {i : Nat} (hv : vs.length = size) (h : i * size + size ≤ xs.length) : sl size (putL xs (i * size) vs) i = vs := by
  rw [putL_append _ _ _ (by omega)]
  unfold sl
  rw [List.append_assoc, List.drop_left' (by rw [List.length_take]; omega), List.take_left' hv]

theorem putL_ne : ∀ (vs : List Value) (off q : Nat) (xs : List Value), (q < off ∨ off + vs.length ≤ q) → (putL xs off vs)[q]? = xs[q]?
  | [], off, q, xs, h => rfl
  | v :: vs, off, q, xs, h => by
    simp only [List.length_cons] at h
    simp only [putL]
    rw [putL_ne vs (off + 1) q _ (by omega), List.getElem?_set_ne (by omega)]

theorem sl_put_ne {size : Nat} {xs vs : List Value} {i j : Nat} (hv : vs.length = size) (hij : j ≠ i) : sl size (putL xs (i * size) vs) j = sl size xs j := by
  unfold sl
  apply List.ext_getElem?
  intro m
  rw [List.getElem?_take, List.getElem?_take]
  split
  · rw [List.getElem?_drop, List.getElem?_drop, putL_ne]
    rcases Nat.lt_or_gt_of_ne hij with h | h
    · have := mul_lt_le (size := size) h; omega
    · have := mul_lt_le (size := size) h; omega
  · rfl

theorem sl_append_old {size n : Nat} {xs ys : List Value} {i : Nat} (h : xs.length = n * size) (hi : i < n) : sl size (xs ++ ys) i = sl size xs i := by
  have := mul_lt_le (size := size) hi
  unfold sl
  rw [List.drop_append_of_le_length (by omega), List.take_append_of_le_length (by rw [List.length_drop]; omega)]

theorem sl_append_new {size n : Nat} {xs ys : List Value} {i : Nat} (h : xs.length = n * size) : sl size (xs ++ ys) (n + i) = sl size ys i := by
  unfold sl
  rw [Nat.add_mul, ← List.drop_drop, List.drop_left' h]

theorem sl_all {size : Nat} {ys : List Value} (h : ys.length = size) : sl size ys 0 = ys := by
  unfold sl; rw [Nat.zero_mul, List.drop_zero, List.take_of_length_le (by omega)]

theorem RowAt.ofOwns {w : World} {base e size n : Nat} {v : Value} {xs : List Value} (ho : w.ownsRow base e size v n xs) {g : Nat} (hg : v.ownBlock = some g) (i : Nat) : RowAt w g (0 + i * size) (sl size xs i) := by
  intro j u hj
  have := ho.cells hg _ u (sl_get hj)
  rw [add_mk] at this
  rw [show 0 + i * size + j = i * size + j from by omega]
  simpa using this

theorem RepS.ofRow {S : Nat → Prop} {w : World} {base n : Nat} {v : Value} {xs : List Value} {l : List Val} (ho : w.ownsRow base 26 5 v n xs) (hn : n = l.length) (hb : n * 80 ≤ LIM) (hS : ∀ g, v.ownBlock = some g → S g)
    (he : ∀ (i : Nat) (x : Val), l[i]? = some x → RepV S w x (sl 5 xs i)) : ∃ A c, v = .slice A n c ∧ RepS S w A n c l := by
  rcases ho.2 with ⟨rfl, rfl⟩ | ⟨g, cap, cur, rfl, _, hgg, hnc, _, _, _⟩
  · cases l with
    | nil => exact ⟨_, _, rfl, RepS.nil _ _ _ _⟩
    | cons x l => simp at hn
  · exact ⟨_, _, rfl, hn, hb, hnc, fun i => sl 5 xs i, .inr ⟨g, 0, rfl, hS g rfl, fun i hi => ⟨sl_length ho.1 hi, RowAt.ofOwns ho rfl i⟩⟩, he⟩

theorem RepD.ofRow {S : Nat → Prop} {w : World} {base n : Nat} {v : Value} {xs : List Value} {d : List (ByteArray × Val)} (ho : w.ownsRow base 114 6 v n xs) (hn : n = d.length) (hb : n * 96 ≤ LIM) (hS : ∀ g, v.ownBlock = some g → S g)
    (he : ∀ (i : Nat) (f : ByteArray × Val), d[i]? = some f → f.1.size ≤ LIM ∧ ∃ cs, sl 6 xs i = .string f.1 :: cs ∧ RepV S w f.2 cs) : ∃ A c, v = .slice A n c ∧ RepD S w A n c d := by
  rcases ho.2 with ⟨rfl, rfl⟩ | ⟨g, cap, cur, rfl, _, hgg, hnc, _, _, _⟩
  · cases d with
    | nil => exact ⟨_, _, rfl, RepD.nil _ _ _ _⟩
    | cons x l => simp at hn
  · refine ⟨_, _, rfl, hn, hb, hnc, fun i => sl 6 xs i, fun i => (sl 6 xs i).tail, .inr ⟨g, 0, rfl, hS g rfl, fun i hi => ⟨sl_length ho.1 hi, RowAt.ofOwns ho rfl i⟩⟩, ?_, ?_⟩
    · intro i f hf
      obtain ⟨h1, cs, h2, h3⟩ := he i f hf
      simp only [h2]; exact ⟨rfl, h1⟩
    · intro i f hf
      obtain ⟨h1, cs, h2, h3⟩ := he i f hf
      simp only [h2]; exact h3

/-! ### Paths that meet -/

section
variable {P : Program} {Q : Exit → Act → World → Prop} {s : Sym}

def MeetX {X : Type} (Inv : X → Prop) (St : X → Sym) (Q : Exit → Act → World → Prop) : Exit → Act → World → Prop
  | .normal, a, w => ∃ x, Inv x ∧ Fits (St x) a w
  | e, a, w => Q e a w

theorem swp_meetX {X : Type} {x y : Code} (Inv : X → Prop) (St : X → Sym) (hx : SWp P x (MeetX Inv St Q) s) (hy : ∀ x, Inv x → SWp P y Q (St x)) : SWp P (.seq x y) Q s :=
  fun a w hf => wp_seq (wp_mono (hx a w hf) fun e a' w' h => by
    cases e with
    | normal => obtain ⟨x, h1, h2⟩ := h; exact hy x h1 a' w' h2
    | _ => exact h)

theorem wpSeqK_app {X : Type} {Inv : X → Prop} {St : X → Sym} {ops : Array Oper} {nk : List Nat} {l2 : List (Nat × Oper)} (h2 : ∀ x, Inv x → SSeq P ops nk Q l2 (St x)) : ∀ (l1 : List (Nat × Oper)) (a : Act) (w : World),
    wpSeqK P ops nk (MeetX Inv St Q) l1 a w → wpSeqK P ops nk Q (l1 ++ l2) a w
  | [], a, w, ⟨x, h3, h4⟩ => h2 x h3 a w h4
  | (i, o) :: l1, a, w, h => by
    simp only [List.cons_append, wpSeqK] at h ⊢
    split
    · rename_i hw
      rw [if_pos hw] at h
      rcases h with ⟨v, hv, hr⟩ | ⟨hn, hr⟩
      · exact .inl ⟨v, hv, wpSeqK_app h2 l1 _ _ hr⟩
      · refine .inr ⟨hn, ?_⟩
        refine Oper.wp_mono (K := fun a' w' => (nk.contains i = false → Kp No w w') ∧ wpSeqK P ops nk (MeetX Inv St Q) l1 a' w') (fun a' w' h' => ⟨h'.1, wpSeqK_app h2 l1 _ _ h'.2⟩) ?_
        unfold Oper.wp at hr ⊢
        generalize (execOp a.eval o).run P w = r at *
        cases r with
        | ok n w' => cases n <;> exact hr
        | halt h w' => cases h <;> exact hr
    · rename_i hw
      rw [if_neg hw] at h
      exact wpSeqK_app h2 l1 _ _ h

theorem sseq_cut {X : Type} {ops : Array Oper} {nk : List Nat} {l : List (Nat × Oper)} (n : Nat) (Inv : X → Prop) (St : X → Sym) (h1 : SSeq P ops nk (MeetX Inv St Q) (l.take n) s) (h2 : ∀ x, Inv x → SSeq P ops nk Q (l.drop n) (St x)) : SSeq P ops nk Q l s := by
  intro a w hf
  rw [← List.take_append_drop n l]
  exact wpSeqK_app h2 _ _ _ (h1 a w hf)

theorem sq_meetX {X : Type} {Inv : X → Prop} {St : X → Sym} (h : ∀ w, At s w → ∃ x, Inv x ∧ Wk (s.rebase w) (St x)) : SQ (MeetX Inv St Q) .normal s := fun a w hf => by
  obtain ⟨x, h1, h2⟩ := h w hf.at
  exact ⟨x, h1, hf.rebase.weak h2⟩
theorem sq_meetX_ret {X : Type} {Inv : X → Prop} {St : X → Sym} (h : SQ Q .ret s) : SQ (MeetX Inv St Q) .ret s := h
theorem sq_meetX_exit {X : Type} {Inv : X → Prop} {St : X → Sym} {i : Nat} (h : SQ Q (.exit i) s) : SQ (MeetX Inv St Q) (.exit i) s := h
end

theorem Kp.thenNew {D : Nat → Prop} {a b c : World} (h : Kp No a b) (k : Kp D b c) (hD : ∀ k, D k → a.heap.size ≤ k) : Kp No a c :=
  ⟨k.os.trans h.os, k.tape.trans h.tape, k.output.trans h.output, Nat.le_trans h.size k.size, fun i hi _ => by
    rw [k.block i (Nat.lt_of_lt_of_le hi h.size) (fun hd => by have := hD i hd; omega)]
    exact h.block i hi id⟩
end Go.Fw

set_option linter.unusedVariables false
set_option linter.unusedSimpArgs false
set_option maxRecDepth 10000
set_option maxHeartbeats 2000000
namespace Go.Fw
open Go
attribute [local irreducible] SWp SQ SSeq SSt Quiet Next Meet
attribute [local irreducible] MeetX

/-- the clone of a value: the same value in fresh blocks -/
def CloneC (x : Val) : Prop := ∀ (S : Nat → Prop) (w : World) (cs : List Value), RepV S w x cs →
  Calls Go.Proofs.Tryz.prog 128 #[.agg cs.toArray] w fun e w2 => ∃ v, e = .returned v ∧ Kp No w w2 ∧ ∃ cs' : List Value, v = .agg cs'.toArray ∧ RepV (fun b => w.heap.size ≤ b) w2 x cs'

theorem clone_step (x : Val) (H1 : ∀ z ∈ x.l, CloneC z) (H2 : ∀ z ∈ x.d, CloneC z.2) : CloneC x := by
  intro S w cs hx
  obtain ⟨k, n, t, l, d⟩ := x
  obtain ⟨A, c, B, c1, rfl, hk', hn, ht, hl, hd⟩ := hx.parts
  simp only [Val.k, Val.n, Val.t, Val.l, Val.d] at *
  have hlb := hl.2.1
  have hdb := hd.2.1
  rw [LIM_eq] at hlb hdb
  refine calls_intro (args := [_]) w.heap.size Go.Proofs.Tryz.func128 rfl Go.Proofs.Tryz.ntmps128 (by simp) (Nat.le_refl _) ?_
  (refine swp_seq ?_; refine swp_region ?_; (repeat' (first | refine Gr ?_ | refine sst_box rfl rfl rfl rfl rfl (fun b hb hlt => ?_) | refine sst_alloc tb_ok rfl rfl rfl EV (fun b hb hlt => ?_))))
  rename_i b0 hb0' hlt0
  have hb0 : w.heap.size ≤ b0 := hb0'
  have hb1 : w.heap.size ≤ b := hb
  have hb01 : b0 < b := hlt b0 (by simp [Sym.blocks, start, Sym.put, Sym.addL])
  clear hb hlt hb0' hlt0
  revert b
  intro b1 hb1 hb01
  refine swp_meetX (X := World × Option Addr × Nat) (fun x => Kp No w x.1 ∧ RepS (fun b => w.heap.size ≤ b ∧ b ≠ b0 ∧ b ≠ b1) x.1 x.2.1 l.length x.2.2 l)
    (fun x => ⟨60, [(1, .loc 0 0), (2, .loc 1 0)], [⟨b0, 26, [.int .i64 k, .int .i64 n, .string t, .slice x.2.1 l.length x.2.2, .slice B d.length c1], false⟩, ⟨b1, 26, [.int .i64 0, .int .i64 0, .string ⟨#[]⟩, .slice none 0 0, .slice none 0 0], false⟩], [], w.heap.size, x.1, No⟩) ?_ ?_
  · (repeat' (first | refine G0 ?_ | refine sst_box rfl rfl rfl rfl rfl (fun b hb hlt => ?_) | refine sst_alloc tb_ok rfl rfl rfl EV (fun b hb hlt => ?_)))
    refine swp_if rfl (fun h1 => ?_) (fun h1 => ?_)
    · have hA : A.isNone = false := by simpa using h1
      (repeat' (first | refine G0 ?_ | refine sst_box rfl rfl rfl rfl rfl (fun b hb hlt => ?_) | refine sst_alloc tb_ok rfl rfl rfl EV (fun b hb hlt => ?_)))
      refine sst_make tb_ok rfl rfl rfl EV EV (by rfl) l.length l.length rfl rfl (Nat.le_refl _) (by omega) (fun g hg hgl => ?_)
      have hgw : w.heap.size ≤ g := hg
      have hgb0 : b0 < g := hgl b0 (by simp [Sym.blocks, Sym.put, Sym.know])
      have hgb1 : b1 < g := hgl b1 (by simp [Sym.blocks, Sym.put, Sym.know])
      clear hg hgl
      (repeat' (first | refine G0 ?_ | refine sst_box rfl rfl rfl rfl rfl (fun b hb hlt => ?_) | refine sst_alloc tb_ok rfl rfl rfl EV (fun b hb hlt => ?_)))
      refine swp_loop (X := World × Nat × List Value) (fun x => Kp No w x.1 ∧ x.2.1 ≤ l.length ∧ x.2.2.length = l.length * 5 ∧ ∀ (j : Nat) z, j < x.2.1 → l[j]? = some z → RepV (fun b => w.heap.size ≤ b ∧ b ≠ b0 ∧ b ≠ b1 ∧ b ≠ g) x.1 z (sl 5 x.2.2 j))
        (fun x => ⟨60, [(19, .val (.int .i64 (x.2.1 : Int))), (18, .val (.int .i64 (l.length : Int))), (17, .val (.slice A l.length c)), (3, .val (.slice (some ⟨g, 0, none⟩) l.length l.length)), (1, .loc 0 0), (2, .loc 1 0)], [⟨b0, 26, [.int .i64 k, .int .i64 n, .string t, .slice A l.length c, .slice B d.length c1], false⟩, ⟨b1, 26, [.int .i64 0, .int .i64 0, .string ⟨#[]⟩, .slice none 0 0, .slice none 0 0], false⟩], [⟨.slice (some ⟨g, 0, none⟩) l.length l.length, 26, 5, l.length, x.2.2, false⟩], w.heap.size, x.1, No⟩) (fun x => l.length - x.2.1) ?_ ?_
      · intro w1 h1
        have h5 := (h1.row _ (by simp [Sym.put, Sym.addR, Sym.addL]; rfl)).1
        refine ⟨(w1, 0, _), ⟨h1.kp, Nat.zero_le _, h5, by simp⟩, ?_⟩
        (refine WKmk ?_; try trivial)
      rintro ⟨w1, i, xs⟩ ⟨hk1, hi, hxl, hel⟩
      simp only at hk1 hi hxl hel
      (repeat' (first | refine G0 ?_ | refine sst_box rfl rfl rfl rfl rfl (fun b hb hlt => ?_) | refine sst_alloc tb_ok rfl rfl rfl EV (fun b hb hlt => ?_)))
      refine swp_if rfl (fun h2 => ?_) (fun h2 => ?_)
      · have hi : i < l.length := by simp at h2; omega
        obtain ⟨z, hz⟩ := get_of_lt hi
        obtain ⟨bz, off, cz, rfl, hSb, hin, hcl, hrow, hrz⟩ := hl.get hz
        obtain ⟨B1, m1, B2, m2, rfl, -⟩ := hrz.parts
        (repeat' (first | refine G0 ?_ | refine sst_box rfl rfl rfl rfl rfl (fun b hb hlt => ?_) | refine sst_alloc tb_ok rfl rfl rfl EV (fun b hb hlt => ?_)))
        refine sst_quiet rfl rfl (q_index tb_ok rfl el_23 rfl rfl i rfl hin) ?_
        (repeat' (first | refine G0 ?_ | refine sst_box rfl rfl rfl rfl rfl (fun b hb hlt => ?_) | refine sst_alloc tb_ok rfl rfl rfl EV (fun b hb hlt => ?_)))
        refine sst_quiet rfl rfl (q_far_agg tb_ok rfl sz_26 rfl id hcl (hrow.kp hk1 id)) ?_
        (repeat' (first | refine G0 ?_ | refine sst_box rfl rfl rfl rfl rfl (fun b hb hlt => ?_) | refine sst_alloc tb_ok rfl rfl rfl EV (fun b hb hlt => ?_)))
        refine sst_call tb_ok rfl rfl rfl rfl rfl EV AP (fun v wa wb => ∃ cs' : List Value, v = .agg cs'.toArray ∧ RepV (fun b => wa.heap.size ≤ b) wb z cs') ?_ ?_
        · exact fun w2 h2 => H1 z (List.mem_of_getElem? hz) S w2 _ (hrz.kp (hk1.then h2.kp))
        rintro v w2 w3 h2 hk3 ⟨cs', rfl, hrz'⟩
        have hcl' := hrz'.length
        obtain ⟨B1', m1', B2', m2', rfl, -⟩ := hrz'.parts
        (repeat' (first | refine G0 ?_ | refine sst_box rfl rfl rfl rfl rfl (fun b hb hlt => ?_) | refine sst_alloc tb_ok rfl rfl rfl EV (fun b hb hlt => ?_)))
        refine sst_quiet rfl rfl (q_index tb_ok rfl el_23 rfl rfl i rfl hin) ?_
        (repeat' (first | refine G0 ?_ | refine sst_box rfl rfl rfl rfl rfl (fun b hb hlt => ?_) | refine sst_alloc tb_ok rfl rfl rfl EV (fun b hb hlt => ?_)))
        refine sst_rowStore tb_ok rfl rfl rfl rfl rfl 0 rfl rfl EV rfl EV (by rfl) ?_ (by rfl) ?_
        · have := mul_lt_le (size := 5) hi
          simp only [hxl]; omega
        (repeat' (first | refine G0 ?_ | refine sst_box rfl rfl rfl rfl rfl (fun b hb hlt => ?_) | refine sst_alloc tb_ok rfl rfl rfl EV (fun b hb hlt => ?_)))
        refine sq_next fun w4 h4 => ?_
        have hlt := h2.lt
        simp only [Sym.blocks, Sym.put, Sym.addL, List.map_cons, List.map_nil, List.filterMap_cons, Value.ownBlock, List.filterMap_nil] at hlt
        have hb0' : b0 < w2.heap.size := hlt b0 (by simp)
        have hb1' : b1 < w2.heap.size := hlt b1 (by simp)
        have hg' : g < w2.heap.size := hlt g (by simp)
        have hk13 : Kp No w1 w3 := h2.kp.then hk3
        have hk4 := h4.kp
        have hD : ∀ k, dirtyV No (.slice (some ⟨g, 0, none⟩) l.length l.length) k → k = g := by
          intro k hk
          rcases hk with hk | hk
          · simpa [Value.ownBlock, eq_comm] using hk
          · exact hk.elim
        refine ⟨(w4, i + 1, putL xs (i * 5) [.int .i64 z.k, .int .i64 z.n, .string z.t, .slice B1' z.l.length m1', .slice B2' z.d.length m2']), ⟨(hk1.then hk13).thenNew hk4 (fun k hk => by rw [hD k hk]; exact hgw), by simp; omega, ?_, ?_⟩, by simp; omega, ?_⟩
        rotate_left 2
        · (refine WKmk ?_; try trivial)
          rw [wr_small (by omega)]
          simp
        · simp only [putL_length, hxl]
        · intro j y hj hy
          by_cases hji : j = i
          · subst hji
            rw [hz] at hy
            obtain rfl := Option.some.inj hy
            have hsl := sl_put_same (size := 5) (xs := xs) (i := j) (vs := [.int .i64 z.k, .int .i64 z.n, .string z.t, .slice B1' z.l.length m1', .slice B2' z.d.length m2']) rfl (by have := mul_lt_le (size := 5) hi; omega)
            rw [hsl]
            exact hrz'.to hk4 (fun b' hb' _ => ⟨fun hd' => by have := hD _ hd'; omega, by omega, by omega, by omega, by omega⟩)
          · have hsl := sl_put_ne (size := 5) (xs := xs) (i := i) (vs := [.int .i64 z.k, .int .i64 z.n, .string z.t, .slice B1' z.l.length m1', .slice B2' z.d.length m2']) rfl hji
            rw [hsl]
            exact (hel j y (by simp at hj; omega) hy).to (hk13.of_no.trans hk4) (fun b' hb' _ => ⟨fun hd' => hb'.2.2.2 (hD _ hd'), hb'⟩)
      · (repeat' (first | refine G0 ?_ | refine sst_box rfl rfl rfl rfl rfl (fun b hb hlt => ?_) | refine sst_alloc tb_ok rfl rfl rfl EV (fun b hb hlt => ?_)))
        refine sq_meetX fun w4 h4 => ?_
        have hk4 := h4.kp
        have hD : ∀ k, dirty No b0 k → k = b0 := fun k hk => hk.elim id False.elim
        have hie : i = l.length := by simp at h2; omega
        obtain ⟨A', c', hv, hrs⟩ := RepS.ofRow (S := fun b => w.heap.size ≤ b ∧ b ≠ b0 ∧ b ≠ b1) (h4.row _ (by simp [Sym.put, Sym.addR, Sym.addL]; rfl)) rfl hl.2.1 (fun g' hg' => by simp [Value.ownBlock] at hg'; omega)
          (fun j y hy => (hel j y (by rw [hie]; exact (List.getElem?_eq_some_iff.1 hy).1) hy).to hk4 (fun b' hb' _ => ⟨fun hd' => hb'.2.1 (hD _ hd'), hb'.1, hb'.2.1, hb'.2.2.1⟩))
        obtain ⟨rfl, rfl⟩ : A' = some ⟨g, 0, none⟩ ∧ c' = l.length := by simpa [eq_comm] using hv
        refine ⟨(w4, _, _), ⟨hk1.thenNew hk4 (fun k hk => by rw [hD k hk]; exact hb0), hrs⟩, ?_⟩
        (refine WKmk ?_; try trivial)
    · have hA : A = none := by simpa using h1
      subst hA
      have hl0 : l = [] := by
        rcases hl.2.2.2 with ⟨C, h3 | ⟨b, off, h3, _⟩, _⟩
        · exact List.length_eq_zero_iff.1 h3
        · cases h3
      subst hl0
      (repeat' (first | refine G0 ?_ | refine sst_box rfl rfl rfl rfl rfl (fun b hb hlt => ?_) | refine sst_alloc tb_ok rfl rfl rfl EV (fun b hb hlt => ?_)))
      refine sq_meetX fun w4 h4 => ?_
      refine ⟨(w4, none, c), ⟨h4.kp, RepS.nil _ _ _ _⟩, ?_⟩
      (refine WKmk ?_; try trivial)
  rintro ⟨wL, A1, cA⟩ ⟨hkL, hlL⟩
  simp only at hkL hlL
  refine swp_meetX (X := World × Option Addr × Nat) (fun x => Kp No w x.1 ∧ RepS (fun b => w.heap.size ≤ b ∧ b ≠ b0 ∧ b ≠ b1) x.1 A1 l.length cA l ∧ RepD (fun b => w.heap.size ≤ b ∧ b ≠ b0 ∧ b ≠ b1) x.1 x.2.1 d.length x.2.2 d)
    (fun x => ⟨60, [(1, .loc 0 0), (2, .loc 1 0)], [⟨b0, 26, [.int .i64 k, .int .i64 n, .string t, .slice A1 l.length cA, .slice x.2.1 d.length x.2.2], false⟩, ⟨b1, 26, [.int .i64 0, .int .i64 0, .string ⟨#[]⟩, .slice none 0 0, .slice none 0 0], false⟩], [], w.heap.size, x.1, No⟩) ?_ ?_
  · (repeat' (first | refine G0 ?_ | refine sst_box rfl rfl rfl rfl rfl (fun b hb hlt => ?_) | refine sst_alloc tb_ok rfl rfl rfl EV (fun b hb hlt => ?_)))
    refine swp_if rfl (fun h1 => ?_) (fun h1 => ?_)
    · have hA : B.isNone = false := by simpa using h1
      (repeat' (first | refine G0 ?_ | refine sst_box rfl rfl rfl rfl rfl (fun b hb hlt => ?_) | refine sst_alloc tb_ok rfl rfl rfl EV (fun b hb hlt => ?_)))
      refine sst_make tb_ok rfl rfl rfl EV EV (by rfl) d.length d.length rfl rfl (Nat.le_refl _) (by omega) (fun g hg hgl => ?_)
      have hgw : wL.heap.size ≤ g := hg
      have hgw' : w.heap.size ≤ g := Nat.le_trans hkL.size hgw
      have hgb0 : b0 < g := hgl b0 (by simp [Sym.blocks, Sym.put, Sym.know])
      have hgb1 : b1 < g := hgl b1 (by simp [Sym.blocks, Sym.put, Sym.know])
      clear hg hgl
      (repeat' (first | refine G0 ?_ | refine sst_box rfl rfl rfl rfl rfl (fun b hb hlt => ?_) | refine sst_alloc tb_ok rfl rfl rfl EV (fun b hb hlt => ?_)))
      refine swp_loop (X := World × Nat × List Value) (fun x => Kp No wL x.1 ∧ x.2.1 ≤ d.length ∧ x.2.2.length = d.length * 6 ∧ ∀ (j : Nat) (z : ByteArray × Val), j < x.2.1 → d[j]? = some z → z.1.size ≤ LIM ∧ ∃ cs, sl 6 x.2.2 j = .string z.1 :: cs ∧ RepV (fun b => w.heap.size ≤ b ∧ b ≠ b0 ∧ b ≠ b1 ∧ b ≠ g) x.1 z.2 cs)
        (fun x => ⟨60, [(42, .val (.int .i64 (x.2.1 : Int))), (41, .val (.int .i64 (d.length : Int))), (40, .val (.slice B d.length c1)), (6, .val (.slice (some ⟨g, 0, none⟩) d.length d.length)), (1, .loc 0 0), (2, .loc 1 0)], [⟨b0, 26, [.int .i64 k, .int .i64 n, .string t, .slice A1 l.length cA, .slice B d.length c1], false⟩, ⟨b1, 26, [.int .i64 0, .int .i64 0, .string ⟨#[]⟩, .slice none 0 0, .slice none 0 0], false⟩], [⟨.slice (some ⟨g, 0, none⟩) d.length d.length, 114, 6, d.length, x.2.2, false⟩], w.heap.size, x.1, No⟩) (fun x => d.length - x.2.1) ?_ ?_
      · intro w1 h1
        have h5 := (h1.row _ (by simp [Sym.put, Sym.addR, Sym.addL]; rfl)).1
        refine ⟨(w1, 0, _), ⟨h1.kp, Nat.zero_le _, h5, by simp⟩, ?_⟩
        (refine WKmk ?_; try trivial)
      rintro ⟨w1, i, xs⟩ ⟨hk1', hi, hxl, hel⟩
      simp only at hk1' hi hxl hel
      have hk1 := hkL.then hk1'
      (repeat' (first | refine G0 ?_ | refine sst_box rfl rfl rfl rfl rfl (fun b hb hlt => ?_) | refine sst_alloc tb_ok rfl rfl rfl EV (fun b hb hlt => ?_)))
      refine swp_if rfl (fun h2 => ?_) (fun h2 => ?_)
      · have hi : i < d.length := by simp at h2; omega
        obtain ⟨z, hz⟩ := get_of_lt hi
        obtain ⟨bz, off, cz, rfl, hSb, hin, hcl, hrow, hrz, hzs⟩ := hd.get hz
        obtain ⟨B1, m1, B2, m2, rfl, -⟩ := hrz.parts
        (repeat' (first | refine G0 ?_ | refine sst_box rfl rfl rfl rfl rfl (fun b hb hlt => ?_) | refine sst_alloc tb_ok rfl rfl rfl EV (fun b hb hlt => ?_)))
        refine sst_quiet rfl rfl (q_index tb_ok rfl el_24 rfl rfl i rfl hin) ?_
        (repeat' (first | refine G0 ?_ | refine sst_box rfl rfl rfl rfl rfl (fun b hb hlt => ?_) | refine sst_alloc tb_ok rfl rfl rfl EV (fun b hb hlt => ?_)))
        refine sst_quiet rfl rfl (q_far_agg tb_ok rfl sz_114 rfl id (by rfl) (hrow.kp hk1 id)) ?_
        (repeat' (first | refine G0 ?_ | refine sst_box rfl rfl rfl rfl rfl (fun b hb hlt => ?_) | refine sst_alloc tb_ok rfl rfl rfl EV (fun b hb hlt => ?_)))
        refine swp_draw mixed [0, 1, 2, 3, 4, 5, 6, 7, 8, 9] [9] (by kernel_rfl) (by kernel_rfl) rfl ?_
        (repeat' (first | refine G0 ?_ | refine sst_box rfl rfl rfl rfl rfl (fun b hb hlt => ?_) | refine sst_alloc tb_ok rfl rfl rfl EV (fun b hb hlt => ?_)))
        refine sst_call tb_ok rfl rfl rfl rfl rfl EV AP (fun v wa wb => ∃ cs' : List Value, v = .agg cs'.toArray ∧ RepV (fun b => wa.heap.size ≤ b) wb z.2 cs') ?_ ?_
        · exact fun w2 h2 => H2 z (List.mem_of_getElem? hz) S w2 _ (hrz.kp (hk1.then h2.kp))
        rintro v w2 w3 h2 hk3 ⟨cs', rfl, hrz'⟩
        have hcl' := hrz'.length
        obtain ⟨B1', m1', B2', m2', rfl, -⟩ := hrz'.parts
        (repeat' (first | refine G0 ?_ | refine sst_box rfl rfl rfl rfl rfl (fun b hb hlt => ?_) | refine sst_alloc tb_ok rfl rfl rfl EV (fun b hb hlt => ?_)))
        refine sst_quiet rfl rfl (q_index tb_ok rfl el_24 rfl rfl i rfl hin) ?_
        (repeat' (first | refine G0 ?_ | refine sst_box rfl rfl rfl rfl rfl (fun b hb hlt => ?_) | refine sst_alloc tb_ok rfl rfl rfl EV (fun b hb hlt => ?_)))
        refine sst_rowStore tb_ok rfl rfl rfl rfl rfl 0 rfl rfl EV rfl EV (by rfl) ?_ (by rfl) ?_
        · have := mul_lt_le (size := 6) hi
          simp only [hxl]; omega
        (repeat' (first | refine G0 ?_ | refine sst_box rfl rfl rfl rfl rfl (fun b hb hlt => ?_) | refine sst_alloc tb_ok rfl rfl rfl EV (fun b hb hlt => ?_)))
        refine sq_next fun w4 h4 => ?_
        have hlt := h2.lt
        simp only [Sym.blocks, Sym.put, Sym.addL, List.map_cons, List.map_nil, List.filterMap_cons, Value.ownBlock, List.filterMap_nil] at hlt
        have hb0' : b0 < w2.heap.size := hlt b0 (by simp)
        have hb1' : b1 < w2.heap.size := hlt b1 (by simp)
        have hg' : g < w2.heap.size := hlt g (by simp)
        have hk13 : Kp No w1 w3 := h2.kp.then hk3
        have hk4 := h4.kp
        have hww := (hk1.then h2.kp).size
        have hD : ∀ k, dirtyV No (.slice (some ⟨g, 0, none⟩) d.length d.length) k → k = g := by
          intro k hk
          rcases hk with hk | hk
          · simpa [Value.ownBlock, eq_comm] using hk
          · exact hk.elim
        refine ⟨(w4, i + 1, putL xs (i * 6) [.string z.1, .int .i64 z.2.k, .int .i64 z.2.n, .string z.2.t, .slice B1' z.2.l.length m1', .slice B2' z.2.d.length m2']), ⟨(hk1'.then hk13).thenNew hk4 (fun k hk => by rw [hD k hk]; exact hgw), by simp; omega, ?_, ?_⟩, by simp; omega, ?_⟩
        rotate_left 2
        · (refine WKmk ?_; try trivial)
          rw [wr_small (by omega)]
          simp
        · simp only [putL_length, hxl]
        · intro j y hj hy
          by_cases hji : j = i
          · subst hji
            rw [hz] at hy
            obtain rfl := Option.some.inj hy
            have hsl := sl_put_same (size := 6) (xs := xs) (i := j) (vs := [.string z.1, .int .i64 z.2.k, .int .i64 z.2.n, .string z.2.t, .slice B1' z.2.l.length m1', .slice B2' z.2.d.length m2']) rfl (by have := mul_lt_le (size := 6) hi; omega)
            rw [hsl]
            exact ⟨hzs, _, rfl, hrz'.to hk4 (fun b' hb' _ => ⟨fun hd' => by have := hD _ hd'; omega, by omega, by omega, by omega, by omega⟩)⟩
          · have hsl := sl_put_ne (size := 6) (xs := xs) (i := i) (vs := [.string z.1, .int .i64 z.2.k, .int .i64 z.2.n, .string z.2.t, .slice B1' z.2.l.length m1', .slice B2' z.2.d.length m2']) rfl hji
            rw [hsl]
            obtain ⟨h6, cy, h7, h8⟩ := hel j y (by simp at hj; omega) hy
            exact ⟨h6, cy, h7, h8.to (hk13.of_no.trans hk4) (fun b' hb' _ => ⟨fun hd' => hb'.2.2.2 (hD _ hd'), hb'⟩)⟩
      · (repeat' (first | refine G0 ?_ | refine sst_box rfl rfl rfl rfl rfl (fun b hb hlt => ?_) | refine sst_alloc tb_ok rfl rfl rfl EV (fun b hb hlt => ?_)))
        refine sq_meetX fun w4 h4 => ?_
        have hk4 := h4.kp
        have hD : ∀ k, dirty No b0 k → k = b0 := fun k hk => hk.elim id False.elim
        have hie : i = d.length := by simp at h2; omega
        obtain ⟨A', c', hv, hrs⟩ := RepD.ofRow (S := fun b => w.heap.size ≤ b ∧ b ≠ b0 ∧ b ≠ b1) (h4.row _ (by simp [Sym.put, Sym.addR, Sym.addL]; rfl)) rfl hd.2.1 (fun g' hg' => by simp [Value.ownBlock] at hg'; omega)
          (fun j y hy => by
            obtain ⟨h6, cy, h7, h8⟩ := hel j y (by rw [hie]; exact (List.getElem?_eq_some_iff.1 hy).1) hy
            exact ⟨h6, cy, h7, h8.to hk4 (fun b' hb' _ => ⟨fun hd' => hb'.2.1 (hD _ hd'), hb'.1, hb'.2.1, hb'.2.2.1⟩)⟩)
        obtain ⟨rfl, rfl⟩ : A' = some ⟨g, 0, none⟩ ∧ c' = d.length := by simpa [eq_comm] using hv
        refine ⟨(w4, _, _), ⟨hk1.thenNew hk4 (fun k hk => by rw [hD k hk]; exact hb0), hlL.to (hk1'.of_no.trans hk4) (fun b' hb' _ => ⟨fun hd' => hb'.2.1 (hD _ hd'), hb'⟩), hrs⟩, ?_⟩
        (refine WKmk ?_; try trivial)
    · have hA : B = none := by simpa using h1
      subst hA
      have hl0 : d = [] := by
        rcases hd.2.2.2 with ⟨C, C2, h3 | ⟨b, off, h3, _⟩, _⟩
        · exact List.length_eq_zero_iff.1 h3
        · cases h3
      subst hl0
      (repeat' (first | refine G0 ?_ | refine sst_box rfl rfl rfl rfl rfl (fun b hb hlt => ?_) | refine sst_alloc tb_ok rfl rfl rfl EV (fun b hb hlt => ?_)))
      refine sq_meetX fun w4 h4 => ?_
      refine ⟨(w4, none, c1), ⟨hkL.then h4.kp, hlL.kp h4.kp, RepD.nil _ _ _ _⟩, ?_⟩
      (refine WKmk ?_; try trivial)
  rintro ⟨wD, A2, cB⟩ ⟨hkD, hlD, hdD⟩
  simp only at hkD hlD hdD
  (repeat' (first | refine G0 ?_ | refine sst_box rfl rfl rfl rfl rfl (fun b hb hlt => ?_) | refine sst_alloc tb_ok rfl rfl rfl EV (fun b hb hlt => ?_)))
  refine sq_ret tb_ok rfl EV (fun w' hk hr => ?_)
  have hD : ∀ k, dirty No b1 k → k = b1 := fun k hk => hk.elim id False.elim
  refine ⟨_, rfl, hkD.thenNew hk (fun k hk => by rw [hD k hk]; exact hb1), _, rfl, ?_⟩
  refine RepV.of hk' hn ht (hlD.to hk (fun b' hb' _ => ⟨fun hd' => hb'.2.2 (hD _ hd'), hb'.1⟩)) (hdD.to hk (fun b' hb' _ => ⟨fun hd' => hb'.2.2 (hD _ hd'), hb'.1⟩))

theorem clone_all (x : Val) : CloneC x := by
  refine clone_step x (fun z hz => clone_all z) (fun z hz => clone_all z.2)
  termination_by SizeOf.sizeOf x
  decreasing_by
  · obtain ⟨k, n, t, l, d⟩ := x; exact sizeOf_l hz
  · obtain ⟨k, n, t, l, d⟩ := x; exact sizeOf_d hz
end Go.Fw

set_option linter.unusedVariables false
set_option linter.unusedSimpArgs false
namespace Go.Fw
open Go

theorem sizeOf_get {x : Val} {i : Nat} {z : Val} (h : x.l[i]? = some z) : SizeOf.sizeOf z < SizeOf.sizeOf x := by
  obtain ⟨k, n, t, l, d⟩ := x
  exact sizeOf_l (List.mem_of_getElem? h)
theorem sizeOf_getd {x : Val} {i : Nat} {z : ByteArray × Val} (h : x.d[i]? = some z) : SizeOf.sizeOf z.2 < SizeOf.sizeOf x := by
  obtain ⟨k, n, t, l, d⟩ := x
  exact sizeOf_d (List.mem_of_getElem? h)
theorem sizeOf_mem {x : Val} {z : Val} (h : z ∈ x.l) : SizeOf.sizeOf z < SizeOf.sizeOf x := by
  obtain ⟨k, n, t, l, d⟩ := x
  exact sizeOf_l h

/-- What path.pass adds. -/
def passF (x : Val) (p : List ByteArray) : List Val :=
  match p with
  | [] => [x]
  | s :: q =>
    if x.k = 5 then
      match fieldO x.d s with
      | none => []
      | some i => match h : x.d[i]? with
        | none => []
        | some f => passF f.2 q
    else if x.k = 6 then
      (x.l.attach.flatMap fun y => if y.1.k = 5 then passF y.1 (s :: q) else []) ++
      match elemO x.l s with
      | none => []
      | some i => match h : x.l[i]? with
        | none => []
        | some y => passF y q
    else []
  termination_by SizeOf.sizeOf x
  decreasing_by
  · exact sizeOf_getd h
  · exact sizeOf_mem y.2
  · exact sizeOf_get h

theorem RepB.tail {S : Nat → Prop} {w : World} {A : Option Addr} {n c : Nat} {s : ByteArray} {l : List ByteArray} (h : RepB S w A n c (s :: l)) :
    RepB S w (if c = 1 then A else A.map (·.add (1 * 1))) (n - 1) (c - 1) l := by
  obtain ⟨h1, h2, h3, h4, h5⟩ := h
  simp only [List.length_cons] at h1
  refine ⟨by omega, by omega, by omega, ?_, fun s hs => h5 s (List.mem_cons_of_mem _ hs)⟩
  rcases h4 with h0 | ⟨b, off, hA, hb, hi⟩
  · omega
  · by_cases hn : n = 1
    · exact .inl (by omega)
    · rw [if_neg (by omega), hA]
      refine .inr ⟨b, off + 1, by simp [add_mk], hb, fun i u hu => ?_⟩
      have := hi (i + 1) u (by simpa using hu)
      rw [show off + 1 + i = off + (i + 1) from by omega]
      exact this

/-- A list of values in a row of one's own. -/
def OwnL (base : Nat) (w : World) (v : Value) (l : List Val) (xs : List Value) : Prop :=
  w.ownsRow base 26 5 v l.length xs ∧ ∀ (i : Nat) (x : Val), l[i]? = some x → RepV (fun b => v.ownBlock ≠ some b) w x (sl 5 xs i)

theorem OwnL.nil (base : Nat) (w : World) : OwnL base w (.slice none 0 0) [] [] := ⟨World.ownsRow_nil _ _ _ _, fun i x h => by simp at h⟩

theorem OwnL.app {base : Nat} {w w' : World} {v v' : Value} {l : List Val} {xs : List Value} {x : Val} {cs : List Value} (h : OwnL base w v l xs) (hk : Kp (fun b => v.ownBlock = some b) w w')
    (hown : w'.ownsRow base 26 5 v' (l.length + 1) (xs ++ cs)) (hv : v'.ownBlock = v.ownBlock ∨ ∃ g, v'.ownBlock = some g ∧ w.heap.size ≤ g) (hx : RepV (fun b => v'.ownBlock ≠ some b) w' x cs) :
    OwnL base w' v' (l ++ [x]) (xs ++ cs) := by
  refine ⟨by simpa using hown, fun i y hy => ?_⟩
  rcases Nat.lt_or_ge i l.length with hi | hi
  · rw [List.getElem?_append_left hi] at hy
    rw [sl_append_old h.1.1 hi]
    refine (h.2 i y hy).to hk fun b hb hlt => ⟨hb, ?_⟩
    rcases hv with hv | ⟨g, hv, hg⟩
    · rw [hv]; exact hb
    · rw [hv]; intro e; have := Option.some.inj e; omega
  · rw [List.getElem?_append_right hi] at hy
    have hi2 : i = l.length := by
      have := (List.getElem?_eq_some_iff.1 hy).1
      simp at this; omega
    subst hi2
    simp at hy
    subst hy
    have := sl_append_new (size := 5) (n := l.length) (i := 0) (ys := cs) h.1.1
    rw [Nat.add_zero] at this
    rw [this, sl_all hx.length]
    exact hx

theorem OwnL.kp {base : Nat} {w w' : World} {v : Value} {l : List Val} {xs : List Value} (h : OwnL base w v l xs) (hk : Kp No w w') : OwnL base w' v l xs :=
  ⟨ownsRow_kp h.1 hk (fun _ _ h => h), fun i x hx => (h.2 i x hx).to hk fun b hb _ => ⟨id, hb⟩⟩

theorem OwnL.lt {base : Nat} {w : World} {v : Value} {l : List Val} {xs : List Value} (h : OwnL base w v l xs) {g : Nat} (hg : v.ownBlock = some g) : base ≤ g ∧ g < w.heap.size := by
  rcases h.1.2 with ⟨rfl, _⟩ | ⟨g', cap, cur, rfl, hb, hgg, _⟩
  · simp [Value.ownBlock] at hg
  · simp [Value.ownBlock] at hg
    subst hg
    exact ⟨hb, (Array.getElem?_eq_some_iff.1 hgg).1⟩

/-- What path.Reach gives. -/
def nullV : Val := .mk 0 0 ⟨#[]⟩ [] []
def reachF (x : Val) (p : List ByteArray) : List Val := if passF x p = [] then [nullV] else passF x p

theorem RowAt.ofBox {w : World} {b : Nat} {cs : List Value} {T : TypeId} (h : w.heap[b]? = some (.cells cs.toArray T (0, 0))) : RowAt w b 0 cs := by
  intro j u hj
  simp only [World.cell?, h, Nat.zero_add]
  simpa using hj
end Go.Fw

set_option linter.unusedVariables false
set_option linter.unusedSimpArgs false
set_option maxRecDepth 10000
set_option maxHeartbeats 2000000
namespace Go.Fw
open Go
attribute [local irreducible] SWp SQ SSeq SSt Quiet Next Meet
attribute [local irreducible] MeetX

theorem passF_nil (x : Val) : passF x [] = [x] := by rw [passF]
theorem passF_cons (x : Val) (s : ByteArray) (q : List ByteArray) : passF x (s :: q) =
    if x.k = 5 then (match fieldO x.d s with | none => [] | some i => match x.d[i]? with | none => [] | some f => passF f.2 q)
    else if x.k = 6 then (x.l.flatMap fun y => if y.k = 5 then passF y (s :: q) else []) ++ (match elemO x.l s with | none => [] | some i => match x.l[i]? with | none => [] | some y => passF y q)
    else [] := by
  rw [passF]
  simp only [List.flatMap_subtype, List.unattach_attach]
  split
  · split
    · simp_all
    · split <;> simp_all
  · split
    · congr 1
      split
      · simp_all
      · split <;> simp_all
    · rfl

theorem fieldO_get {d : List (ByteArray × Val)} {s : ByteArray} {i : Nat} (h : fieldO d s = some i) : ∃ f, d[i]? = some f := by
  unfold fieldO at h
  rw [List.findIdx?_eq_some_iff_getElem] at h
  exact get_of_lt h.1
theorem elemO_get {l : List Val} {s : ByteArray} {i : Nat} (h : elemO l s = some i) : ∃ y, l[i]? = some y := by
  unfold elemO at h
  split at h
  · split at h
    · cases h; rename_i h; exact get_of_lt h
    · cases h
  · cases h

theorem Kp.transNew {D E : Nat → Prop} {a b c : World} (h : Kp D a b) (k : Kp E b c) (hE : ∀ i, i < a.heap.size → E i → D i) : Kp D a c :=
  ⟨k.os.trans h.os, k.tape.trans h.tape, k.output.trans h.output, Nat.le_trans h.size k.size, fun i hi hn =>
    (k.block i (Nat.lt_of_lt_of_le hi h.size) (fun he => hn (hE i hi he))).trans (h.block i hi hn)⟩

def PassC (x : Val) : Prop := ∀ (p : List ByteArray) (base : Nat) (w : World) (v0 : Value) (l : List Val) (xs : List Value) (cs : List Value) (A : Option Addr) (n c : Nat), base ≤ w.heap.size → OwnL base w v0 l xs →
  RepV (fun b => v0.ownBlock ≠ some b) w x cs → RepB (fun b => v0.ownBlock ≠ some b) w A n c p → (l.length + (passF x p).length) * 80 ≤ LIM →
  Calls Go.Proofs.Tryz.prog 182 #[v0, .agg cs.toArray, .slice A n c] w fun e w2 => ∃ v1 xs1, e = .returned v1 ∧ Kp (fun b => v0.ownBlock = some b) w w2 ∧ OwnL base w2 v1 (l ++ passF x p) xs1 ∧
    (v1.ownBlock = v0.ownBlock ∨ ∃ g, v1.ownBlock = some g ∧ w.heap.size ≤ g)

theorem pass_step (x : Val) (H1 : ∀ z ∈ x.l, PassC z) (H2 : ∀ z ∈ x.d, PassC z.2) : PassC x := by
  intro p base w v0 l xs cs A n c hbase hown hx hp hlim
  have hpn := hp.1
  have hpl := hp.2.1
  rw [LIM_eq] at hpl hlim
  obtain ⟨A1, c1, A2, c2, rfl, hk', hn, ht, hl, hd⟩ := hx.parts
  refine calls_intro (args := [_, _, _]) base Go.Proofs.Tryz.func182 rfl Go.Proofs.Tryz.ntmps182 (by simp) hbase ?_
  refine swp_addOwn (e := 26) (size := 5) (n := l.length) (v := v0) (xs := xs) (fun w1 h1 => ⟨ownsRow_kp hown.1 h1.kp (fun _ _ h => h), fun g hg => by simp [Sym.blocks, start]⟩) ?_
  (repeat' (first | refine G0 ?_ | refine sst_box rfl rfl rfl rfl rfl (fun b hb hlt => ?_) | refine sst_alloc tb_ok rfl rfl rfl EV (fun b hb hlt => ?_)))
  refine swp_if rfl (fun h1 => ?_) (fun h1 => ?_)
  · have hp0 : p = [] := by
      simp at h1
      apply List.length_eq_zero_iff.1; omega
    subst hp0
    rw [passF_nil] at hlim ⊢
    (repeat' (first | refine G0 ?_ | refine sst_box rfl rfl rfl rfl rfl (fun b hb hlt => ?_) | refine sst_alloc tb_ok rfl rfl rfl EV (fun b hb hlt => ?_)))
    refine sst_call tb_ok rfl rfl rfl rfl rfl EV AP (fun v wa wb => ∃ cs' : List Value, v = .agg cs'.toArray ∧ RepV (fun b => wa.heap.size ≤ b) wb x cs') ?_ ?_
    · exact fun w2 h2 => clone_all x _ w2 _ (hx.kp h2.kp)
    rintro v w2 w3 h2 hk3 ⟨cs', rfl, hrz'⟩
    have hcl' := hrz'.length
    obtain ⟨B1', m1', B2', m2', rfl, -⟩ := hrz'.parts
    (repeat' (first | refine G0 ?_ | refine sst_box rfl rfl rfl rfl rfl (fun b hb hlt => ?_) | refine sst_alloc tb_ok rfl rfl rfl EV (fun b hb hlt => ?_)))
    refine sst_buildSlice tb_ok rfl rfl rfl EV EV (by rfl) EV (by rfl) (by omega) (by simp) (fun g hg hgl => ?_)
    (repeat' (first | refine G0 ?_ | refine sst_box rfl rfl rfl rfl rfl (fun b hb hlt => ?_) | refine sst_alloc tb_ok rfl rfl rfl EV (fun b hb hlt => ?_)))
    refine sst_append_row tb_ok rfl rfl rfl rfl EV 0 rfl rfl rfl rfl 1 rfl rfl rfl rfl (by rfl) (by rfl) (by simp at hlim ⊢; omega) (fun v' hv' hb' => ?_)
    obtain ⟨A', c', rfl⟩ := hv'
    (repeat' (first | refine G0 ?_ | refine sst_box rfl rfl rfl rfl rfl (fun b hb hlt => ?_) | refine sst_alloc tb_ok rfl rfl rfl EV (fun b hb hlt => ?_)))
    refine sq_ret tb_ok rfl EV (fun w' hk hr => ?_)
    have hk23 := h2.kp.then hk3
    have hlt := h2.lt
    have hD : ∀ k, dirtyV No v0 k → v0.ownBlock = some k := fun k hk => hk.elim id False.elim
    have hkk := hk.mono (D' := fun b => v0.ownBlock = some b) (fun k _ h => hD k h)
    refine ⟨_, _, rfl, hk23.of_no.trans hkk, OwnL.app (hown.kp hk23) hkk (hr _ (by simp; exact Or.inl rfl)) ?_ ?_, ?_⟩
    · rcases hb' with hb' | ⟨g', h1, h2, _⟩
      · exact .inl hb'
      · exact .inr ⟨g', h1, h2⟩
    · refine hrz'.to hkk fun b' hb1 hb2 => ⟨fun e => ?_, fun e => ?_⟩
      · have := (hown.lt e).2
        have := h2.kp.size
        simp only [Sym.put] at this
        omega
      · rcases hb' with hb' | ⟨g', h1, h3, _⟩
        · simp only [oneOr] at e
          rw [hb'] at e
          have := (hown.lt e).2
          have := h2.kp.size
          simp only [Sym.put] at this
          omega
        · simp only [oneOr] at e
          rw [h1] at e
          have := Option.some.inj e
          simp only [Sym.put, Sym.rebase] at h3
          omega
    · rcases hb' with hb' | ⟨g', h1, h3, _⟩
      · exact .inl hb'
      · exact .inr ⟨g', h1, Nat.le_trans hk23.size h3⟩
  obtain ⟨s, q, rfl⟩ : ∃ s q, p = s :: q := by
    cases p with
    | nil => simp [hpn] at h1
    | cons s q => exact ⟨s, q, rfl⟩
  have hpt := hp.tail
  have ret0 : ∀ w', Kp No w w' → passF x (s :: q) = [] → ∃ v1 xs1, Ending.returned (oneOr [v0]) = .returned v1 ∧ Kp (fun b => v0.ownBlock = some b) w w' ∧ OwnL base w' v1 (l ++ passF x (s :: q)) xs1 ∧
      (v1.ownBlock = v0.ownBlock ∨ ∃ g, v1.ownBlock = some g ∧ w.heap.size ≤ g) := by
    intro w' hk h0
    rw [h0, List.append_nil]
    exact ⟨_, _, rfl, hk.of_no, hown.kp hk, .inl rfl⟩
  obtain ⟨pb, poff, rfl, hpS, hp0, hpc, hps⟩ := hp.get (i := 0) (s := s) rfl
  have hpF := passF_cons x s q
  (repeat' (first | refine G0 ?_ | refine sst_box rfl rfl rfl rfl rfl (fun b hb hlt => ?_) | refine sst_alloc tb_ok rfl rfl rfl EV (fun b hb hlt => ?_)))
  refine swp_if rfl (fun h5 => ?_) (fun h5 => ?_)
  · have hx5 : x.k = 5 := by simpa using h5
    rw [if_pos hx5] at hpF
    (repeat' (first | refine G0 ?_ | refine sst_box rfl rfl rfl rfl rfl (fun b hb hlt => ?_) | refine sst_alloc tb_ok rfl rfl rfl EV (fun b hb hlt => ?_)))
    refine swp_draw mixed [0, 1, 2, 3, 4, 5, 6] [] (by kernel_rfl) (by kernel_rfl) rfl ?_
    (repeat' (first | refine G0 ?_ | refine sst_box rfl rfl rfl rfl rfl (fun b hb hlt => ?_) | refine sst_alloc tb_ok rfl rfl rfl EV (fun b hb hlt => ?_)))
    refine sst_quiet rfl rfl (q_index tb_ok rfl el_22 rfl rfl 0 rfl hp0) ?_
    (repeat' (first | refine G0 ?_ | refine sst_box rfl rfl rfl rfl rfl (fun b hb hlt => ?_) | refine sst_alloc tb_ok rfl rfl rfl EV (fun b hb hlt => ?_)))
    refine sst_quiet rfl rfl (q_far_one tb_ok rfl sz_9 rfl id (by simpa using hpc)) ?_
    (repeat' (first | refine G0 ?_ | refine sst_box rfl rfl rfl rfl rfl (fun b hb hlt => ?_) | refine sst_alloc tb_ok rfl rfl rfl EV (fun b hb hlt => ?_)))
    refine sst_call tb_ok rfl rfl rfl rfl rfl EV AP (fun v _ _ => v = .int .i64 (optI (fieldO x.d s))) ?_ ?_
    · exact fun w1 h1 => c126 x.d s _ w1 _ _ _ (hd.kp h1.kp)
    rintro v w2 w3 h2 hk3 rfl
    have hk23 := h2.kp.then hk3
    cases hfo : fieldO x.d s with
    | none =>
      rw [hfo] at hpF
      simp only [optI]
      (repeat' (first | refine G0 ?_ | refine sst_box rfl rfl rfl rfl rfl (fun b hb hlt => ?_) | refine sst_alloc tb_ok rfl rfl rfl EV (fun b hb hlt => ?_)))
      refine swp_if rfl (fun h6 => ?_) (fun h6 => ?_)
      · exfalso; simp at h6
      (repeat' (first | refine G0 ?_ | refine sst_box rfl rfl rfl rfl rfl (fun b hb hlt => ?_) | refine sst_alloc tb_ok rfl rfl rfl EV (fun b hb hlt => ?_)))
      refine sq_ret tb_ok rfl EV (fun w' hk hr => ?_)
      exact ret0 _ (hk23.then hk) hpF
    | some i =>
      obtain ⟨f, hf⟩ := fieldO_get hfo
      simp only [hfo, hf] at hpF
      simp only [optI]
      obtain ⟨fb, foff, fcs, rfl, hfS, hfin, hfl, hfrow, hfr, hfs⟩ := hd.get hf
      (repeat' (first | refine G0 ?_ | refine sst_box rfl rfl rfl rfl rfl (fun b hb hlt => ?_) | refine sst_alloc tb_ok rfl rfl rfl EV (fun b hb hlt => ?_)))
      refine swp_if rfl (fun h6 => ?_) (fun h6 => ?_)
      rotate_left
      · exfalso; simp at h6
      (repeat' (first | refine G0 ?_ | refine sst_box rfl rfl rfl rfl rfl (fun b hb hlt => ?_) | refine sst_alloc tb_ok rfl rfl rfl EV (fun b hb hlt => ?_)))
      refine swp_draw mixed [0, 1, 2, 3, 4, 5, 6, 7, 8, 9, 10] [9] (by kernel_rfl) (by kernel_rfl) rfl ?_
      (repeat' (first | refine G0 ?_ | refine sst_box rfl rfl rfl rfl rfl (fun b hb hlt => ?_) | refine sst_alloc tb_ok rfl rfl rfl EV (fun b hb hlt => ?_)))
      refine sst_quiet rfl rfl (q_index tb_ok rfl el_24 rfl rfl i rfl hfin) ?_
      (repeat' (first | refine G0 ?_ | refine sst_box rfl rfl rfl rfl rfl (fun b hb hlt => ?_) | refine sst_alloc tb_ok rfl rfl rfl EV (fun b hb hlt => ?_)))
      refine sst_quiet rfl rfl (q_far_agg tb_ok rfl sz_26 rfl id hfl (hfrow.tail.kp hk23 id)) ?_
      (repeat' (first | refine G0 ?_ | refine sst_box rfl rfl rfl rfl rfl (fun b hb hlt => ?_) | refine sst_alloc tb_ok rfl rfl rfl EV (fun b hb hlt => ?_)))
      refine sst_quiet rfl rfl (q_slice tb_ok rfl el_22 rfl 1 n (by exact ⟨_, rfl⟩) (by rfl) hp0 hp.2.2.1) ?_
      (repeat' (first | refine G0 ?_ | refine sst_box rfl rfl rfl rfl rfl (fun b hb hlt => ?_) | refine sst_alloc tb_ok rfl rfl rfl EV (fun b hb hlt => ?_)))
      refine sst_call_row tb_ok rfl rfl rfl rfl rfl rfl EV AP 0 rfl (fun v n xs wa wb => n = (l ++ passF f.2 q).length ∧ OwnL base wb v (l ++ passF f.2 q) xs) ?_ ?_
      · intro w4 h4
        have hk4 := hk23.then h4.kp
        refine (H2 f (List.mem_of_getElem? hf) q base w4 v0 l xs _ _ _ _ (Nat.le_trans hbase hk4.size) (hown.kp hk4) (hfr.kp hk4) (hpt.kp hk4) (by rw [← hpF, LIM_eq]; exact hlim)).mono ?_
        rintro e w5 ⟨v1, xs1, rfl, hk, ho, hb⟩
        exact ⟨v1, _, xs1, rfl, hk, ho.1, hb, rfl, ho⟩
      rintro v n1 xs1 w4 w5 h4 hk5 ho5 hb5 ⟨rfl, ho⟩
      (repeat' (first | refine G0 ?_ | refine sst_box rfl rfl rfl rfl rfl (fun b hb hlt => ?_) | refine sst_alloc tb_ok rfl rfl rfl EV (fun b hb hlt => ?_)))
      refine sq_ret tb_ok rfl EV (fun w' hk hr => ?_)
      have hk4 := hk23.then h4.kp
      rw [hpF]
      refine ⟨_, _, rfl, (hk4.of_no.trans hk5).then hk, ho.kp hk, ?_⟩
      rcases hb5 with hb5 | ⟨g, h7, h8⟩
      · exact .inl hb5
      · exact .inr ⟨g, h7, Nat.le_trans hk4.size h8⟩
  · have hx5 : ¬ x.k = 5 := by simpa using h5
    rw [if_neg hx5] at hpF
    (repeat' (first | refine G0 ?_ | refine sst_box rfl rfl rfl rfl rfl (fun b hb hlt => ?_) | refine sst_alloc tb_ok rfl rfl rfl EV (fun b hb hlt => ?_)))
    refine swp_if rfl (fun h6 => ?_) (fun h6 => ?_)
    rotate_left
    · have hx6 : ¬ x.k = 6 := by simpa using h6
      rw [if_neg hx6] at hpF
      (repeat' (first | refine G0 ?_ | refine sst_box rfl rfl rfl rfl rfl (fun b hb hlt => ?_) | refine sst_alloc tb_ok rfl rfl rfl EV (fun b hb hlt => ?_)))
      refine sq_ret tb_ok rfl EV (fun w' hk hr => ?_)
      exact ret0 _ hk hpF
    have hx6 : x.k = 6 := by simpa using h6
    rw [if_pos hx6] at hpF
    (repeat' (first | refine G0 ?_ | refine sst_box rfl rfl rfl rfl rfl (fun b hb hlt => ?_) | refine sst_alloc tb_ok rfl rfl rfl EV (fun b hb hlt => ?_)))
    have hflat : ∀ i, i ≤ x.l.length → ((x.l.take i).flatMap fun y => if y.k = 5 then passF y (s :: q) else []).length ≤ (passF x (s :: q)).length := by
      intro i hi
      rw [hpF, List.length_append]
      refine Nat.le_trans ?_ (Nat.le_add_right _ _)
      conv => rhs; rw [← List.take_append_drop i x.l, List.flatMap_append, List.length_append]
      omega
    have hrep : ∀ (w1 : World) (v : Value), Kp (fun b => v0.ownBlock = some b) w w1 → (v.ownBlock = v0.ownBlock ∨ ∃ g, v.ownBlock = some g ∧ w.heap.size ≤ g) →
        ∀ b, v0.ownBlock ≠ some b → b < w.heap.size → ¬ (v0.ownBlock = some b) ∧ v.ownBlock ≠ some b := by
      intro w1 v hk hv b hb hlt
      refine ⟨hb, ?_⟩
      rcases hv with hv | ⟨g, hv, hg⟩
      · rw [hv]; exact hb
      · rw [hv]; intro e; have := Option.some.inj e; omega
    refine swp_loop (X := World × Nat × Value × List Value) (fun y => Kp (fun b => v0.ownBlock = some b) w y.1 ∧ y.2.1 ≤ x.l.length ∧ OwnL base y.1 y.2.2.1 (l ++ (x.l.take y.2.1).flatMap fun y => if y.k = 5 then passF y (s :: q) else []) y.2.2.2 ∧
        (y.2.2.1.ownBlock = v0.ownBlock ∨ ∃ g, y.2.2.1.ownBlock = some g ∧ w.heap.size ≤ g))
      (fun y => ⟨76, [(46, .val (.int .i64 (y.2.1 : Int))), (45, .val (.int .i64 (x.l.length : Int))), (44, .val (.slice A1 x.l.length c1)), (4, .loc 0 0), (0, .val y.2.2.1), (2, .val (.slice (some ⟨pb, poff, none⟩) n c))],
        [⟨b, 26, [.int .i64 x.k, .int .i64 x.n, .string x.t, .slice A1 x.l.length c1, .slice A2 x.d.length c2], false⟩],
        [⟨y.2.2.1, 26, 5, (l ++ (x.l.take y.2.1).flatMap fun y => if y.k = 5 then passF y (s :: q) else []).length, y.2.2.2, false⟩], base, y.1, No⟩) (fun y => x.l.length - y.2.1) ?_ ?_
    · intro w1 h1
      refine ⟨(w1, 0, v0, xs), ⟨h1.kp.of_no, Nat.zero_le _, by simpa using hown.kp h1.kp, .inl rfl⟩, ?_⟩
      simp only [List.take_zero, List.flatMap_nil, List.append_nil]
      (refine WKmk ?_; try trivial)
    rintro ⟨w1, i, v, ys⟩ ⟨hk1, hi, hov, hvb⟩
    simp only at hk1 hi hov hvb
    have hxl := hl.2.1
    rw [LIM_eq] at hxl
    (repeat' (first | refine G0 ?_ | refine sst_box rfl rfl rfl rfl rfl (fun b hb hlt => ?_) | refine sst_alloc tb_ok rfl rfl rfl EV (fun b hb hlt => ?_)))
    refine swp_if rfl (fun h7 => ?_) (fun h7 => ?_)
    · have hi : i < x.l.length := by simp at h7; omega
      obtain ⟨y, hy⟩ := get_of_lt hi
      obtain ⟨yb, yoff, ycs, rfl, hyS, hyin, hyl, hyrow, hyr⟩ := hl.get hy
      obtain ⟨B1, m1, B2, m2, rfl, -⟩ := hyr.parts
      have hstep : ((x.l.take (i + 1)).flatMap fun y => if y.k = 5 then passF y (s :: q) else []) = ((x.l.take i).flatMap fun y => if y.k = 5 then passF y (s :: q) else []) ++ (if y.k = 5 then passF y (s :: q) else []) := by
        rw [take_snoc hy, List.flatMap_append]; simp
      have hfl1 := hflat (i + 1) hi
      rw [hstep, List.length_append] at hfl1
      (repeat' (first | refine G0 ?_ | refine sst_box rfl rfl rfl rfl rfl (fun b hb hlt => ?_) | refine sst_alloc tb_ok rfl rfl rfl EV (fun b hb hlt => ?_)))
      refine sst_quiet rfl rfl (q_index tb_ok rfl el_23 rfl rfl i rfl hyin) ?_
      (repeat' (first | refine G0 ?_ | refine sst_box rfl rfl rfl rfl rfl (fun b hb hlt => ?_) | refine sst_alloc tb_ok rfl rfl rfl EV (fun b hb hlt => ?_)))
      refine sst_quiet rfl rfl (q_far_agg tb_ok rfl sz_26 rfl (fun h => h) hyl ?_) ?_
      · exact hyrow.kp hk1 hyS
      (repeat' (first | refine G0 ?_ | refine sst_box rfl rfl rfl rfl rfl (fun b hb hlt => ?_) | refine sst_alloc tb_ok rfl rfl rfl EV (fun b hb hlt => ?_)))
      have hkw := hk1.size
      have hx1 : ∀ w2, Kp No w1 w2 → RepV (fun b => v.ownBlock ≠ some b) w2 y [.int .i64 y.k, .int .i64 y.n, .string y.t, .slice B1 y.l.length m1, .slice B2 y.d.length m2] :=
        fun w2 hk2 => (hyr.to hk1 (hrep w1 v hk1 hvb)).kp hk2
      have hp1 : ∀ w2, Kp No w1 w2 → RepB (fun b => v.ownBlock ≠ some b) w2 (some ⟨pb, poff, none⟩) n c (s :: q) :=
        fun w2 hk2 => (hp.to hk1 (hrep w1 v hk1 hvb)).kp hk2
      refine swp_if rfl (fun h8 => ?_) (fun h8 => ?_)
      · have hy5 : y.k = 5 := by simpa using h8
        rw [if_pos hy5] at hfl1 hstep
        (repeat' (first | refine G0 ?_ | refine sst_box rfl rfl rfl rfl rfl (fun b hb hlt => ?_) | refine sst_alloc tb_ok rfl rfl rfl EV (fun b hb hlt => ?_)))
        refine sst_call_row tb_ok rfl rfl rfl rfl rfl rfl EV AP 0 rfl (fun v1 n1 xs1 wa wb => n1 = (l ++ ((x.l.take i).flatMap fun y => if y.k = 5 then passF y (s :: q) else []) ++ passF y (s :: q)).length ∧ OwnL base wb v1 (l ++ ((x.l.take i).flatMap fun y => if y.k = 5 then passF y (s :: q) else []) ++ passF y (s :: q)) xs1) ?_ ?_
        · intro w4 h4
          refine (H1 y (List.mem_of_getElem? hy) (s :: q) base w4 v _ ys _ _ _ _ h4.base (hov.kp h4.kp) (hx1 _ h4.kp) (hp1 _ h4.kp) (by rw [List.length_append, LIM_eq]; omega)).mono ?_
          rintro e w5 ⟨v1, xs1, rfl, hk, ho, hb⟩
          exact ⟨v1, _, xs1, rfl, hk, ho.1, hb, rfl, ho⟩
        rintro v1 n1 xs1 w4 w5 h4 hk5 ho5 hb5 ⟨rfl, ho⟩
        (repeat' (first | refine G0 ?_ | refine sst_box rfl rfl rfl rfl rfl (fun b hb hlt => ?_) | refine sst_alloc tb_ok rfl rfl rfl EV (fun b hb hlt => ?_)))
        refine sq_next fun w6 h6 => ?_
        have hk56 := h6.kp
        refine ⟨(w6, i + 1, v1, xs1), ⟨?_, by simp; omega, ?_, ?_⟩, by simp; omega, ?_⟩
        rotate_left 3
        · simp only [hstep, ← List.append_assoc]
          (refine WKmk ?_; try trivial)
          rw [wr_small (by omega)]
          simp
        · refine ((hk1.then h4.kp).transNew hk5 fun k hk hv => ?_).then hk56
          rcases hvb with hvb | ⟨g, hvb, hg⟩
          · rw [← hvb]; exact hv
          · rw [hvb] at hv; have := Option.some.inj hv; omega
        · simp only [hstep, ← List.append_assoc]
          exact ho.kp hk56
        · simp only
          rcases hb5 with hb5 | ⟨g, hb5, hg⟩
          · rw [hb5]; exact hvb
          · exact .inr ⟨g, hb5, Nat.le_trans (hk1.then h4.kp).size hg⟩
      · have hy5 : ¬ y.k = 5 := by simpa using h8
        rw [if_neg hy5, List.append_nil] at hstep
        (repeat' (first | refine G0 ?_ | refine sst_box rfl rfl rfl rfl rfl (fun b hb hlt => ?_) | refine sst_alloc tb_ok rfl rfl rfl EV (fun b hb hlt => ?_)))
        refine sq_next fun w6 h6 => ?_
        refine ⟨(w6, i + 1, v, ys), ⟨hk1.then h6.kp, by simp; omega, ?_, hvb⟩, by simp; omega, ?_⟩
        · simp only [hstep]
          exact hov.kp h6.kp
        · simp only [hstep]
          (refine WKmk ?_; try trivial)
          rw [wr_small (by omega)]
          simp
    · have hie : i = x.l.length := by simp at h7; omega
      subst hie
      rw [List.take_length] at hov ⊢
      have hpc1 : w1.cell? ⟨pb, poff + 0 * 1, none⟩ = some (.string s) := hk1.cell (by simpa using hpc) (by simpa using hpS)
      (repeat' (first | refine G0 ?_ | refine sst_box rfl rfl rfl rfl rfl (fun b hb hlt => ?_) | refine sst_alloc tb_ok rfl rfl rfl EV (fun b hb hlt => ?_)))
      refine swp_draw mixed [0, 1, 2, 3, 4, 5, 6] [] (by kernel_rfl) (by kernel_rfl) rfl ?_
      (repeat' (first | refine G0 ?_ | refine sst_box rfl rfl rfl rfl rfl (fun b hb hlt => ?_) | refine sst_alloc tb_ok rfl rfl rfl EV (fun b hb hlt => ?_)))
      refine sst_quiet rfl rfl (q_index tb_ok rfl el_22 rfl rfl 0 rfl hp0) ?_
      (repeat' (first | refine G0 ?_ | refine sst_box rfl rfl rfl rfl rfl (fun b hb hlt => ?_) | refine sst_alloc tb_ok rfl rfl rfl EV (fun b hb hlt => ?_)))
      refine sst_quiet rfl rfl (q_far_one tb_ok rfl sz_9 rfl id hpc1) ?_
      (repeat' (first | refine G0 ?_ | refine sst_box rfl rfl rfl rfl rfl (fun b hb hlt => ?_) | refine sst_alloc tb_ok rfl rfl rfl EV (fun b hb hlt => ?_)))
      have hl1 : RepS (fun b => v.ownBlock ≠ some b) w1 A1 x.l.length c1 x.l := hl.to hk1 (hrep w1 v hk1 hvb)
      refine sst_call tb_ok rfl rfl rfl rfl rfl EV AP (fun v _ _ => v = .int .i64 (optI (elemO x.l s))) ?_ ?_
      · exact fun w2 h2 => c127 x.l s hps _ w2 _ _ _ (hl1.kp h2.kp)
      rintro v3 w2 w3 h2 hk3 rfl
      have hk23 := h2.kp.then hk3
      have ret1 : ∀ w', Kp No w1 w' → (match elemO x.l s with | none => [] | some i => match x.l[i]? with | none => [] | some y => passF y q) = [] → ∃ v1 xs1, Ending.returned (oneOr [v]) = .returned v1 ∧ Kp (fun b => v0.ownBlock = some b) w w' ∧ OwnL base w' v1 (l ++ passF x (s :: q)) xs1 ∧
          (v1.ownBlock = v0.ownBlock ∨ ∃ g, v1.ownBlock = some g ∧ w.heap.size ≤ g) := by
        intro w' hk h0
        rw [hpF, h0, List.append_nil]
        exact ⟨_, _, rfl, hk1.then hk, hov.kp hk, hvb⟩
      cases hfo : elemO x.l s with
      | none =>
        rw [hfo] at ret1
        simp only [optI]
        (repeat' (first | refine G0 ?_ | refine sst_box rfl rfl rfl rfl rfl (fun b hb hlt => ?_) | refine sst_alloc tb_ok rfl rfl rfl EV (fun b hb hlt => ?_)))
        refine swp_if rfl (fun h6 => ?_) (fun h6 => ?_)
        · exfalso; simp at h6
        (repeat' (first | refine G0 ?_ | refine sst_box rfl rfl rfl rfl rfl (fun b hb hlt => ?_) | refine sst_alloc tb_ok rfl rfl rfl EV (fun b hb hlt => ?_)))
        refine sq_ret tb_ok rfl EV (fun w' hk hr => ?_)
        exact ret1 _ (hk23.then hk) rfl
      | some i =>
        obtain ⟨f, hf⟩ := elemO_get hfo
        simp only [hfo, hf] at hpF
        simp only [optI]
        obtain ⟨fb, foff, fcs, rfl, hfS, hfin, hfl, hfrow, hfr⟩ := hl1.get hf
        have hlen := congrArg List.length hpF
        rw [List.length_append] at hlen
        (repeat' (first | refine G0 ?_ | refine sst_box rfl rfl rfl rfl rfl (fun b hb hlt => ?_) | refine sst_alloc tb_ok rfl rfl rfl EV (fun b hb hlt => ?_)))
        refine swp_if rfl (fun h6 => ?_) (fun h6 => ?_)
        rotate_left
        · exfalso; simp at h6
        (repeat' (first | refine G0 ?_ | refine sst_box rfl rfl rfl rfl rfl (fun b hb hlt => ?_) | refine sst_alloc tb_ok rfl rfl rfl EV (fun b hb hlt => ?_)))
        refine swp_draw mixed [0, 1, 2, 3, 4, 5, 6, 7, 8, 9] [8] (by kernel_rfl) (by kernel_rfl) rfl ?_
        (repeat' (first | refine G0 ?_ | refine sst_box rfl rfl rfl rfl rfl (fun b hb hlt => ?_) | refine sst_alloc tb_ok rfl rfl rfl EV (fun b hb hlt => ?_)))
        refine sst_quiet rfl rfl (q_index tb_ok rfl el_23 rfl rfl i rfl hfin) ?_
        (repeat' (first | refine G0 ?_ | refine sst_box rfl rfl rfl rfl rfl (fun b hb hlt => ?_) | refine sst_alloc tb_ok rfl rfl rfl EV (fun b hb hlt => ?_)))
        refine sst_quiet rfl rfl (q_far_agg tb_ok rfl sz_26 rfl id hfl (hfrow.kp hk23 id)) ?_
        (repeat' (first | refine G0 ?_ | refine sst_box rfl rfl rfl rfl rfl (fun b hb hlt => ?_) | refine sst_alloc tb_ok rfl rfl rfl EV (fun b hb hlt => ?_)))
        refine sst_quiet rfl rfl (q_slice tb_ok rfl el_22 rfl 1 n (by exact ⟨_, rfl⟩) (by rfl) hp0 hp.2.2.1) ?_
        (repeat' (first | refine G0 ?_ | refine sst_box rfl rfl rfl rfl rfl (fun b hb hlt => ?_) | refine sst_alloc tb_ok rfl rfl rfl EV (fun b hb hlt => ?_)))
        refine sst_call_row tb_ok rfl rfl rfl rfl rfl rfl EV AP 0 rfl (fun v1 n1 xs1 wa wb => n1 = (l ++ (x.l.flatMap fun y => if y.k = 5 then passF y (s :: q) else []) ++ passF f q).length ∧ OwnL base wb v1 (l ++ (x.l.flatMap fun y => if y.k = 5 then passF y (s :: q) else []) ++ passF f q) xs1) ?_ ?_
        · intro w4 h4
          have hk4 := hk23.then h4.kp
          refine (H1 f (List.mem_of_getElem? hf) q base w4 v _ ys _ _ _ _ h4.base (hov.kp hk4) (hfr.kp hk4) ((hpt.to hk1 (hrep w1 v hk1 hvb)).kp hk4) (by rw [List.length_append, LIM_eq]; omega)).mono ?_
          rintro e w5 ⟨v1, xs1, rfl, hk, ho, hb⟩
          exact ⟨v1, _, xs1, rfl, hk, ho.1, hb, rfl, ho⟩
        rintro v1 n1 xs1 w4 w5 h4 hk5 ho5 hb5 ⟨rfl, ho⟩
        (repeat' (first | refine G0 ?_ | refine sst_box rfl rfl rfl rfl rfl (fun b hb hlt => ?_) | refine sst_alloc tb_ok rfl rfl rfl EV (fun b hb hlt => ?_)))
        refine sq_ret tb_ok rfl EV (fun w' hk hr => ?_)
        have hk4 := hk23.then h4.kp
        rw [hpF, ← List.append_assoc]
        refine ⟨_, _, rfl, ((hk1.then hk4).transNew hk5 fun k hk hv => ?_).then hk, ho.kp hk, ?_⟩
        · rcases hvb with hvb | ⟨g, hvb, hg⟩
          · rw [← hvb]; exact hv
          · rw [hvb] at hv; have := Option.some.inj hv; omega
        · rcases hb5 with hb5 | ⟨g, hb5, hg⟩
          · simp only [oneOr]; rw [hb5]; exact hvb
          · exact .inr ⟨g, hb5, Nat.le_trans (hk1.then hk4).size hg⟩

theorem pass_all (x : Val) : PassC x := by
  refine pass_step x (fun z hz => pass_all z) (fun z hz => pass_all z.2)
  termination_by SizeOf.sizeOf x
  decreasing_by
  · obtain ⟨k, n, t, l, d⟩ := x; exact sizeOf_l hz
  · obtain ⟨k, n, t, l, d⟩ := x; exact sizeOf_d hz
end Go.Fw
