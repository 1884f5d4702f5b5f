/- Helping lemmas for the cards of this seat's laws, of the texts: W19, W20, W21, W22. They state no law of their own. -/
import Derived.Test.YtmpngkngkoigmaaGreatDoorOrd
import Derived.Test.YtmpngkngkoigmaaGreatDoorKitC
set_option linter.unusedVariables false
set_option linter.unusedSimpArgs false
set_option maxRecDepth 10000
set_option maxHeartbeats 2000000
namespace Go.Fw
open Go
attribute [local irreducible] SWp SQ SSeq SSt Quiet Next Meet
attribute [local irreducible] MeetX ForkQ STr

theorem c223s (A0 : Option Addr) (c0 : Nat) (v : Val) (S' : Nat → Prop) (w : World) (u1 u2 : Int) (u3 : ByteArray) (U4 U5 : Option Addr) (u4 u5 v4 v5 : Nat) (cv : List Value) (hv : RepV S' w v cv) :
    Calls Go.Proofs.Tryz.prog 223 #[.agg #[.int .i64 u1, .int .i64 u2, .string u3, .slice U4 u4 v4, .slice U5 u5 v5], .slice A0 0 c0, .agg cv.toArray] w fun e w2 => ∃ r, e = .returned r ∧ Kp No w w2 ∧ ∃ cs' : List Value, r = .tuple #[.agg cs'.toArray, .bool true] ∧ RepV (fun b => w.heap.size ≤ b) w2 v cs' := by
  obtain ⟨B3, m3, B4, m4, rfl, -⟩ := hv.parts
  refine calls_intro (args := [_, _, _]) w.heap.size Go.Proofs.Tryz.func223 rfl Go.Proofs.Tryz.ntmps223 (by simp) (Nat.le_refl _) ?_
  (repeat' (first | refine Gk ?_ | refine sst_box rfl rfl rfl rfl rfl (fun b hb hlt => ?_) | refine sst_alloc tb_ok rfl rfl rfl EV (fun b hb hlt => ?_)))
  refine sst_call tb_ok rfl rfl rfl rfl rfl EV AP (fun r wa wb => ∃ cs' : List Value, r = .agg cs'.toArray ∧ RepV (fun b => wa.heap.size ≤ b) wb v cs') ?_ ?_
  · exact fun w1 h1 => clone_all v S' w1 _ (hv.kp h1.kp)
  rintro r w2 w3 h2 hk3 ⟨cs', rfl, hrv⟩
  obtain ⟨B5, m5, B6, m6, rfl, -⟩ := hrv.parts
  have hb6 : ∀ k, dirty No b k → k = b := fun k hk => hk.elim id False.elim
  have hbw : w.heap.size ≤ b := hb
  have hbl : b < w2.heap.size := h2.lt b (by simp [Sym.blocks, Sym.put, Sym.addL])
  have hsz : w.heap.size ≤ w2.heap.size := h2.kp.size
  (repeat' (first | refine Gk ?_ | refine sst_box rfl rfl rfl rfl rfl (fun b hb hlt => ?_) | refine sst_alloc tb_ok rfl rfl rfl EV (fun b hb hlt => ?_)))
  refine sq_ret tb_ok rfl EV (fun w' hk hr => ?_)
  have hk2 := (h2.kp.then hk3).thenNew hk (fun k hk => by rw [hb6 k hk]; exact hbw)
  exact ⟨_, rfl, hk2, _, rfl, hrv.to hk (fun b' hb' _ => ⟨fun hd => by have := hb6 _ hd; omega, by omega⟩)⟩

theorem c180s (s : ByteArray) (y v : Val) (base g : Nat) (w : World) (A1 : Option Addr) (cA : Nat) (pb po pc : Nat) (cv : List Value) (hbase : base ≤ w.heap.size) (S0 : Nat → Prop) (ho : OwnD base w g s y S0)
    (hp : RepB (fun b => b ≠ g) w (some ⟨pb, po, none⟩) 1 pc [s]) (hv : RepV (fun b => b ≠ g) w v cv) :
    Calls Go.Proofs.Tryz.prog 180 #[.agg #[.int .i64 5, .int .i64 0, .string ⟨#[]⟩, .slice A1 0 cA, .slice (some ⟨g, 0, none⟩) 1 1], .slice (some ⟨pb, po, none⟩) 1 pc, .agg cv.toArray] w
      fun e w2 => ∃ r, e = .returned r ∧ Kp (fun k => k = g) w w2 ∧ r = .tuple #[.agg #[.int .i64 5, .int .i64 0, .string ⟨#[]⟩, .slice A1 0 cA, .slice (some ⟨g, 0, none⟩) 1 1], .bool true] ∧ OwnD base w2 g s v (fun b => w.heap.size ≤ b) := by
  have hrep := ho.rep
  obtain ⟨hbg, hss, cs, hrow, hy⟩ := ho
  obtain ⟨B1, m1, B2, m2, rfl, -⟩ := hy.parts
  obtain ⟨B3, m3, B4, m4, rfl, -⟩ := hv.parts
  obtain ⟨pb', po', hpa, hpS, hp0, hpc, hps⟩ := hp.get (i := 0) (s := s) rfl
  obtain ⟨rfl, rfl⟩ : pb = pb' ∧ po = po' := by simpa using hpa
  have hf0 : fieldO [(s, y)] s = some 0 := by
    unfold fieldO
    rw [List.findIdx?_eq_some_iff_getElem]
    exact ⟨by simp, by simp, fun j hj => by omega⟩
  have hlt : g < w.heap.size := by
    rcases hrow.2 with ⟨h, _⟩ | ⟨g', cap, cur, h, _, hgg, _⟩
    · cases h
    · obtain ⟨rfl⟩ : g = g' := by simp at h; exact h.1
      exact (Array.getElem?_eq_some_iff.1 hgg).1
  refine calls_intro (args := [_, _, _]) base Go.Proofs.Tryz.func180 rfl Go.Proofs.Tryz.ntmps180 (by simp) hbase ?_
  refine swp_addOwn (e := 114) (size := 6) (n := 1) (v := .slice (some ⟨g, 0, none⟩) 1 1) (fun w1 h1 => ⟨ownsRow_kp hrow h1.kp (fun _ _ h => h), fun g hg => by simp [Sym.blocks, start]⟩) ?_
  (repeat' (first | refine G0 ?_ | refine sst_box rfl rfl rfl rfl rfl (fun b hb hlt => ?_) | refine sst_alloc tb_ok rfl rfl rfl EV (fun b hb hlt => ?_)))
  rename_i b3 hb3 hlt3 b5 hb5 hlt5
  have hb3w : w.heap.size ≤ b3 := hb3
  have hb5w : w.heap.size ≤ b5 := hb5
  have hb6w : w.heap.size ≤ b := hb
  clear hb3 hlt3 hb5 hlt5 hb hlt
  revert b
  intro b6 hb6w
  refine swp_draw mixed [0, 1, 2, 3, 4, 5, 6] [] (by kernel_rfl) (by kernel_rfl) rfl ?_
  (repeat' (first | refine G0 ?_ | refine sst_box rfl rfl rfl rfl rfl (fun b hb hlt => ?_) | refine sst_alloc tb_ok rfl rfl rfl EV (fun b hb hlt => ?_)))
  refine sst_quiet rfl rfl (q_index tb_ok rfl el_22 rfl rfl 0 rfl (by omega)) ?_
  (repeat' (first | refine G0 ?_ | refine sst_box rfl rfl rfl rfl rfl (fun b hb hlt => ?_) | refine sst_alloc tb_ok rfl rfl rfl EV (fun b hb hlt => ?_)))
  refine sst_quiet rfl rfl (q_far_one tb_ok rfl sz_9 rfl id (by simpa using hpc)) ?_
  (repeat' (first | refine G0 ?_ | refine sst_box rfl rfl rfl rfl rfl (fun b hb hlt => ?_) | refine sst_alloc tb_ok rfl rfl rfl EV (fun b hb hlt => ?_)))
  refine sst_call tb_ok rfl rfl rfl rfl rfl EV AP (fun v _ _ => v = .int .i64 (optI (fieldO [(s, y)] s))) ?_ ?_
  · exact fun w1 h1 => c126 [(s, y)] s _ w1 _ _ _ (hrep.kp h1.kp)
  rintro r w2 w3 h2 hk3 rfl
  have hk23 : Kp No w w3 := h2.kp.then hk3
  have hbx := h2.lt
  simp only [Sym.blocks, Sym.put, Sym.addL, Sym.addR, List.map_cons, List.map_nil, List.filterMap_cons, List.filterMap_nil, Value.ownBlock, List.nil_append, List.cons_append] at hbx
  rw [hf0]
  simp only [optI, Int.natCast_zero]
  (repeat' (first | refine Gk ?_ | refine sst_box rfl rfl rfl rfl rfl (fun b hb hlt => ?_) | refine sst_alloc tb_ok rfl rfl rfl EV (fun b hb hlt => ?_)))
  refine swp_cutX (X := World × Nat × Option Addr × Nat × Option Addr × Nat) (fun x => Kp No w x.1 ∧ RepV (fun b => w.heap.size ≤ b ∧ b ≠ x.2.1 ∧ b ≠ b6) x.1 v [.int .i64 v.k, .int .i64 v.n, .string v.t, .slice x.2.2.1 v.l.length x.2.2.2.1, .slice x.2.2.2.2.1 v.d.length x.2.2.2.2.2])
    (fun x => ⟨56, [(10, .sb true), (9, .loc 3 0), (8, .val (.int .i64 0)), (6, .loc 2 0), (3, .loc 0 0)], [⟨b3, 26, [.int .i64 5, .int .i64 0, .string ⟨#[]⟩, .slice A1 0 cA, .slice (some ⟨g, 0, none⟩) 1 1], false⟩, ⟨b5, 26, [.int .i64 v.k, .int .i64 v.n, .string v.t, .slice B3 v.l.length m3, .slice B4 v.d.length m4], false⟩, ⟨b6, 26, [.int .i64 0, .int .i64 0, .string ⟨#[]⟩, .slice none 0 0, .slice none 0 0], false⟩, ⟨x.2.1, 26, [.int .i64 v.k, .int .i64 v.n, .string v.t, .slice x.2.2.1 v.l.length x.2.2.2.1, .slice x.2.2.2.2.1 v.d.length x.2.2.2.2.2], false⟩], [⟨.slice (some ⟨g, 0, none⟩) 1 1, 114, 6, 1, [.string s, .int .i64 y.k, .int .i64 y.n, .string y.t, .slice B1 y.l.length m1, .slice B2 y.d.length m2], false⟩], base, x.1, No⟩) ?_ ?_
  · refine swp_drawT mixed [0, 1, 2, 3, 4, 5, 6, 7, 8] [(.mk [9, 10, 11] [(.mk [12, 13, 14, 15] []), (.mk [13] [(.mk [12, 14, 15] []), (.mk [14, 12, 15] [])])]), (.mk [13, 9, 10, 11] [(.mk [12, 14, 15] []), (.mk [14, 12, 15] [])])] 21 [14] (by kernel_rfl) (by kernel_rfl) (str_mk ?_)
    (repeat' (first | refine Gk ?_ | refine sst_box rfl rfl rfl rfl rfl (fun b hb hlt => ?_) | refine sst_alloc tb_ok rfl rfl rfl EV (fun b hb hlt => ?_)))
    refine sst_quiet rfl rfl (q_index tb_ok rfl el_24 rfl rfl 0 rfl (by omega)) ?_
    (repeat' (first | refine Gk ?_ | refine sst_box rfl rfl rfl rfl rfl (fun b hb hlt => ?_) | refine sst_alloc tb_ok rfl rfl rfl EV (fun b hb hlt => ?_)))
    have hrow1 : RowAt w g 1 [.int .i64 y.k, .int .i64 y.n, .string y.t, .slice B1 y.l.length m1, .slice B2 y.d.length m2] := by
      have := RowAt.ofOwns hrow (g := g) rfl 0
      rw [sl_all (by rfl)] at this
      simpa using this.tail
    refine sst_quiet rfl rfl (q_far_agg tb_ok rfl sz_26 rfl id (by rfl) (hrow1.kp hk23 id)) ?_
    (repeat' (first | refine Gk ?_ | refine sst_box rfl rfl rfl rfl rfl (fun b hb hlt => ?_) | refine sst_alloc tb_ok rfl rfl rfl EV (fun b hb hlt => ?_)))
    refine sst_quiet rfl rfl (q_slice tb_ok rfl el_22 rfl 1 1 (by exact ⟨_, rfl⟩) (by rfl) (by omega) hp.2.2.1) ?_
    (repeat' (first | refine Gk ?_ | refine sst_box rfl rfl rfl rfl rfl (fun b hb hlt => ?_) | refine sst_alloc tb_ok rfl rfl rfl EV (fun b hb hlt => ?_)))
    refine sq_fork2 (str_mk ?_) (str_mk ?_)
    · (repeat' (first | refine Gk ?_ | refine sst_box rfl rfl rfl rfl rfl (fun b hb hlt => ?_) | refine sst_alloc tb_ok rfl rfl rfl EV (fun b hb hlt => ?_)))
      refine sst_call tb_ok rfl rfl rfl rfl rfl EV AP (fun r wa wb => ∃ cs' : List Value, r = .tuple #[.agg cs'.toArray, .bool true] ∧ RepV (fun b => wa.heap.size ≤ b) wb v cs') ?_ ?_
      · exact fun w1 h1 => c223s _ _ v _ w1 _ _ _ _ _ _ _ _ _ _ (hv.kp (hk23.then h1.kp))
      rintro r w4 w5 h4 hk5 ⟨cs', rfl, hr⟩
      obtain ⟨B5, m5, B6, m6, rfl, -⟩ := hr.parts
      have hk5 : Kp No w w5 := (hk23.then h4.kp).then hk5
      have hsz : w.heap.size ≤ w4.heap.size := (hk23.then h4.kp).size
      have hb64 : b6 < w4.heap.size := h4.lt _ (by simp [Sym.blocks, Sym.put, Sym.addL, Sym.rebase, oldL, oldR, Value.ownBlock])
      have close : ∀ (b9 : Nat) (w6 : World), w5.heap.size ≤ b9 → Kp No w5 w6 → Kp No w w6 ∧ RepV (fun b => w.heap.size ≤ b ∧ b ≠ b9 ∧ b ≠ b6) w6 v [.int .i64 v.k, .int .i64 v.n, .string v.t, .slice B5 v.l.length m5, .slice B6 v.d.length m6] :=
        fun b9 w6 h9 hk => ⟨hk5.then hk, hr.to hk fun b' hb' hlt' => ⟨id, by omega, by omega, by omega⟩⟩
      (repeat' (first | refine Gk ?_ | refine sst_box rfl rfl rfl rfl rfl (fun b hb hlt => ?_) | refine sst_alloc tb_ok rfl rfl rfl EV (fun b hb hlt => ?_)))
      refine sq_fork2 (str_mk ?_) (str_mk ?_)
      · (repeat' (first | refine Gk ?_ | refine sst_box rfl rfl rfl rfl rfl (fun b hb hlt => ?_) | refine sst_alloc tb_ok rfl rfl rfl EV (fun b hb hlt => ?_)))
        refine sq_meetX fun w6 h6 => ?_
        exact ⟨(w6, _, _, _, _, _), close _ _ hb h6.kp, rfl, rfl, rfl, fun k h => h, ⟨[], rfl⟩, List.Sublist.refl _, ⟨rfl, rfl, rfl, rfl, rfl, trivial⟩, by simp⟩
      · (repeat' (first | refine Gk ?_ | refine sst_box rfl rfl rfl rfl rfl (fun b hb hlt => ?_) | refine sst_alloc tb_ok rfl rfl rfl EV (fun b hb hlt => ?_)))
        refine sq_fork2 (str_mk ?_) (str_mk ?_)
        · (repeat' (first | refine Gk ?_ | refine sst_box rfl rfl rfl rfl rfl (fun b hb hlt => ?_) | refine sst_alloc tb_ok rfl rfl rfl EV (fun b hb hlt => ?_)))
          refine sq_meetX fun w6 h6 => ?_
          exact ⟨(w6, _, _, _, _, _), close _ _ hb h6.kp, rfl, rfl, rfl, fun k h => h, ⟨[], rfl⟩, List.Sublist.refl _, ⟨rfl, rfl, rfl, rfl, rfl, trivial⟩, by simp⟩
        · (repeat' (first | refine Gk ?_ | refine sst_box rfl rfl rfl rfl rfl (fun b hb hlt => ?_) | refine sst_alloc tb_ok rfl rfl rfl EV (fun b hb hlt => ?_)))
          refine sq_meetX fun w6 h6 => ?_
          exact ⟨(w6, _, _, _, _, _), close _ _ hb h6.kp, rfl, rfl, rfl, fun k h => h, ⟨[], rfl⟩, List.Sublist.refl _, ⟨rfl, rfl, rfl, rfl, rfl, trivial⟩, by simp⟩
    · (repeat' (first | refine Gk ?_ | refine sst_box rfl rfl rfl rfl rfl (fun b hb hlt => ?_) | refine sst_alloc tb_ok rfl rfl rfl EV (fun b hb hlt => ?_)))
      refine sst_call tb_ok rfl rfl rfl rfl rfl EV AP (fun r wa wb => ∃ cs' : List Value, r = .tuple #[.agg cs'.toArray, .bool true] ∧ RepV (fun b => wa.heap.size ≤ b) wb v cs') ?_ ?_
      · exact fun w1 h1 => c223s _ _ v _ w1 _ _ _ _ _ _ _ _ _ _ (hv.kp (hk23.then h1.kp))
      rintro r w4 w5 h4 hk5 ⟨cs', rfl, hr⟩
      obtain ⟨B5, m5, B6, m6, rfl, -⟩ := hr.parts
      have hk5 : Kp No w w5 := (hk23.then h4.kp).then hk5
      have hsz : w.heap.size ≤ w4.heap.size := (hk23.then h4.kp).size
      have hb64 : b6 < w4.heap.size := h4.lt _ (by simp [Sym.blocks, Sym.put, Sym.addL, Sym.rebase, oldL, oldR, Value.ownBlock])
      have hb9 : b < w4.heap.size := h4.lt _ (by simp [Sym.blocks, Sym.put, Sym.addL, Sym.rebase, oldL, oldR, Value.ownBlock])
      have hbw : w.heap.size ≤ b := Nat.le_trans hk23.size hb
      have hDb : ∀ k, dirty No b k → k = b := fun k hk => hk.elim id False.elim
      have close : ∀ (w6 : World), Kp (dirty No b) w5 w6 → Kp No w w6 ∧ RepV (fun b' => w.heap.size ≤ b' ∧ b' ≠ b ∧ b' ≠ b6) w6 v [.int .i64 v.k, .int .i64 v.n, .string v.t, .slice B5 v.l.length m5, .slice B6 v.d.length m6] :=
        fun w6 hk => ⟨hk5.thenNew hk fun k hk => by rw [hDb k hk]; exact hbw, hr.to hk fun b' hb' hlt' => ⟨fun hd => by have := hDb _ hd; omega, by omega, by omega, by omega⟩⟩
      (repeat' (first | refine Gk ?_ | refine sst_box rfl rfl rfl rfl rfl (fun b hb hlt => ?_) | refine sst_alloc tb_ok rfl rfl rfl EV (fun b hb hlt => ?_)))
      refine sq_fork2 (str_mk ?_) (str_mk ?_)
      · (repeat' (first | refine Gk ?_ | refine sst_box rfl rfl rfl rfl rfl (fun b hb hlt => ?_) | refine sst_alloc tb_ok rfl rfl rfl EV (fun b hb hlt => ?_)))
        refine sq_meetX fun w6 h6 => ?_
        exact ⟨(w6, _, _, _, _, _), close w6 h6.kp, rfl, rfl, rfl, fun k h => h, ⟨[], rfl⟩, List.Sublist.refl _, ⟨rfl, rfl, rfl, rfl, rfl, trivial⟩, by simp⟩
      · (repeat' (first | refine Gk ?_ | refine sst_box rfl rfl rfl rfl rfl (fun b hb hlt => ?_) | refine sst_alloc tb_ok rfl rfl rfl EV (fun b hb hlt => ?_)))
        refine sq_meetX fun w6 h6 => ?_
        exact ⟨(w6, _, _, _, _, _), close w6 h6.kp, rfl, rfl, rfl, fun k h => h, ⟨[], rfl⟩, List.Sublist.refl _, ⟨rfl, rfl, rfl, rfl, rfl, trivial⟩, by simp⟩
  rintro ⟨wx, b9, B5, m5, B6, m6⟩ ⟨hkx, hrx⟩
  simp only at hkx hrx
  (repeat' (first | refine Gk ?_ | refine sst_box rfl rfl rfl rfl rfl (fun b hb hlt => ?_) | refine sst_alloc tb_ok rfl rfl rfl EV (fun b hb hlt => ?_)))
  refine sst_quiet rfl rfl (q_index tb_ok rfl el_24 rfl rfl 0 rfl (by omega)) ?_
  (repeat' (first | refine Gk ?_ | refine sst_box rfl rfl rfl rfl rfl (fun b hb hlt => ?_) | refine sst_alloc tb_ok rfl rfl rfl EV (fun b hb hlt => ?_)))
  refine sst_rowStore tb_ok rfl rfl rfl rfl rfl 0 rfl rfl EV rfl EV (by rfl) (by simp) (by rfl) ?_
  (repeat' (first | refine Gk ?_ | refine sst_box rfl rfl rfl rfl rfl (fun b hb hlt => ?_) | refine sst_alloc tb_ok rfl rfl rfl EV (fun b hb hlt => ?_)))
  refine sq_ret tb_ok rfl EV (fun w' hk hr => ?_)
  have hD : ∀ k, dirty (dirtyV No (.slice (some ⟨g, 0, none⟩) 1 1)) b6 k → k = b6 ∨ k = g := by
    intro k hk
    rcases hk with hk | hk | hk
    · exact .inl hk
    · right; simpa [Value.ownBlock, eq_comm] using hk
    · exact hk.elim
  refine ⟨_, rfl, Kp.transNew (hkx.of_no) hk (fun i hi hd => ?_), rfl, hbg, hss, _, hr _ (by simp; rfl), hrx.to hk (fun b' hb' _ => ⟨fun hd => ?_, by omega, hb'.1⟩)⟩
  · rcases hD i hd with h | h
    · omega
    · exact h
  · rcases hD _ hd with h | h <;> omega
end Go.Fw

set_option linter.unusedVariables false
set_option linter.unusedSimpArgs false
set_option maxRecDepth 10000
set_option maxHeartbeats 2000000
namespace Go.Fw
open Go
attribute [local irreducible] SWp SQ SSeq SSt Quiet Next Meet
attribute [local irreducible] MeetX ForkQ STr

theorem OwnD.lt {base : Nat} {w : World} {g : Nat} {s : ByteArray} {y : Val} {S : Nat → Prop} (h : OwnD base w g s y S) : g < w.heap.size := by
  obtain ⟨_, _, cs, hrow, _⟩ := h
  rcases hrow.2 with ⟨h, _⟩ | ⟨g', cap, cur, h, _, hgg, _⟩
  · cases h
  · obtain ⟨rfl⟩ : g = g' := by simp at h; exact h.1
    exact (Array.getElem?_eq_some_iff.1 hgg).1

theorem OwnD.to {base : Nat} {w w' : World} {g : Nat} {s : ByteArray} {y : Val} {S S' : Nat → Prop} {D : Nat → Prop} (h : OwnD base w g s y S) (hk : Kp D w w') (hg : ¬ D g) (hS : ∀ b, S b → b < w.heap.size → ¬ D b ∧ S' b) : OwnD base w' g s y S' := by
  obtain ⟨h1, h2, cs, hrow, h4⟩ := h
  exact ⟨h1, h2, cs, ownsRow_kp hrow hk (fun g' hg' => by simp [Value.ownBlock] at hg'; rw [← hg']; exact hg), h4.to hk fun b hb hlt => ⟨(hS b hb.2 hlt).1, hb.1, (hS b hb.2 hlt).2⟩⟩

theorem c129s (s : ByteArray) (y v : Val) (base g : Nat) (w : World) (A1 : Option Addr) (cA : Nat) (pb po pc : Nat) (cv : List Value) (hbase : base ≤ w.heap.size) (S0 : Nat → Prop) (ho : OwnD base w g s y S0)
    (hp : RepB (fun b => b ≠ g) w (some ⟨pb, po, none⟩) 1 pc [s]) (hv : RepV (fun b => b ≠ g) w v cv) :
    Calls Go.Proofs.Tryz.prog 129 #[.agg #[.int .i64 5, .int .i64 0, .string ⟨#[]⟩, .slice A1 0 cA, .slice (some ⟨g, 0, none⟩) 1 1], .slice (some ⟨pb, po, none⟩) 1 pc, .agg cv.toArray] w
      fun e w2 => ∃ r, e = .returned r ∧ Kp (fun k => k = g) w w2 ∧ r = .tuple #[.agg #[.int .i64 5, .int .i64 0, .string ⟨#[]⟩, .slice A1 0 cA, .slice (some ⟨g, 0, none⟩) 1 1], .bool true] ∧ OwnD base w2 g s v (fun b => w.heap.size ≤ b) := by
  obtain ⟨B3, m3, B4, m4, rfl, -⟩ := hv.parts
  have hgl := ho.lt
  refine calls_intro (args := [_, _, _]) w.heap.size Go.Proofs.Tryz.func129 rfl Go.Proofs.Tryz.ntmps129 (by simp) (Nat.le_refl _) ?_
  (repeat' (first | refine Gk ?_ | refine sst_box rfl rfl rfl rfl rfl (fun b hb hlt => ?_) | refine sst_alloc tb_ok rfl rfl rfl EV (fun b hb hlt => ?_)))
  rename_i b3 hb3 hlt3 b5 hb5 hlt5
  have hb3w : w.heap.size ≤ b3 := hb3
  have hb5w : w.heap.size ≤ b5 := hb5
  have hb6w : w.heap.size ≤ b := hb
  refine sst_callD tb_ok rfl rfl rfl rfl rfl rfl EV (by simp only [List.nil_append, List.append_nil, List.cons_append]; rfl) (fun k => k = g) ?_
    (fun r w1 w2 => r = .tuple #[.agg #[.int .i64 5, .int .i64 0, .string ⟨#[]⟩, .slice A1 0 cA, .slice (some ⟨g, 0, none⟩) 1 1], .bool true] ∧ OwnD base w2 g s v (fun b => w1.heap.size ≤ b)) ?_ ?_
  · intro k hk e
    subst e
    simp [Sym.blocks, Sym.put, Sym.addL] at hk
    omega
  · intro w1 h1
    have hk1 : Kp No w w1 := h1.kp
    exact c180s s y v base g w1 A1 cA pb po pc _ (Nat.le_trans hbase hk1.size) S0 (ho.kp hk1) (hp.kp hk1) (hv.kp hk1)
  rintro r w1 w2 h1 hk2 ⟨rfl, ho2⟩
  have hk1 : Kp No w w1 := h1.kp
  have hb61 : b < w1.heap.size := h1.lt _ (by simp [Sym.blocks, Sym.put, Sym.addL])
  (repeat' (first | refine Gk ?_ | refine sst_box rfl rfl rfl rfl rfl (fun b hb hlt => ?_) | refine sst_alloc tb_ok rfl rfl rfl EV (fun b hb hlt => ?_)))
  refine sq_ret tb_ok rfl EV (fun w' hk hr => ?_)
  have hD : ∀ k, dirty No b k → k = b := fun k hk => hk.elim id False.elim
  refine ⟨_, rfl, Kp.transNew ((hk1.of_no).trans hk2) hk (fun i hi hd => ?_), rfl, ho2.to hk (fun hd => ?_) (fun b' hb' _ => ⟨fun hd => ?_, Nat.le_trans hk1.size hb'⟩)⟩
  · have := hD i hd; omega
  · have := hD _ hd; omega
  · have := hD _ hd; omega
end Go.Fw

set_option linter.unusedVariables false
set_option linter.unusedSimpArgs false
set_option maxRecDepth 10000
set_option maxHeartbeats 2000000
namespace Go.Fw
open Go
attribute [local irreducible] SWp SQ SSeq SSt Quiet Next Meet
attribute [local irreducible] MeetX ForkQ STr

theorem c74s (s : ByteArray) (y v : Val) (S S2 Sp : Nat → Prop) (w : World) (cx cv : List Value) (pb po pc : Nat) (hx : RepV S w (.mk 5 0 ⟨#[]⟩ [] [(s, y)]) cx) (hv : RepV S2 w v cv) (hv0 : v.k ≠ 0)
    (hp : RepB Sp w (some ⟨pb, po, none⟩) 1 pc [s]) (hpb : pathB [s] = true) :
    Calls Go.Proofs.Tryz.prog 74 #[.agg cx.toArray, .slice (some ⟨pb, po, none⟩) 1 pc, .agg cv.toArray] w fun e w2 => ∃ r, e = .returned r ∧ Kp No w w2 ∧ ∃ cs' : List Value, r = .tuple #[.agg cs'.toArray, .int .i64 0] ∧ RepV (fun _ => True) w2 (.mk 5 0 ⟨#[]⟩ [] [(s, v)]) cs' := by
  have hvg : ∀ g, w.heap.size ≤ g → RepV (fun b => b ≠ g) w v cv := fun g hg => hv.to (Kp.refl No w) fun b _ hlt => ⟨id, by omega⟩
  have hpg : ∀ g, w.heap.size ≤ g → RepB (fun b => b ≠ g) w (some ⟨pb, po, none⟩) 1 pc [s] := fun g hg => hp.to (Kp.refl No w) fun b _ hlt => ⟨id, by omega⟩
  obtain ⟨Ax, mx, Ay, my, rfl, -⟩ := hx.parts
  simp only [Val.k, Val.n, Val.t, Val.l, Val.d, List.length_nil, List.length_cons, Nat.zero_add] at hx ⊢
  obtain ⟨B3, m3, B4, m4, rfl, -⟩ := hv.parts
  refine calls_intro (args := [_, _, _]) w.heap.size Go.Proofs.Tryz.func74 rfl Go.Proofs.Tryz.ntmps74 (by simp) (Nat.le_refl _) ?_
  (repeat' (first | refine Gk ?_ | refine sst_box rfl rfl rfl rfl rfl (fun b hb hlt => ?_) | refine sst_alloc tb_ok rfl rfl rfl EV (fun b hb hlt => ?_)))
  rename_i b3 hb3 hlt3 b5 hb5 hlt5
  have hb6w : w.heap.size ≤ b := hb
  clear hb3 hlt3 hb5 hlt5 hb hlt
  revert b
  intro b6 hb6w
  refine sst_call tb_ok rfl rfl rfl rfl rfl EV AP (fun v _ _ => v = .bool true) ?_ ?_
  · intro w1 h1
    have := c72 [s] Sp w1 _ _ _ (hp.kp h1.kp)
    rw [hpb] at this
    exact this
  rintro r wz w0 hz hk0 rfl
  have hk0 : Kp No w w0 := hz.kp.then hk0
  (repeat' (first | refine Gk ?_ | refine sst_box rfl rfl rfl rfl rfl (fun b hb hlt => ?_) | refine sst_alloc tb_ok rfl rfl rfl EV (fun b hb hlt => ?_)))
  refine swp_if rfl (fun h => ?_) (fun h => ?_)
  · exact absurd (by simpa using h) hv0
  refine swp_skip ?_
  refine sq_then ?_
  refine swp_seq ?_
  refine swp_cutX (X := World × Nat × Option Addr × Nat × Nat) (fun x => Kp No w x.1 ∧ x.2.1 ≠ x.2.2.2.2 ∧ x.2.1 ≠ b6 ∧ w.heap.size ≤ x.2.1 ∧ ∃ base, OwnD base x.1 x.2.1 s v (fun b' => b' ≠ x.2.2.2.2 ∧ b' ≠ b6))
    (fun x => ⟨35, [(9, .sb true), (8, .loc 3 0), (6, .loc 2 0)], [⟨b3, 26, [.int .i64 5, .int .i64 0, .string ⟨#[]⟩, .slice Ax 0 mx, .slice Ay 1 my], false⟩, ⟨b5, 26, [.int .i64 v.k, .int .i64 v.n, .string v.t, .slice B3 v.l.length m3, .slice B4 v.d.length m4], false⟩, ⟨b6, 26, [.int .i64 0, .int .i64 0, .string ⟨#[]⟩, .slice none 0 0, .slice none 0 0], false⟩, ⟨x.2.2.2.2, 26, [.int .i64 5, .int .i64 0, .string ⟨#[]⟩, .slice x.2.2.1 0 x.2.2.2.1, .slice (some ⟨x.2.1, 0, none⟩) 1 1], false⟩], [], w.heap.size, x.1, No⟩) ?_ ?_
  · refine swp_drawT mixed [0, 2, 3] [(.mk [1] [(.mk [4, 5, 6] [(.mk [7, 8, 9, 10] []), (.mk [8] [(.mk [7, 9, 10] []), (.mk [9, 7, 10] [])])]), (.mk [8, 4, 5, 6] [(.mk [7, 9, 10] []), (.mk [9, 7, 10] [])])]), (.mk [8, 1, 4, 5, 6] [(.mk [7, 9, 10] []), (.mk [9, 7, 10] [])])] 16 [4, 9] (by kernel_rfl) (by kernel_rfl) (str_mk ?_)
    (repeat' (first | refine Gk ?_ | refine sst_box rfl rfl rfl rfl rfl (fun b hb hlt => ?_) | refine sst_alloc tb_ok rfl rfl rfl EV (fun b hb hlt => ?_)))
    refine sq_fork2 (str_mk ?_) (str_mk ?_)
    · (repeat' (first | refine Gk ?_ | refine sst_box rfl rfl rfl rfl rfl (fun b hb hlt => ?_) | refine sst_alloc tb_ok rfl rfl rfl EV (fun b hb hlt => ?_)))
      refine sst_call tb_ok rfl rfl rfl rfl rfl EV AP (fun r wa wb => ∃ (g : Nat) (A1 : Option Addr) (cA : Nat), r = .agg #[.int .i64 5, .int .i64 0, .string ⟨#[]⟩, .slice A1 0 cA, .slice (some ⟨g, 0, none⟩) 1 1] ∧ OwnD wa.heap.size wb g s y (fun _ => True)) ?_ ?_
      · exact fun w1 h1 => clone_one s y S w1 _ (hx.kp (hk0.then h1.kp))
      rintro r wa wb ha hkb ⟨g, A1, cA, rfl, ho⟩
      have hka : Kp No w wa := hk0.then ha.kp
      have hkb' : Kp No w wb := hka.then hkb
      have hga : wa.heap.size ≤ g := ho.1
      have hgw : w.heap.size ≤ g := Nat.le_trans hka.size hga
      have hgl := ho.lt
      have hsab := hkb.size
      have hb6a : b6 < wa.heap.size := ha.lt _ (by simp [Sym.blocks, Sym.put, Sym.addL, Sym.rebase, oldL, oldR, Value.ownBlock])
      (repeat' (first | refine Gk ?_ | refine sst_box rfl rfl rfl rfl rfl (fun b hb hlt => ?_) | refine sst_alloc tb_ok rfl rfl rfl EV (fun b hb hlt => ?_)))
      refine sq_fork2 (str_mk ?_) (str_mk ?_)
      · (repeat' (first | refine Gk ?_ | refine sst_box rfl rfl rfl rfl rfl (fun b hb hlt => ?_) | refine sst_alloc tb_ok rfl rfl rfl EV (fun b hb hlt => ?_)))
        refine sst_callD tb_ok rfl rfl rfl rfl rfl rfl EV (by simp only [List.nil_append, List.append_nil, List.cons_append]; rfl) (fun k => k = g) ?_
          (fun r w1 w2 => r = .tuple #[.agg #[.int .i64 5, .int .i64 0, .string ⟨#[]⟩, .slice A1 0 cA, .slice (some ⟨g, 0, none⟩) 1 1], .bool true] ∧ OwnD wa.heap.size w2 g s v (fun b => w1.heap.size ≤ b)) ?_ ?_
        · intro k hk e
          subst e
          have hb3a : b3 < wa.heap.size := ha.lt _ (by simp [Sym.blocks, Sym.put, Sym.addL, Sym.rebase, oldL, oldR, Value.ownBlock])
          have hb5a : b5 < wa.heap.size := ha.lt _ (by simp [Sym.blocks, Sym.put, Sym.addL, Sym.rebase, oldL, oldR, Value.ownBlock])
          simp [Sym.blocks, Sym.put, Sym.addL, Sym.rebase, oldL, oldR, Value.ownBlock] at hk
          omega
        · intro w1 h1
          have hk1 : Kp No wb w1 := h1.kp
          exact c129s s y v wa.heap.size g w1 A1 cA pb po pc _ (Nat.le_trans hsab hk1.size) _ (ho.kp hk1) ((hpg g hgw).kp (hkb'.then hk1)) ((hvg g hgw).kp (hkb'.then hk1))
        rintro r wd we hd hke ⟨rfl, ho2⟩
        have hkd' : Kp No wb wd := hd.kp
        have hkd : Kp No w wd := hkb'.then hkd'
        have hwe : Kp No w we := hkd.thenNew hke (fun k hk => by rw [hk]; exact hgw)
        have hsbd := hkd'.size
        have hb6d : b6 < wd.heap.size := by omega
        have close : ∀ (b8 : Nat) (w6 : World), we.heap.size ≤ b8 → Kp No we w6 → Kp No w w6 ∧ g ≠ b8 ∧ g ≠ b6 ∧ w.heap.size ≤ g ∧ ∃ base, OwnD base w6 g s v (fun b' => b' ≠ b8 ∧ b' ≠ b6) :=
          fun b8 w6 h8 hk => ⟨hwe.then hk, by have := ho2.lt; omega, by omega, hgw, _, ho2.to hk id fun b' hb' hlt' => ⟨id, by omega, by omega⟩⟩
        (repeat' (first | refine Gk ?_ | refine sst_box rfl rfl rfl rfl rfl (fun b hb hlt => ?_) | refine sst_alloc tb_ok rfl rfl rfl EV (fun b hb hlt => ?_)))
        refine sq_fork2 (str_mk ?_) (str_mk ?_)
        · (repeat' (first | refine Gk ?_ | refine sst_box rfl rfl rfl rfl rfl (fun b hb hlt => ?_) | refine sst_alloc tb_ok rfl rfl rfl EV (fun b hb hlt => ?_)))
          refine sq_meetX fun w6 h6 => ?_
          exact ⟨(w6, _, _, _, _), close _ w6 hb h6.kp, rfl, rfl, rfl, fun k h => h, ⟨[], rfl⟩, List.Sublist.refl _, ⟨rfl, rfl, rfl, trivial⟩, by simp⟩
        · (repeat' (first | refine Gk ?_ | refine sst_box rfl rfl rfl rfl rfl (fun b hb hlt => ?_) | refine sst_alloc tb_ok rfl rfl rfl EV (fun b hb hlt => ?_)))
          refine sq_fork2 (str_mk ?_) (str_mk ?_)
          · (repeat' (first | refine Gk ?_ | refine sst_box rfl rfl rfl rfl rfl (fun b hb hlt => ?_) | refine sst_alloc tb_ok rfl rfl rfl EV (fun b hb hlt => ?_)))
            refine sq_meetX fun w6 h6 => ?_
            exact ⟨(w6, _, _, _, _), close _ w6 hb h6.kp, rfl, rfl, rfl, fun k h => h, ⟨[], rfl⟩, List.Sublist.refl _, ⟨rfl, rfl, rfl, trivial⟩, by simp⟩
          · (repeat' (first | refine Gk ?_ | refine sst_box rfl rfl rfl rfl rfl (fun b hb hlt => ?_) | refine sst_alloc tb_ok rfl rfl rfl EV (fun b hb hlt => ?_)))
            refine sq_meetX fun w6 h6 => ?_
            exact ⟨(w6, _, _, _, _), close _ w6 hb h6.kp, rfl, rfl, rfl, fun k h => h, ⟨[], rfl⟩, List.Sublist.refl _, ⟨rfl, rfl, rfl, trivial⟩, by simp⟩
      · (repeat' (first | refine Gk ?_ | refine sst_box rfl rfl rfl rfl rfl (fun b hb hlt => ?_) | refine sst_alloc tb_ok rfl rfl rfl EV (fun b hb hlt => ?_)))
        have h8b : wb.heap.size ≤ b := hb
        refine sst_callD tb_ok rfl rfl rfl rfl rfl rfl EV (by simp only [List.nil_append, List.append_nil, List.cons_append]; rfl) (fun k => k = g) ?_
          (fun r w1 w2 => r = .tuple #[.agg #[.int .i64 5, .int .i64 0, .string ⟨#[]⟩, .slice A1 0 cA, .slice (some ⟨g, 0, none⟩) 1 1], .bool true] ∧ OwnD wa.heap.size w2 g s v (fun b => w1.heap.size ≤ b)) ?_ ?_
        · intro k hk e
          subst e
          have hb3a : b3 < wa.heap.size := ha.lt _ (by simp [Sym.blocks, Sym.put, Sym.addL, Sym.rebase, oldL, oldR, Value.ownBlock])
          have hb5a : b5 < wa.heap.size := ha.lt _ (by simp [Sym.blocks, Sym.put, Sym.addL, Sym.rebase, oldL, oldR, Value.ownBlock])
          simp [Sym.blocks, Sym.put, Sym.addL, Sym.rebase, oldL, oldR, Value.ownBlock] at hk
          omega
        · intro w1 h1
          have hk1 : Kp No wb w1 := h1.kp
          exact c129s s y v wa.heap.size g w1 A1 cA pb po pc _ (Nat.le_trans hsab hk1.size) _ (ho.kp hk1) ((hpg g hgw).kp (hkb'.then hk1)) ((hvg g hgw).kp (hkb'.then hk1))
        rintro r wd we hd hke ⟨rfl, ho2⟩
        have hkd' : Kp No wb wd := hd.kp
        have hkd : Kp No w wd := hkb'.then hkd'
        have hwe : Kp No w we := hkd.thenNew hke (fun k hk => by rw [hk]; exact hgw)
        have hsbd := hkd'.size
        have hb6d : b6 < wd.heap.size := by omega
        have h8d : b < wd.heap.size := hd.lt _ (by simp [Sym.blocks, Sym.put, Sym.addL, Sym.rebase, oldL, oldR, Value.ownBlock])
        have h8w : w.heap.size ≤ b := by have := hkb'.size; omega
        have h8g : g ≠ b := by omega
        have hDb : ∀ k, dirty No b k → k = b := fun k hk => hk.elim id False.elim
        have close : ∀ (w6 : World), Kp (dirty No b) we w6 → Kp No w w6 ∧ g ≠ b ∧ g ≠ b6 ∧ w.heap.size ≤ g ∧ ∃ base, OwnD base w6 g s v (fun b' => b' ≠ b ∧ b' ≠ b6) :=
          fun w6 hk => ⟨hwe.thenNew hk fun k hk => by rw [hDb k hk]; exact h8w, h8g, by omega, hgw, _, ho2.to hk (fun hd => h8g (hDb _ hd)) fun b' hb' hlt' => ⟨fun hd => by have := hDb _ hd; omega, by omega, by omega⟩⟩
        (repeat' (first | refine Gk ?_ | refine sst_box rfl rfl rfl rfl rfl (fun b hb hlt => ?_) | refine sst_alloc tb_ok rfl rfl rfl EV (fun b hb hlt => ?_)))
        refine sq_fork2 (str_mk ?_) (str_mk ?_)
        · (repeat' (first | refine Gk ?_ | refine sst_box rfl rfl rfl rfl rfl (fun b hb hlt => ?_) | refine sst_alloc tb_ok rfl rfl rfl EV (fun b hb hlt => ?_)))
          refine sq_meetX fun w6 h6 => ?_
          exact ⟨(w6, _, _, _, _), close w6 h6.kp, rfl, rfl, rfl, fun k h => h, ⟨[], rfl⟩, List.Sublist.refl _, ⟨rfl, rfl, rfl, trivial⟩, by simp⟩
        · (repeat' (first | refine Gk ?_ | refine sst_box rfl rfl rfl rfl rfl (fun b hb hlt => ?_) | refine sst_alloc tb_ok rfl rfl rfl EV (fun b hb hlt => ?_)))
          refine sq_meetX fun w6 h6 => ?_
          exact ⟨(w6, _, _, _, _), close w6 h6.kp, rfl, rfl, rfl, fun k h => h, ⟨[], rfl⟩, List.Sublist.refl _, ⟨rfl, rfl, rfl, trivial⟩, by simp⟩
    · (repeat' (first | refine Gk ?_ | refine sst_box rfl rfl rfl rfl rfl (fun b hb hlt => ?_) | refine sst_alloc tb_ok rfl rfl rfl EV (fun b hb hlt => ?_)))
      have h80 : w0.heap.size ≤ b := hb
      refine sst_call tb_ok rfl rfl rfl rfl rfl EV AP (fun r wa wb => ∃ (g : Nat) (A1 : Option Addr) (cA : Nat), r = .agg #[.int .i64 5, .int .i64 0, .string ⟨#[]⟩, .slice A1 0 cA, .slice (some ⟨g, 0, none⟩) 1 1] ∧ OwnD wa.heap.size wb g s y (fun _ => True)) ?_ ?_
      · exact fun w1 h1 => clone_one s y S w1 _ (hx.kp (hk0.then h1.kp))
      rintro r wa wb ha hkb ⟨g, A1, cA, rfl, ho⟩
      have hka : Kp No w wa := hk0.then ha.kp
      have hkb' : Kp No w wb := hka.then hkb
      have hga : wa.heap.size ≤ g := ho.1
      have hgw : w.heap.size ≤ g := Nat.le_trans hka.size hga
      have hgl := ho.lt
      have hsab := hkb.size
      have hb6a : b6 < wa.heap.size := ha.lt _ (by simp [Sym.blocks, Sym.put, Sym.addL, Sym.rebase, oldL, oldR, Value.ownBlock])
      have h8a : b < wa.heap.size := ha.lt _ (by simp [Sym.blocks, Sym.put, Sym.addL, Sym.rebase, oldL, oldR, Value.ownBlock])
      (repeat' (first | refine Gk ?_ | refine sst_box rfl rfl rfl rfl rfl (fun b hb hlt => ?_) | refine sst_alloc tb_ok rfl rfl rfl EV (fun b hb hlt => ?_)))
      refine sst_callD tb_ok rfl rfl rfl rfl rfl rfl EV (by simp only [List.nil_append, List.append_nil, List.cons_append]; rfl) (fun k => k = g) ?_
        (fun r w1 w2 => r = .tuple #[.agg #[.int .i64 5, .int .i64 0, .string ⟨#[]⟩, .slice A1 0 cA, .slice (some ⟨g, 0, none⟩) 1 1], .bool true] ∧ OwnD wa.heap.size w2 g s v (fun b => w1.heap.size ≤ b)) ?_ ?_
      · intro k hk e
        subst e
        have hb3a : b3 < wa.heap.size := ha.lt _ (by simp [Sym.blocks, Sym.put, Sym.addL, Sym.rebase, oldL, oldR, Value.ownBlock])
        have hb5a : b5 < wa.heap.size := ha.lt _ (by simp [Sym.blocks, Sym.put, Sym.addL, Sym.rebase, oldL, oldR, Value.ownBlock])
        simp [Sym.blocks, Sym.put, Sym.addL, Sym.rebase, oldL, oldR, Value.ownBlock] at hk
        omega
      · intro w1 h1
        have hk1 : Kp No wb w1 := h1.kp
        exact c129s s y v wa.heap.size g w1 A1 cA pb po pc _ (Nat.le_trans hsab hk1.size) _ (ho.kp hk1) ((hpg g hgw).kp (hkb'.then hk1)) ((hvg g hgw).kp (hkb'.then hk1))
      rintro r wd we hd hke ⟨rfl, ho2⟩
      have hkd' : Kp No wb wd := hd.kp
      have hkd : Kp No w wd := hkb'.then hkd'
      have hwe : Kp No w we := hkd.thenNew hke (fun k hk => by rw [hk]; exact hgw)
      have hsbd := hkd'.size
      have hb6d : b6 < wd.heap.size := by omega
      have h8d : b < wd.heap.size := hd.lt _ (by simp [Sym.blocks, Sym.put, Sym.addL, Sym.rebase, oldL, oldR, Value.ownBlock])
      have h8w : w.heap.size ≤ b := by have := hk0.size; omega
      have h8g : g ≠ b := by omega
      have hDb : ∀ k, dirty No b k → k = b := fun k hk => hk.elim id False.elim
      have close : ∀ (w6 : World), Kp (dirty No b) we w6 → Kp No w w6 ∧ g ≠ b ∧ g ≠ b6 ∧ w.heap.size ≤ g ∧ ∃ base, OwnD base w6 g s v (fun b' => b' ≠ b ∧ b' ≠ b6) :=
        fun w6 hk => ⟨hwe.thenNew hk fun k hk => by rw [hDb k hk]; exact h8w, h8g, by omega, hgw, _, ho2.to hk (fun hd => h8g (hDb _ hd)) fun b' hb' hlt' => ⟨fun hd => by have := hDb _ hd; omega, by omega, by omega⟩⟩
      (repeat' (first | refine Gk ?_ | refine sst_box rfl rfl rfl rfl rfl (fun b hb hlt => ?_) | refine sst_alloc tb_ok rfl rfl rfl EV (fun b hb hlt => ?_)))
      refine sq_fork2 (str_mk ?_) (str_mk ?_)
      · (repeat' (first | refine Gk ?_ | refine sst_box rfl rfl rfl rfl rfl (fun b hb hlt => ?_) | refine sst_alloc tb_ok rfl rfl rfl EV (fun b hb hlt => ?_)))
        refine sq_meetX fun w6 h6 => ?_
        exact ⟨(w6, _, _, _, _), close w6 h6.kp, rfl, rfl, rfl, fun k h => h, ⟨[], rfl⟩, List.Sublist.refl _, ⟨rfl, rfl, rfl, trivial⟩, by simp⟩
      · (repeat' (first | refine Gk ?_ | refine sst_box rfl rfl rfl rfl rfl (fun b hb hlt => ?_) | refine sst_alloc tb_ok rfl rfl rfl EV (fun b hb hlt => ?_)))
        refine sq_meetX fun w6 h6 => ?_
        exact ⟨(w6, _, _, _, _), close w6 h6.kp, rfl, rfl, rfl, fun k h => h, ⟨[], rfl⟩, List.Sublist.refl _, ⟨rfl, rfl, rfl, trivial⟩, by simp⟩
  rintro ⟨wx, g, A1, cA, b8⟩ ⟨hkx, hg8, hg6, hgw, base, ho⟩
  simp only at hkx hg8 hg6 hgw ho
  (repeat' (first | refine Gk ?_ | refine sst_box rfl rfl rfl rfl rfl (fun b hb hlt => ?_) | refine sst_alloc tb_ok rfl rfl rfl EV (fun b hb hlt => ?_)))
  refine sq_ret tb_ok rfl EV (fun w' hk hr => ?_)
  have hD : ∀ k, dirty No b6 k → k = b6 := fun k hk => hk.elim id False.elim
  have ho2 := ho.to hk (S' := fun _ => True) (fun hd => hg6 (hD _ hd)) fun b' hb' _ => ⟨fun hd => hb'.2 (hD _ hd), trivial⟩
  exact ⟨_, rfl, hkx.thenNew hk (fun k hk => by rw [hD k hk]; exact hb6w), _, rfl, RepV.of (by simp [inI]) (by simp [inI]) (by rw [LIM_eq]; simp [ByteArray.size]) (RepS.nil _ _ _ _) ho2.rep⟩
end Go.Fw

set_option linter.unusedVariables false
set_option linter.unusedSimpArgs false
set_option maxRecDepth 10000
set_option maxHeartbeats 2000000
namespace Go.Fw
open Go
attribute [local irreducible] SWp SQ SSeq SSt Quiet Next Meet
attribute [local irreducible] MeetX ForkQ STr

theorem c73s (s : ByteArray) (y : Val) (S Sp : Nat → Prop) (w : World) (cx : List Value) (pb po pc : Nat) (hx : RepV S w (.mk 5 0 ⟨#[]⟩ [] [(s, y)]) cx) (hp : RepB Sp w (some ⟨pb, po, none⟩) 1 pc [s]) :
    Calls Go.Proofs.Tryz.prog 73 #[.agg cx.toArray, .slice (some ⟨pb, po, none⟩) 1 pc] w fun e w2 => ∃ r, e = .returned r ∧ Kp No w w2 ∧ ∃ cs' : List Value, r = .agg cs'.toArray ∧ RepV (fun _ => True) w2 y cs' := by
  have hf0 : fieldO [(s, y)] s = some 0 := by
    unfold fieldO
    rw [List.findIdx?_eq_some_iff_getElem]
    exact ⟨by simp, by simp, fun j hj => by omega⟩
  obtain ⟨pb', po', hpa, hpS, hp0, hpc, hps⟩ := hp.get (i := 0) (s := s) rfl
  obtain ⟨rfl, rfl⟩ : pb = pb' ∧ po = po' := by simpa using hpa
  obtain ⟨Ax, mx, Ay, my, rfl, -, -, -, -, hd⟩ := hx.parts
  simp only [Val.k, Val.n, Val.t, Val.l, Val.d, List.length_nil, List.length_cons, Nat.zero_add] at hx hd ⊢
  obtain ⟨fb, foff, fcs, rfl, hfS, hfin, hfl, hfrow, hfr, hfs⟩ := hd.get (i := 0) (f := (s, y)) rfl
  obtain ⟨B1, m1, B2, m2, rfl, -⟩ := hfr.parts
  simp only at hfrow hfr
  refine calls_intro (args := [_, _]) w.heap.size Go.Proofs.Tryz.func73 rfl Go.Proofs.Tryz.ntmps73 (by simp) (Nat.le_refl _) ?_
  (repeat' (first | refine Gk ?_ | refine sst_box rfl rfl rfl rfl rfl (fun b hb hlt => ?_) | refine sst_alloc tb_ok rfl rfl rfl EV (fun b hb hlt => ?_)))
  rename_i b2 hb2 hlt2
  have hb2w : w.heap.size ≤ b2 := hb2
  have hb4w : w.heap.size ≤ b := hb
  have hb24 : b2 < b := hlt b2 (by simp [Sym.blocks, start, Sym.put, Sym.addL])
  clear hb2 hlt2 hb hlt
  revert b
  intro b4 hb4w hb24
  refine swp_loop (X := World × Nat × Val × Option Addr × Nat × Option Addr × Nat) (fun x => Kp No w x.1 ∧ ((x.2.1 = 0 ∧ x.2.2 = (.mk 5 0 ⟨#[]⟩ [] [(s, y)], Ax, mx, some ⟨fb, foff, none⟩, my)) ∨ (x.2.1 = 1 ∧ x.2.2 = (y, B1, m1, B2, m2))))
    (fun x => ⟨49, [(10, .val (.int .i64 (x.2.1 : Int))), (9, .val (.int .i64 1)), (8, .val (.slice (some ⟨pb, po, none⟩) 1 pc)), (2, .loc 0 0), (4, .loc 1 0)],
      [⟨b2, 26, [.int .i64 x.2.2.1.k, .int .i64 x.2.2.1.n, .string x.2.2.1.t, .slice x.2.2.2.1 x.2.2.1.l.length x.2.2.2.2.1, .slice x.2.2.2.2.2.1 x.2.2.1.d.length x.2.2.2.2.2.2], false⟩, ⟨b4, 26, [.int .i64 0, .int .i64 0, .string ⟨#[]⟩, .slice none 0 0, .slice none 0 0], false⟩], [], w.heap.size, x.1, No⟩) (fun x => 1 - x.2.1) ?_ ?_
  · intro w1 h1
    exact ⟨(w1, 0, _), ⟨h1.kp, .inl ⟨rfl, rfl⟩⟩, rfl, rfl, rfl, fun k h => h, ⟨[], rfl⟩, List.Sublist.refl _, ⟨rfl, rfl, rfl, rfl, rfl, trivial⟩, by simp⟩
  rintro ⟨w1, i, z⟩ ⟨hk1, hz⟩
  simp only at hk1 hz
  rcases hz with ⟨rfl, rfl⟩ | ⟨rfl, rfl⟩
  · simp only [Val.k, Val.n, Val.t, Val.l, Val.d, List.length_nil, List.length_cons, Nat.zero_add, Int.natCast_zero]
    (repeat' (first | refine Gk ?_ | refine sst_box rfl rfl rfl rfl rfl (fun b hb hlt => ?_) | refine sst_alloc tb_ok rfl rfl rfl EV (fun b hb hlt => ?_)))
    refine sst_quiet rfl rfl (q_index tb_ok rfl el_22 rfl rfl 0 rfl (by omega)) ?_
    (repeat' (first | refine Gk ?_ | refine sst_box rfl rfl rfl rfl rfl (fun b hb hlt => ?_) | refine sst_alloc tb_ok rfl rfl rfl EV (fun b hb hlt => ?_)))
    refine sst_quiet rfl rfl (q_far_one tb_ok rfl sz_9 rfl id (hk1.cell (by simpa using hpc) id)) ?_
    (repeat' (first | refine Gk ?_ | refine sst_box rfl rfl rfl rfl rfl (fun b hb hlt => ?_) | refine sst_alloc tb_ok rfl rfl rfl EV (fun b hb hlt => ?_)))
    refine sst_call tb_ok rfl rfl rfl rfl rfl EV AP (fun v _ _ => v = .int .i64 (optI (fieldO [(s, y)] s))) ?_ ?_
    · exact fun w2 h2 => c126 [(s, y)] s _ w2 _ _ _ (hd.kp (hk1.then h2.kp))
    rintro r w2 w3 h2 hk3 rfl
    have hk13 : Kp No w w3 := (hk1.then h2.kp).then hk3
    rw [hf0]
    simp only [optI, Int.natCast_zero]
    (repeat' (first | refine Gk ?_ | refine sst_box rfl rfl rfl rfl rfl (fun b hb hlt => ?_) | refine sst_alloc tb_ok rfl rfl rfl EV (fun b hb hlt => ?_)))
    refine sst_quiet rfl rfl (q_index tb_ok rfl el_24 rfl rfl 0 rfl (by omega)) ?_
    (repeat' (first | refine Gk ?_ | refine sst_box rfl rfl rfl rfl rfl (fun b hb hlt => ?_) | refine sst_alloc tb_ok rfl rfl rfl EV (fun b hb hlt => ?_)))
    refine sst_quiet rfl rfl (q_far_agg tb_ok rfl sz_26 rfl id hfl (by simpa using hfrow.tail.kp hk13 id)) ?_
    (repeat' (first | refine Gk ?_ | refine sst_box rfl rfl rfl rfl rfl (fun b hb hlt => ?_) | refine sst_alloc tb_ok rfl rfl rfl EV (fun b hb hlt => ?_)))
    refine sq_next fun w4 h4 => ?_
    have hD : ∀ k, dirty No b2 k → k = b2 := fun k hk => hk.elim id False.elim
    rw [wr_small (x := 0 + 1) (by omega)]
    exact ⟨(w4, 1, y, B1, m1, B2, m2), ⟨hk13.thenNew h4.kp fun k hk => by rw [hD k hk]; exact hb2w, .inr ⟨rfl, rfl⟩⟩, by simp, rfl, rfl, rfl, fun k h => h, ⟨[], rfl⟩, List.Sublist.refl _, ⟨rfl, rfl, rfl, rfl, rfl, trivial⟩, by simp⟩
  · simp only
    (repeat' (first | refine Gk ?_ | refine sst_box rfl rfl rfl rfl rfl (fun b hb hlt => ?_) | refine sst_alloc tb_ok rfl rfl rfl EV (fun b hb hlt => ?_)))
    refine sst_call tb_ok rfl rfl rfl rfl rfl EV AP (fun r wa wb => ∃ cs' : List Value, r = .agg cs'.toArray ∧ RepV (fun b => wa.heap.size ≤ b) wb y cs') ?_ ?_
    · exact fun w2 h2 => clone_all y S w2 _ (hfr.kp (hk1.then h2.kp))
    rintro r w2 w3 h2 hk3 ⟨cs', rfl, hrv⟩
    obtain ⟨B5, m5, B6, m6, rfl, -⟩ := hrv.parts
    have hk13 : Kp No w w3 := (hk1.then h2.kp).then hk3
    have hbl : b4 < w2.heap.size := h2.lt _ (by simp [Sym.blocks, Sym.put, Sym.addL])
    (repeat' (first | refine Gk ?_ | refine sst_box rfl rfl rfl rfl rfl (fun b hb hlt => ?_) | refine sst_alloc tb_ok rfl rfl rfl EV (fun b hb hlt => ?_)))
    refine sq_ret tb_ok rfl EV (fun w' hk hr => ?_)
    have hD : ∀ k, dirty No b4 k → k = b4 := fun k hk => hk.elim id False.elim
    exact ⟨_, rfl, hk13.thenNew hk fun k hk => by rw [hD k hk]; exact hb4w, _, rfl, hrv.to hk fun b' hb' _ => ⟨fun hd => by have := hD _ hd; omega, trivial⟩⟩
end Go.Fw
