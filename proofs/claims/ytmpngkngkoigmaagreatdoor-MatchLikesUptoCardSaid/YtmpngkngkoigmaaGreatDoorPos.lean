/- Helping lemmas for the cards of this seat's laws, of the texts: W23, V5, V6, V7, W24. They state no law of their own. -/
import Derived.Test.YtmpngkngkoigmaaGreatDoorPut
set_option linter.unusedVariables false
set_option linter.unusedSimpArgs false
set_option maxRecDepth 10000
set_option maxHeartbeats 2000000
namespace Go.Fw
open Go
attribute [local irreducible] SWp SQ SSeq SSt Quiet Next Meet
attribute [local irreducible] MeetX ForkQ STr

def listV (l : List Val) : Val := .mk 6 0 ⟨#[]⟩ l []
def oneD (s : ByteArray) (y : Val) : Val := .mk 5 0 ⟨#[]⟩ [] [(s, y)]

/-- match.Position at a document of one field that has a list. -/
theorem c27 (s : ByteArray) (l : List Val) (leaf : Val → Bool) (op : Int) (p : List ByteArray) (a : Val) (al : List Val) (n : Int) (S S' Sp : Nat → Prop) (w : World) (cs cx : List Value) (pb po pc : Nat) (hpp : PL S w op p a al n cs) (hx : RepV S' w (oneD s (listV l)) cx)
    (hp : RepB Sp w (some ⟨pb, po, none⟩) 1 pc [s]) (hpb : pathB [s] = true) (hlim : (leavesF (oneD s (listV l)) p).length * 80 ≤ LIM) (hlim2 : ∀ z ∈ l, (leavesF (oneD s (listV [z])) p).length * 80 ≤ LIM)
    (hop : opOK op) (hleaf : (op ≠ 10 ∧ ¬ (2 ≤ op ∧ op ≤ 9) ∧ op ≠ 14) → LeafC w cs leaf) :
    Calls Go.Proofs.Tryz.prog 27 #[.agg cs.toArray, .agg cx.toArray, .slice (some ⟨pb, po, none⟩) 1 pc] w fun e w2 => ∃ r, e = .returned r ∧ Kp No w w2 ∧
      r = .int .i64 (if onP leaf op p a al n (oneD s (listV l)) then optI (l.findIdx? fun z => onP leaf op p a al n (oneD s (listV [z]))) else -1) := by
  have hp0 := hpp
  obtain ⟨A, m, c, B1, n1, B2, n2, A2, m2, c2, m', s0, S1, s1, s2, s3, x0, X1, x1, x2, x3, X4, x4, x5, x6, x7, x8, X9, x9, x10, X11, x11, x12, x13, X14, x14, x15, K, k1, k2, rfl, hpath, harg, hargs⟩ := hpp.parts
  have hx0 := hx
  obtain ⟨Ax, mx, Ay, my, rfl, -, -, -, -, hd⟩ := hx.parts
  simp only [oneD, Val.k, Val.n, Val.t, Val.l, Val.d, List.length_nil, List.length_cons, Nat.zero_add] at hx hd hx0
  refine calls_intro (args := [_, _, _]) w.heap.size Go.Proofs.Tryz.func27 rfl Go.Proofs.Tryz.ntmps27 (by simp) (Nat.le_refl _) ?_
  (repeat' (first | refine Gk ?_ | refine sst_box rfl rfl rfl rfl rfl (fun b hb hlt => ?_) | refine sst_alloc tb_ok rfl rfl rfl EV (fun b hb hlt => ?_)))
  rename_i b3 hb3 hlt3
  clear hb3 hlt3 hb hlt
  revert b
  intro b4
  refine sst_call tb_ok rfl rfl rfl rfl rfl EV AP (fun v _ _ => v = .bool true) ?_ ?_
  · intro w1 h1
    have := c72 [s] Sp w1 _ _ _ (hp.kp h1.kp)
    rw [hpb] at this
    exact this
  rintro r wz w0 hz hk0 rfl
  have hk0 : Kp No w w0 := hz.kp.then hk0
  (repeat' (first | refine Gk ?_ | refine sst_box rfl rfl rfl rfl rfl (fun b hb hlt => ?_) | refine sst_alloc tb_ok rfl rfl rfl EV (fun b hb hlt => ?_)))
  refine sst_call tb_ok rfl rfl rfl rfl rfl EV AP (fun v _ _ => v = .bool ((oneD s (listV l)).k == 5 && onP leaf op p a al n (oneD s (listV l)))) ?_ ?_
  · exact fun w1 h1 => c23 (oneD s (listV l)) leaf op p a al n _ _ w1 _ _ (hp0.kp (hk0.then h1.kp)) (hx0.kp (hk0.then h1.kp)) hlim hop (fun h => (hleaf h).kp (hk0.then h1.kp))
  rintro r w1 w2 h1 hk2 rfl
  have hk2 : Kp No w w2 := (hk0.then h1.kp).then hk2
  have hk5 : ((oneD s (listV l)).k == 5) = true := rfl
  rw [hk5, Bool.true_and]
  (repeat' (first | refine Gk ?_ | refine sst_box rfl rfl rfl rfl rfl (fun b hb hlt => ?_) | refine sst_alloc tb_ok rfl rfl rfl EV (fun b hb hlt => ?_)))
  refine swp_if rfl (fun h => ?_) (fun h => ?_)
  · have hm : onP leaf op p a al n (oneD s (listV l)) = false := by simpa using h
    (repeat' (first | refine Gk ?_ | refine sst_box rfl rfl rfl rfl rfl (fun b hb hlt => ?_) | refine sst_alloc tb_ok rfl rfl rfl EV (fun b hb hlt => ?_)))
    refine sq_ret tb_ok rfl EV (fun w' hk hr => ?_)
    exact ⟨_, rfl, hk2.then hk, by rw [hm]; rfl⟩
  have hm : onP leaf op p a al n (oneD s (listV l)) = true := by simpa using h
  rw [hm]
  (repeat' (first | refine Gk ?_ | refine sst_box rfl rfl rfl rfl rfl (fun b hb hlt => ?_) | refine sst_alloc tb_ok rfl rfl rfl EV (fun b hb hlt => ?_)))
  refine sst_call tb_ok rfl rfl rfl rfl rfl EV AP (fun r wa wb => ∃ cs' : List Value, r = .agg cs'.toArray ∧ RepV (fun _ => True) wb (listV l) cs') ?_ ?_
  · exact fun w3 h3 => c73s s (listV l) S' Sp w3 _ pb po pc (hx0.kp (hk2.then h3.kp)) (hp.kp (hk2.then h3.kp))
  rintro r w3 w4 h3 hk4 ⟨cl, rfl, hrl⟩
  have hk4 : Kp No w w4 := (hk2.then h3.kp).then hk4
  obtain ⟨B5, m5, B6, m6, rfl, -, -, -, hL, -⟩ := hrl.parts
  simp only [listV, Val.k, Val.n, Val.t, Val.l, Val.d] at hL ⊢
  rw [if_pos True.intro]
  have hlb := hL.2.1
  rw [LIM_eq] at hlb
  (repeat' (first | refine Gk ?_ | refine sst_box rfl rfl rfl rfl rfl (fun b hb hlt => ?_) | refine sst_alloc tb_ok rfl rfl rfl EV (fun b hb hlt => ?_)))
  refine swp_loop (X := World × Nat) (fun x => Kp No w4 x.1 ∧ x.2 ≤ l.length ∧ ∀ (j : Nat) z, j < x.2 → l[j]? = some z → onP leaf op p a al n (oneD s (.mk 6 0 ⟨#[]⟩ [z] [])) = false)
    (fun x => ⟨53, [(30, .val (.int .i64 (x.2 : Int))), (29, .val (.int .i64 (l.length : Int))), (28, .val (.slice B5 l.length m5)), (3, .loc 0 0), (4, .loc 1 0), (2, .val (.slice (some ⟨pb, po, none⟩) 1 pc))],
      [⟨b3, 35, [.int .i64 op, .slice A m c, .int .i64 a.k, .int .i64 a.n, .string a.t, .slice B1 a.l.length n1, .slice B2 a.d.length n2, .slice A2 m2 c2, .int .i64 n, .int .i64 m', .int .i64 s0, .slice S1 s1 s2, .int .i64 s3, .int .i64 x0, .slice X1 x1 x2, .string x3, .slice X4 x4 x5, .int .i64 x6, .int .i64 x7, .string x8, .slice X9 x9 x10, .slice X11 x11 x12, .int .i64 x13, .slice X14 x14 x15, .slice K k1 k2], false⟩, ⟨b4, 26, [.int .i64 5, .int .i64 0, .string ⟨#[]⟩, .slice Ax 0 mx, .slice Ay 1 my], false⟩], [], w.heap.size, x.1, No⟩) (fun x => l.length - x.2) ?_ ?_
  · intro w5 h5
    refine ⟨(w5, 0), ⟨h5.kp, Nat.zero_le _, fun j z hj => by omega⟩, ?_⟩
    (refine WKmk ?_; try trivial)
  rintro ⟨w5, i⟩ ⟨hk5, hi, hall⟩
  simp only at hk5 hi hall
  have hkw5 : Kp No w w5 := hk4.then hk5
  (repeat' (first | refine G0 ?_ | refine sst_box rfl rfl rfl rfl rfl (fun b hb hlt => ?_) | refine sst_alloc tb_ok rfl rfl rfl EV (fun b hb hlt => ?_)))
  refine swp_if rfl (fun h7 => ?_) (fun h7 => ?_)
  · have hi : i < l.length := by simp at h7; omega
    obtain ⟨z, hz⟩ := get_of_lt hi
    obtain ⟨zb, zoff, zcs, rfl, hzS, hzin, hzl, hzrow, hzr⟩ := hL.get hz
    obtain ⟨B7, m7, B8, m8, rfl, -⟩ := hzr.parts
    (repeat' (first | refine G0 ?_ | refine sst_box rfl rfl rfl rfl rfl (fun b hb hlt => ?_) | refine sst_alloc tb_ok rfl rfl rfl EV (fun b hb hlt => ?_)))
    refine sst_quiet rfl rfl (q_index tb_ok rfl el_23 rfl rfl i rfl hzin) ?_
    (repeat' (first | refine G0 ?_ | refine sst_box rfl rfl rfl rfl rfl (fun b hb hlt => ?_) | refine sst_alloc tb_ok rfl rfl rfl EV (fun b hb hlt => ?_)))
    refine sst_quiet rfl rfl (q_far_agg tb_ok rfl sz_26 rfl id hzl (hzrow.kp hk5 id)) ?_
    (repeat' (first | refine G0 ?_ | refine sst_box rfl rfl rfl rfl rfl (fun b hb hlt => ?_) | refine sst_alloc tb_ok rfl rfl rfl EV (fun b hb hlt => ?_)))
    refine sst_buildSlice tb_ok rfl rfl rfl EV EV (by rfl) EV (by rfl) (by omega) (by simp) (fun g hg hgl => ?_)
    (repeat' (first | refine G0 ?_ | refine sst_box rfl rfl rfl rfl rfl (fun b hb hlt => ?_) | refine sst_alloc tb_ok rfl rfl rfl EV (fun b hb hlt => ?_)))
    refine sst_call tb_ok rfl rfl rfl rfl rfl EV AP (fun r wa wb => ∃ cs' : List Value, r = .tuple #[.agg cs'.toArray, .int .i64 0] ∧ RepV (fun _ => True) wb (oneD s (.mk 6 0 ⟨#[]⟩ [z] [])) cs') ?_ ?_
    · intro w6 h6
      have hk6 : Kp No w w6 := hkw5.then h6.kp
      obtain ⟨A9, c9, hv9, hr9⟩ := RepS.ofRow (S := fun _ => True) (l := [z]) (h6.row _ (by simp [Sym.put, Sym.addR, Sym.addL]; rfl)) rfl (by rw [LIM_eq]; simp) (fun _ _ => trivial) (fun j u hu => by
        cases j with
        | zero =>
          simp at hu
          subst hu
          rw [sl_all (by rfl)]
          exact hzr.kp (hk5.then h6.kp)
        | succ j => simp at hu)
      obtain ⟨rfl, rfl⟩ : A9 = some ⟨g, 0, none⟩ ∧ c9 = 1 := by simpa [eq_comm] using hv9
      exact c74s s (listV l) (.mk 6 0 ⟨#[]⟩ [z] []) S' (fun _ => True) Sp w6 _ _ pb po pc (hx0.kp hk6) (RepV.of (by simp [inI]) (by simp [inI]) (by rw [LIM_eq]; simp [ByteArray.size]) hr9 (RepD.nil _ _ _ _)) (by simp [Val.k]) (hp.kp hk6) hpb
    rintro r w6 w7 h6 hk7 ⟨cd, rfl, hrd⟩
    have hk57 : Kp No w5 w7 := Kp.then h6.kp hk7
    have hk7 : Kp No w w7 := hkw5.then hk57
    obtain ⟨B9, m9, Ba, ma, rfl, -⟩ := hrd.parts
    (repeat' (first | refine Gk ?_ | refine sst_box rfl rfl rfl rfl rfl (fun b hb hlt => ?_) | refine sst_alloc tb_ok rfl rfl rfl EV (fun b hb hlt => ?_)))
    refine sst_call tb_ok rfl rfl rfl rfl rfl EV AP (fun v _ _ => v = .bool (onP leaf op p a al n (oneD s (.mk 6 0 ⟨#[]⟩ [z] [])))) ?_ ?_
    · intro w8 h8
      exact c23 _ leaf op p a al n _ _ w8 _ _ (hp0.kp (hk7.then h8.kp)) (hrd.kp h8.kp) (hlim2 z (List.mem_of_getElem? hz)) hop (fun h => (hleaf h).kp (hk7.then h8.kp))
    rintro r w8 w9 h8 hk9 rfl
    have hk59 : Kp No w5 w9 := (hk57.then h8.kp).then hk9
    (repeat' (first | refine Gk ?_ | refine sst_box rfl rfl rfl rfl rfl (fun b hb hlt => ?_) | refine sst_alloc tb_ok rfl rfl rfl EV (fun b hb hlt => ?_)))
    refine swp_if rfl (fun h9 => ?_) (fun h9 => ?_)
    · (repeat' (first | refine Gk ?_ | refine sst_box rfl rfl rfl rfl rfl (fun b hb hlt => ?_) | refine sst_alloc tb_ok rfl rfl rfl EV (fun b hb hlt => ?_)))
      refine sq_ret tb_ok rfl EV (fun w' hk hr => ?_)
      refine ⟨_, rfl, (hkw5.then hk59).then hk, ?_⟩
      have : (l.findIdx? fun z => onP leaf op p a al n (oneD s (.mk 6 0 ⟨#[]⟩ [z] []))) = some i := by
        rw [List.findIdx?_eq_some_iff_getElem]
        refine ⟨hi, ?_, fun j hj => ?_⟩
        · rw [(List.getElem?_eq_some_iff.1 hz).2]; exact h9
        · rw [hall j _ hj (List.getElem?_eq_getElem (by omega))]; simp
      rw [this]; rfl
    (repeat' (first | refine Gk ?_ | refine sst_box rfl rfl rfl rfl rfl (fun b hb hlt => ?_) | refine sst_alloc tb_ok rfl rfl rfl EV (fun b hb hlt => ?_)))
    refine sq_next fun w10 h10 => ?_
    refine ⟨(w10, i + 1), ⟨hk5.then (hk59.then h10.kp), by simp; omega, fun j u hj hu => ?_⟩, by simp; omega, ?_⟩
    · by_cases hji : j = i
      · subst hji
        rw [hz] at hu
        obtain rfl := Option.some.inj hu
        exact h9
      · exact hall j u (by simp at hj; omega) hu
    · (refine WKmk ?_; try trivial)
      rw [wr_small (by omega)]
      simp
  · (repeat' (first | refine G0 ?_ | refine sst_box rfl rfl rfl rfl rfl (fun b hb hlt => ?_) | refine sst_alloc tb_ok rfl rfl rfl EV (fun b hb hlt => ?_)))
    refine sq_ret tb_ok rfl EV (fun w' hk hr => ?_)
    refine ⟨_, rfl, hkw5.then hk, ?_⟩
    have hie : i = l.length := by simp at h7; omega
    have : (l.findIdx? fun z => onP leaf op p a al n (oneD s (.mk 6 0 ⟨#[]⟩ [z] []))) = none := by
      rw [List.findIdx?_eq_none_iff]
      intro u hu
      obtain ⟨j, hj⟩ := List.mem_iff_getElem?.1 hu
      have := (List.getElem?_eq_some_iff.1 hj).1
      exact hall j u (by omega) hj
    rw [this]; rfl
end Go.Fw

set_option linter.unusedVariables false
set_option linter.unusedSimpArgs false
namespace Go.Fw
open Go
def bA : ByteArray := ⟨#[97]⟩
def intV (i : Int) : Val := .mk 3 i ⟨#[]⟩ [] []
theorem reach_one (l : List Val) : reachF (oneD bA (.mk 6 0 ⟨#[]⟩ l [])) [bA] = [.mk 6 0 ⟨#[]⟩ l []] := by
  have : passF (oneD bA (.mk 6 0 ⟨#[]⟩ l [])) [bA] = [.mk 6 0 ⟨#[]⟩ l []] := by
    rw [passF_cons]
    simp [oneD, Val.k, Val.d, fieldO, passF_nil, List.findIdx?_cons]
  unfold reachF
  rw [this]; simp
theorem leaves_one (l : List Val) : leavesF (oneD bA (.mk 6 0 ⟨#[]⟩ l [])) [bA] = .mk 6 0 ⟨#[]⟩ l [] :: l := by
  unfold leavesF
  rw [reach_one]
  simp [kids6, Val.k, Val.l]
theorem eqN_int (i j : Int) : eqN (intV i) (intV j) = (i == j) := by
  unfold eqN eqV' intV
  simp [Val.k, cmpV, cmpI]
  by_cases h : i = j
  · simp [h]
  · have : (i == j) = false := by simpa using h
    rw [this]
    by_cases h2 : i < j
    · simp [h2]
    · have : j < i := by omega
      simp [h2, this]
theorem eqN_list (l : List Val) (j : Int) : eqN (.mk 6 0 ⟨#[]⟩ l []) (intV j) = false := by
  unfold eqN eqV' intV
  simp [Val.k, cmpV, cmpI]
theorem onP_eq (leaf : Val → Bool) (l : List Int) (j : Int) : onP leaf 2 [bA] (intV j) [] 0 (oneD bA (.mk 6 0 ⟨#[]⟩ (l.map intV) [])) = l.any (· == j) := by
  unfold onP
  rw [if_neg (by decide), if_pos rfl, leaves_one]
  simp [eqN_list, eqN_int, List.any_map, Function.comp_def]
end Go.Fw

set_option linter.unusedVariables false
set_option linter.unusedSimpArgs false
namespace Go.Fw
open Go
def intCells (i : Int) : List Value := [.int .i64 3, .int .i64 i, .string ⟨#[]⟩, .slice none 0 0, .slice none 0 0]
theorem intV_rep (S : Nat → Prop) (w : World) (i : Int) (hi : inI i) : RepV S w (intV i) (intCells i) :=
  RepV.of (by simp [inI]) hi (by rw [LIM_eq]; simp [ByteArray.size]) (RepS.nil _ _ _ _) (RepD.nil _ _ _ _)
def awkV : Val := oneD bA (.mk 6 0 ⟨#[]⟩ [intV 0, intV 9] [])
theorem awk_rep {w : World} {b1 b2 g1 g2 : Nat} (h1 : w.ownsRow b1 26 5 (.slice (some ⟨g1, 0, none⟩) 2 2) 2 (intCells 0 ++ intCells 9))
    (h2 : w.ownsRow b2 114 6 (.slice (some ⟨g2, 0, none⟩) 1 1) 1 [.string bA, .int .i64 6, .int .i64 0, .string ⟨#[]⟩, .slice (some ⟨g1, 0, none⟩) 2 2, .slice none 0 0]) :
    RepV (fun _ => True) w awkV [.int .i64 5, .int .i64 0, .string ⟨#[]⟩, .slice none 0 0, .slice (some ⟨g2, 0, none⟩) 1 1] := by
  obtain ⟨A, c, hv, hr⟩ := RepS.ofRow (S := fun _ => True) (l := [intV 0, intV 9]) h1 rfl (by rw [LIM_eq]; omega) (fun _ _ => trivial) (fun i x hx => by
    match i with
    | 0 => simp at hx; subst hx; exact intV_rep _ _ 0 (by simp [inI])
    | 1 => simp at hx; subst hx; exact intV_rep _ _ 9 (by simp [inI])
    | i + 2 => simp at hx)
  obtain ⟨rfl, rfl⟩ : A = some ⟨g1, 0, none⟩ ∧ c = 2 := by simpa [eq_comm] using hv
  obtain ⟨A, c, hv, hr2⟩ := RepD.ofRow (S := fun _ => True) (d := [(bA, .mk 6 0 ⟨#[]⟩ [intV 0, intV 9] [])]) h2 rfl (by rw [LIM_eq]; omega) (fun _ _ => trivial) (fun i x hx => by
    match i with
    | 0 =>
      simp at hx; subst hx
      exact ⟨by rw [LIM_eq]; decide, _, rfl, RepV.of (by simp [inI]) (by simp [inI]) (by rw [LIM_eq]; simp [ByteArray.size]) hr (RepD.nil _ _ _ _)⟩
    | i + 1 => simp at hx)
  obtain ⟨rfl, rfl⟩ : A = some ⟨g2, 0, none⟩ ∧ c = 1 := by simpa [eq_comm] using hv
  exact RepV.of (by simp [inI]) (by simp [inI]) (by rw [LIM_eq]; simp [ByteArray.size]) (RepS.nil _ _ _ _) hr2
theorem path_rep {w : World} {b g : Nat} {s : ByteArray} (hs : s.size ≤ LIM) (h : w.ownsRow b 9 1 (.slice (some ⟨g, 0, none⟩) 1 1) 1 [.string s]) : RepB (fun _ => True) w (some ⟨g, 0, none⟩) 1 1 [s] := by
  refine ⟨rfl, by rw [LIM_eq]; omega, by omega, .inr ⟨g, 0, rfl, trivial, fun i u hu => ?_⟩, fun u hu => by simp at hu; subst hu; exact hs⟩
  match i with
  | 0 =>
    simp at hu; subst hu
    have := h.cells (g := g) rfl 0 _ rfl
    rw [add_mk] at this
    simpa using this
  | i + 1 => simp at hu
def z16 : List Value := [.int .i64 0, .int .i64 0, .slice none 0 0, .int .i64 0, .int .i64 0, .slice none 0 0, .string ⟨#[]⟩, .slice none 0 0, .int .i64 0, .int .i64 0, .string ⟨#[]⟩, .slice none 0 0, .slice none 0 0, .int .i64 0, .slice none 0 0, .slice none 0 0]
theorem z16_mid : Mid z16 := ⟨_, _, _, _, _, _, _, _, _, _, _, _, _, _, _, _, _, _, _, _, _, _, _, _, _, _, _, _, _, _, rfl⟩
theorem pred_rep {S : Nat → Prop} {w : World} {op : Int} {p : List ByteArray} {a : Val} {A : Option Addr} {m c : Nat} {ca : List Value} (hp : RepB S w A m c p) (ha : RepV S w a ca) :
    PL S w op p a [] 0 (.int .i64 op :: .slice A m c :: (ca ++ (.slice none 0 0 :: .int .i64 0 :: z16))) :=
  ⟨_, _, _, _, _, _, _, _, rfl, hp, ha, RepS.nil _ _ _ _, z16_mid⟩
theorem onP_ne (leaf : Val → Bool) (l : List Int) (j : Int) : onP leaf 3 [bA] (intV j) [] 0 (oneD bA (.mk 6 0 ⟨#[]⟩ (l.map intV) [])) = !(l.any (· == j)) := by
  unfold onP
  rw [if_neg (by decide), if_neg (by decide), if_pos rfl, leaves_one]
  simp [eqN_list, eqN_int, List.any_map, Function.comp_def]
theorem leaves_nil (i : Int) : leavesF (intV i) [] = [intV i] := by
  unfold leavesF reachF
  rw [passF_nil]
  simp [kids6, intV, Val.k]
theorem onP_gt (leaf : Val → Bool) : onP leaf 4 [] (intV 2) [] 0 (intV 3) = true := by
  unfold onP
  rw [if_neg (by decide), if_neg (by decide), if_neg (by decide), if_pos (by omega), leaves_nil]
  simp [ordF, intV, Val.k, cmpV, cmpI]
end Go.Fw

set_option linter.unusedVariables false
set_option linter.unusedSimpArgs false
namespace Go.Fw
open Go
mutual
def nodesV : Val → Nat
  | .mk _ _ _ l d => 1 + nodesL l + nodesD d
def nodesL : List Val → Nat
  | [] => 0
  | x :: l => nodesV x + nodesL l
def nodesD : List (ByteArray × Val) → Nat
  | [] => 0
  | x :: l => nodesV x.2 + nodesD l
end
theorem nodesV_eq (x : Val) : nodesV x = 1 + nodesL x.l + nodesD x.d := by
  obtain ⟨k, n, t, l, d⟩ := x
  simp only [nodesV, Val.l, Val.d]
theorem nodesL_mem {x : Val} : ∀ {l : List Val}, x ∈ l → nodesV x ≤ nodesL l
  | [], h => by cases h
  | y :: l, h => by
    simp only [nodesL]
    rcases List.mem_cons.1 h with rfl | h
    · omega
    · have := nodesL_mem h; omega
theorem nodesD_mem {x : ByteArray × Val} : ∀ {l : List (ByteArray × Val)}, x ∈ l → nodesV x.2 ≤ nodesD l
  | [], h => by cases h
  | y :: l, h => by
    simp only [nodesD]
    rcases List.mem_cons.1 h with rfl | h
    · omega
    · have := nodesD_mem h; omega
theorem nodesL_app : ∀ (l r : List Val), nodesL (l ++ r) = nodesL l + nodesL r
  | [], r => by simp [nodesL]
  | x :: l, r => by simp only [List.cons_append, nodesL, nodesL_app l r]; omega
theorem nodesL_len : ∀ (l : List Val), l.length ≤ nodesL l
  | [] => by simp
  | x :: l => by have := nodesL_len l; have := nodesV_eq x; simp only [nodesL, List.length_cons]; omega
theorem nodesD_len : ∀ (l : List (ByteArray × Val)), l.length ≤ nodesD l
  | [] => by simp
  | x :: l => by have := nodesD_len l; have := nodesV_eq x.2; simp only [nodesD, List.length_cons]; omega
theorem nodesL_flat (f : Val → List Val) (c : Nat) : ∀ (l : List Val), (∀ y ∈ l, nodesL (f y) ≤ nodesV y * c) → nodesL (l.flatMap f) ≤ nodesL l * c
  | [], _ => by simp [nodesL]
  | y :: l, h => by
    have h1 := h y List.mem_cons_self
    have h2 := nodesL_flat f c l fun z hz => h z (List.mem_cons_of_mem _ hz)
    simp only [List.flatMap_cons, nodesL_app, nodesL, Nat.add_mul]
    omega

theorem pass_nodes (x : Val) (p : List ByteArray) : nodesL (passF x p) ≤ nodesV x * 2 ^ p.length ∧ (x.k = 5 → nodesL (passF x p) ≤ nodesV x * 2 ^ (p.length - 1)) := by
  cases p with
  | nil => rw [passF_nil]; simp [nodesL]
  | cons s q =>
    rw [passF_cons]
    have hx := nodesV_eq x
    have hpos : 1 ≤ 2 ^ q.length := Nat.one_le_two_pow
    simp only [List.length_cons, Nat.add_sub_cancel, Nat.pow_succ]
    split
    · rename_i h5
      have key : nodesL (match fieldO x.d s with | none => [] | some i => match x.d[i]? with | none => [] | some f => passF f.2 q) ≤ nodesV x * 2 ^ q.length := by
        split
        · simp [nodesL]
        · split
          · simp [nodesL]
          · rename_i i f hf
            have h1 := (pass_nodes f.2 q).1
            have h2 := nodesD_mem (List.mem_of_getElem? hf)
            exact Nat.le_trans h1 (Nat.mul_le_mul_right _ (by omega))
      refine ⟨Nat.le_trans key ?_, fun _ => key⟩
      rw [← Nat.mul_assoc]; omega
    · rename_i h5
      refine ⟨?_, fun h => absurd h h5⟩
      split
      · have hA : nodesL (x.l.flatMap fun y => if y.k = 5 then passF y (s :: q) else []) ≤ nodesL x.l * 2 ^ q.length := by
          refine nodesL_flat _ _ _ fun y hy => ?_
          split
          · rename_i hk
            have := (pass_nodes y (s :: q)).2 hk
            simpa using this
          · simp [nodesL]
        have hB : nodesL (match elemO x.l s with | none => [] | some i => match x.l[i]? with | none => [] | some y => passF y q) ≤ nodesL x.l * 2 ^ q.length := by
          split
          · simp [nodesL]
          · split
            · simp [nodesL]
            · rename_i i f hf
              have h1 := (pass_nodes f q).1
              have h2 := nodesL_mem (List.mem_of_getElem? hf)
              exact Nat.le_trans h1 (Nat.mul_le_mul_right _ (by omega))
        rw [nodesL_app, ← Nat.mul_assoc]
        have hC : nodesL x.l * 2 ^ q.length ≤ nodesV x * 2 ^ q.length := Nat.mul_le_mul_right _ (by omega)
        refine Nat.le_trans (Nat.add_le_add hA hB) ?_
        omega
      · simp [nodesL]
  termination_by SizeOf.sizeOf x
  decreasing_by
  all_goals first
    | exact sizeOf_getd (by assumption)
    | exact sizeOf_get (by assumption)
    | exact sizeOf_mem (by assumption)

theorem leaves_nodes (x : Val) (p : List ByteArray) : (leavesF x p).length ≤ nodesV x * 2 ^ p.length := by
  have h1 : ∀ l : List Val, (l.flatMap fun y => y :: kids6 y).length ≤ nodesL l := by
    intro l
    induction l with
    | nil => simp
    | cons y l ih =>
      simp only [List.flatMap_cons, List.length_append, nodesL, List.length_cons]
      have h2 : (kids6 y).length + 1 ≤ nodesV y := by
        have := nodesV_eq y
        have := nodesL_len y.l
        unfold kids6
        split
        · omega
        · simp; omega
      omega
  unfold leavesF
  refine Nat.le_trans (h1 _) ?_
  unfold reachF
  split
  · have hpos : 1 ≤ nodesV x * 2 ^ p.length := Nat.mul_pos (by have := nodesV_eq x; omega) Nat.one_le_two_pow
    simp only [nodesL, nullV, nodesV, nodesD]; omega
  · exact (pass_nodes x p).1

theorem leaves_small {x : Val} {p : List ByteArray} (hn : nodesV x ≤ 1048576) (hp : p.length ≤ 16) : (leavesF x p).length * 80 ≤ LIM := by
  have h1 := leaves_nodes x p
  have h2 : nodesV x * 2 ^ p.length ≤ 1048576 * 2 ^ 16 := Nat.mul_le_mul hn (Nat.pow_le_pow_right (by omega) hp)
  rw [LIM_eq]; omega
end Go.Fw

set_option linter.unusedVariables false
set_option linter.unusedSimpArgs false
set_option maxRecDepth 10000
set_option maxHeartbeats 2000000
namespace Go.Fw
open Go
attribute [local irreducible] SWp SQ SSeq SSt Quiet Next Meet
attribute [local irreducible] MeetX ForkQ STr

theorem c22 (w : World) : Calls Go.Proofs.Tryz.prog 22 #[] w fun e w2 => ∃ v, e = .returned v ∧ Kp No w w2 ∧ v = .bool true := by
  refine calls_intro (args := []) w.heap.size Go.Proofs.Tryz.func22 rfl Go.Proofs.Tryz.ntmps22 (by simp) (Nat.le_refl _) ?_
  (repeat' (first | refine Gk ?_ | refine sst_box rfl rfl rfl rfl rfl (fun b hb hlt => ?_) | refine sst_alloc tb_ok rfl rfl rfl EV (fun b hb hlt => ?_)))
  refine sst_call tb_ok rfl rfl rfl rfl rfl EV AP (fun v _ _ => v = .agg #[.int .i64 3, .int .i64 0, .string ⟨#[]⟩, .slice none 0 0, .slice none 0 0]) ?_ ?_
  · exact fun w1 h1 => c68 0 (by simp [inI]) w1
  rintro r w1 w2 h1 hk2 rfl
  (repeat' (first | refine Gk ?_ | refine sst_box rfl rfl rfl rfl rfl (fun b hb hlt => ?_) | refine sst_alloc tb_ok rfl rfl rfl EV (fun b hb hlt => ?_)))
  refine sst_call tb_ok rfl rfl rfl rfl rfl EV AP (fun v _ _ => v = .agg #[.int .i64 3, .int .i64 9, .string ⟨#[]⟩, .slice none 0 0, .slice none 0 0]) ?_ ?_
  · exact fun w1 h1 => c68 9 (by simp [inI]) w1
  rintro r w3 w4 h3 hk4 rfl
  have hk4 : Kp No w w4 := ((h1.kp.then hk2).then h3.kp).then hk4
  (repeat' (first | refine Gk ?_ | refine sst_box rfl rfl rfl rfl rfl (fun b hb hlt => ?_) | refine sst_alloc tb_ok rfl rfl rfl EV (fun b hb hlt => ?_)))
  refine sst_buildSlice tb_ok rfl rfl rfl EV EV (by rfl) EV (by rfl) (by omega) (by simp) (fun g1 hg1 hgl1 => ?_)
  (repeat' (first | refine Gk ?_ | refine sst_box rfl rfl rfl rfl rfl (fun b hb hlt => ?_) | refine sst_alloc tb_ok rfl rfl rfl EV (fun b hb hlt => ?_)))
  refine sst_call tb_ok rfl rfl rfl rfl rfl EV AP (fun v _ _ => v = .agg #[.int .i64 6, .int .i64 0, .string ⟨#[]⟩, .slice (some ⟨g1, 0, none⟩) 2 2, .slice none 0 0]) ?_ ?_
  · exact fun w1 h1 => c26 _ _ _ w1
  rintro r w5 w6 h5 hk6 rfl
  (repeat' (first | refine Gk ?_ | refine sst_box rfl rfl rfl rfl rfl (fun b hb hlt => ?_) | refine sst_alloc tb_ok rfl rfl rfl EV (fun b hb hlt => ?_)))
  refine sst_buildSlice tb_ok rfl rfl rfl EV EV (by rfl) EV (by rfl) (by omega) (by simp) (fun g2 hg2 hgl2 => ?_)
  (repeat' (first | refine Gk ?_ | refine sst_box rfl rfl rfl rfl rfl (fun b hb hlt => ?_) | refine sst_alloc tb_ok rfl rfl rfl EV (fun b hb hlt => ?_)))
  refine sst_buildSlice tb_ok rfl rfl rfl EV EV (by rfl) EV (by rfl) (by omega) (by simp) (fun g3 hg3 hgl3 => ?_)
  (repeat' (first | refine Gk ?_ | refine sst_box rfl rfl rfl rfl rfl (fun b hb hlt => ?_) | refine sst_alloc tb_ok rfl rfl rfl EV (fun b hb hlt => ?_)))
  refine sst_call tb_ok rfl rfl rfl rfl rfl EV AP (fun v _ _ => v = .agg #[.int .i64 3, .int .i64 9, .string ⟨#[]⟩, .slice none 0 0, .slice none 0 0]) ?_ ?_
  · exact fun w1 h1 => c68 9 (by simp [inI]) w1
  rintro r w7 w8 h7 hk8 rfl
  (repeat' (first | refine Gk ?_ | refine sst_box rfl rfl rfl rfl rfl (fun b hb hlt => ?_) | refine sst_alloc tb_ok rfl rfl rfl EV (fun b hb hlt => ?_)))
  refine sst_buildSlice tb_ok rfl rfl rfl EV EV (by rfl) EV (by rfl) (by omega) (by simp) (fun g4 hg4 hgl4 => ?_)
  (repeat' (first | refine Gk ?_ | refine sst_box rfl rfl rfl rfl rfl (fun b hb hlt => ?_) | refine sst_alloc tb_ok rfl rfl rfl EV (fun b hb hlt => ?_)))
  refine sst_call tb_ok rfl rfl rfl rfl rfl EV AP (fun v _ _ => v = .agg #[.int .i64 3, .int .i64 9, .string ⟨#[]⟩, .slice none 0 0, .slice none 0 0]) ?_ ?_
  · exact fun w1 h1 => c68 9 (by simp [inI]) w1
  rintro r w9 w10 h9 hk10 rfl
  (repeat' (first | refine Gk ?_ | refine sst_box rfl rfl rfl rfl rfl (fun b hb hlt => ?_) | refine sst_alloc tb_ok rfl rfl rfl EV (fun b hb hlt => ?_)))
  have hlim : (leavesF awkV [bA]).length * 80 ≤ LIM := by
    unfold awkV
    rw [leaves_one, LIM_eq]; decide
  have hbA : bA.size ≤ LIM := by rw [LIM_eq]; decide
  refine sst_call tb_ok rfl rfl rfl rfl rfl EV AP (fun v _ _ => v = .bool true) ?_ ?_
  · intro w11 h11
    have := c23 awkV (fun _ => false) 2 [bA] (intV 9) [] 0 (fun _ => True) (fun _ => True) w11 _ _ (pred_rep (path_rep hbA (h11.row _ (List.mem_cons_of_mem _ (List.mem_cons_of_mem _ List.mem_cons_self)))) (intV_rep _ _ 9 (by simp [inI]))) (awk_rep (h11.row _ List.mem_cons_self) (h11.row _ (List.mem_cons_of_mem _ List.mem_cons_self))) hlim (by unfold opOK; omega) (fun h => absurd h (by omega))
    have e : (awkV.k == 5 && onP (fun _ => false) 2 [bA] (intV 9) [] 0 awkV) = true := by
      have := onP_eq (fun _ => false) [0, 9] 9
      simp only [List.map_cons, List.map_nil] at this
      unfold awkV
      rw [this]; rfl
    rw [e] at this
    exact this
  rintro r w11 w12 h11 hk12 rfl
  (repeat' (first | refine Gk ?_ | refine sst_box rfl rfl rfl rfl rfl (fun b hb hlt => ?_) | refine sst_alloc tb_ok rfl rfl rfl EV (fun b hb hlt => ?_)))
  refine sst_call tb_ok rfl rfl rfl rfl rfl EV AP (fun v _ _ => v = .bool false) ?_ ?_
  · intro w13 h13
    have := c23 awkV (fun _ => false) 3 [bA] (intV 9) [] 0 (fun _ => True) (fun _ => True) w13 _ _ (pred_rep (path_rep hbA (h13.row _ (List.mem_cons_of_mem _ (List.mem_cons_of_mem _ (List.mem_cons_of_mem _ List.mem_cons_self))))) (intV_rep _ _ 9 (by simp [inI]))) (awk_rep (h13.row _ List.mem_cons_self) (h13.row _ (List.mem_cons_of_mem _ List.mem_cons_self))) hlim (by unfold opOK; omega) (fun h => absurd h (by omega))
    have e : (awkV.k == 5 && onP (fun _ => false) 3 [bA] (intV 9) [] 0 awkV) = false := by
      have := onP_ne (fun _ => false) [0, 9] 9
      simp only [List.map_cons, List.map_nil] at this
      unfold awkV
      rw [this]; rfl
    rw [e] at this
    exact this
  rintro r w13 w14 h13 hk14 rfl
  (repeat' (first | refine Gk ?_ | refine sst_box rfl rfl rfl rfl rfl (fun b hb hlt => ?_) | refine sst_alloc tb_ok rfl rfl rfl EV (fun b hb hlt => ?_)))
  refine sst_call tb_ok rfl rfl rfl rfl rfl EV AP (fun v _ _ => v = .agg #[.int .i64 3, .int .i64 2, .string ⟨#[]⟩, .slice none 0 0, .slice none 0 0]) ?_ ?_
  · exact fun w1 h1 => c68 2 (by simp [inI]) w1
  rintro r w15 w16 h15 hk16 rfl
  (repeat' (first | refine Gk ?_ | refine sst_box rfl rfl rfl rfl rfl (fun b hb hlt => ?_) | refine sst_alloc tb_ok rfl rfl rfl EV (fun b hb hlt => ?_)))
  refine sst_call tb_ok rfl rfl rfl rfl rfl EV AP (fun v _ _ => v = .agg #[.int .i64 3, .int .i64 3, .string ⟨#[]⟩, .slice none 0 0, .slice none 0 0]) ?_ ?_
  · exact fun w1 h1 => c68 3 (by simp [inI]) w1
  rintro r w17 w18 h17 hk18 rfl
  (repeat' (first | refine Gk ?_ | refine sst_box rfl rfl rfl rfl rfl (fun b hb hlt => ?_) | refine sst_alloc tb_ok rfl rfl rfl EV (fun b hb hlt => ?_)))
  refine sst_call tb_ok rfl rfl rfl rfl rfl EV AP (fun v _ _ => v = .bool true) ?_ ?_
  · intro w19 h19
    have := c69 (intV 3) (fun _ => false) 4 [] (intV 2) [] 0 (fun _ => True) (fun _ => True) w19 _ _ (pred_rep (A := none) (m := 0) (c := 0) ⟨rfl, by omega, by omega, .inl rfl, by simp⟩ (intV_rep _ _ 2 (by simp [inI]))) (intV_rep _ _ 3 (by simp [inI])) (by rw [leaves_nil, LIM_eq]; decide) (by unfold opOK; omega) (fun h => absurd h (by omega))
    rw [onP_gt] at this
    exact this
  rintro r w19 w20 h19 hk20 rfl
  (repeat' (first | refine Gk ?_ | refine sst_box rfl rfl rfl rfl rfl (fun b hb hlt => ?_) | refine sst_alloc tb_ok rfl rfl rfl EV (fun b hb hlt => ?_)))
  refine sst_buildSlice tb_ok rfl rfl rfl EV EV (by rfl) EV (by rfl) (by omega) (by simp) (fun g5 hg5 hgl5 => ?_)
  (repeat' (first | refine Gk ?_ | refine sst_box rfl rfl rfl rfl rfl (fun b hb hlt => ?_) | refine sst_alloc tb_ok rfl rfl rfl EV (fun b hb hlt => ?_)))
  refine sst_call tb_ok rfl rfl rfl rfl rfl EV AP (fun v _ _ => v = .int .i64 1) ?_ ?_
  · intro w21 h21
    have e0 := onP_eq (fun _ => false) [0] 9
    have e9 := onP_eq (fun _ => false) [9] 9
    have e2 := onP_eq (fun _ => false) [0, 9] 9
    simp only [List.map_cons, List.map_nil] at e0 e9 e2
    have hr : (if onP (fun _ => false) 2 [bA] (intV 9) [] 0 (oneD bA (listV [intV 0, intV 9])) then optI ([intV 0, intV 9].findIdx? fun z => onP (fun _ => false) 2 [bA] (intV 9) [] 0 (oneD bA (listV [z]))) else -1) = 1 := by
      unfold listV
      rw [e2]
      simp only [List.findIdx?_cons, e0, e9]
      rfl
    have hpb : pathB [bA] = true := by decide
    have hlim2 : ∀ z ∈ [intV 0, intV 9], (leavesF (oneD bA (listV [z])) [bA]).length * 80 ≤ LIM := by
      intro z _
      unfold listV
      rw [leaves_one, LIM_eq]; simp
    have := c27 bA [intV 0, intV 9] (fun _ => false) 2 [bA] (intV 9) [] 0 (fun _ => True) (fun _ => True) (fun _ => True) w21 _ _ g5 0 1 (pred_rep (path_rep hbA (h21.row _ (List.mem_cons_of_mem _ (List.mem_cons_of_mem _ List.mem_cons_self)))) (intV_rep _ _ 9 (by simp [inI]))) (awk_rep (h21.row _ List.mem_cons_self) (h21.row _ (List.mem_cons_of_mem _ List.mem_cons_self)))
      (path_rep hbA (h21.row _ (List.mem_cons_of_mem _ (List.mem_cons_of_mem _ (List.mem_cons_of_mem _ (List.mem_cons_of_mem _ List.mem_cons_self)))))) hpb hlim hlim2 (by unfold opOK; omega) (fun h => absurd h (by omega))
    rw [hr] at this
    exact this
  rintro r w21 w22 h21 hk22 rfl
  have hkk : Kp No w w22 := (((((((((hk4.then h5.kp).then hk6).then h7.kp).then hk8).then h9.kp).then hk10).then h11.kp).then hk12).then (h13.kp.then hk14)).then ((((((h15.kp.then hk16).then h17.kp).then hk18).then h19.kp).then hk20).then (h21.kp.then hk22))
  (repeat' (first | refine Gk ?_ | refine sst_box rfl rfl rfl rfl rfl (fun b hb hlt => ?_) | refine sst_alloc tb_ok rfl rfl rfl EV (fun b hb hlt => ?_)))
  refine sq_ret tb_ok rfl EV (fun w' hk hr => ?_)
  exact ⟨_, rfl, hkk.then hk, rfl⟩
end Go.Fw
