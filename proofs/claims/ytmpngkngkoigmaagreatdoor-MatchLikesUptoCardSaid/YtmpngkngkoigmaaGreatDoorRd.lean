/- Helping lemmas for the cards of this seat's laws, of the texts: V8, V12, V15. They state no law of their own. -/
import Derived.Test.YtmpngkngkoigmaaGreatDoorPos
import Derived.OpenShut
import Derived.RowKit
import Derived.ProofKit
import Derived.JoinedCond
set_option linter.unusedVariables false
set_option linter.unusedSimpArgs false
namespace Go.Fw
open Go
theorem RepB.tr {S : Nat → Prop} {w : World} {A : Option Addr} {n c : Nat} {l : List ByteArray} (h : RepB S w A n c l) : RepB (fun _ => True) w A n c l :=
  h.to (Kp.refl No w) fun b _ _ => ⟨id, trivial⟩
def zero5 : List Value := [.int .i64 0, .int .i64 0, .string ⟨#[]⟩, .slice none 0 0, .slice none 0 0]
/-- A predicate on a path that has Arg. -/
theorem pred_arg {S S' : Nat → Prop} {w : World} {op : Int} {p : List ByteArray} {a : Val} {A : Option Addr} {m c : Nat} {ca : List Value} (hp : RepB S w A m c p) (ha : RepV S' w a ca) :
    PL (fun _ => True) w op p a [] 0 (.int .i64 op :: .slice A m c :: (ca ++ (.slice none 0 0 :: .int .i64 0 :: z16))) :=
  pred_rep hp.tr ha.tr
/-- A predicate on a path that has Args, or N. -/
theorem pred_args {S S' : Nat → Prop} {w : World} {op n : Int} {p : List ByteArray} {al : List Val} {A A2 : Option Addr} {m c m2 c2 : Nat} (hp : RepB S w A m c p) (ha : RepS S' w A2 m2 c2 al) :
    PL (fun _ => True) w op p nullV al n (.int .i64 op :: .slice A m c :: (zero5 ++ (.slice A2 m2 c2 :: .int .i64 n :: z16))) :=
  ⟨_, _, _, _, _, _, _, _, rfl, hp.tr, nullV_rep _ _, ha.tr, z16_mid⟩
theorem path16 {p : List ByteArray} (h : pathB p = true) : p.length ≤ 16 := by
  simp only [pathB, Bool.and_eq_true, decide_eq_true_eq] at h
  exact h.1.2
theorem leaves_doc {d : Val} {p : List ByteArray} (hn : nodesV d ≤ 1048576) (hp : pathB p = true) : (leavesF (.mk 5 d.n d.t d.l d.d) p).length * 80 ≤ LIM :=
  leaves_small (by obtain ⟨k, n, t, l, d⟩ := d; simp only [nodesV, Val.l, Val.d] at hn ⊢; exact hn) (path16 hp)
end Go.Fw

set_option linter.unusedVariables false
set_option linter.unusedSimpArgs false
namespace Go.Fw
open Go
/-- A measure of what is read. -/
structure BulkF {H : Type} (f : DataW H → Nat) : Prop where
  pos : ∀ d, 1 ≤ f d
  str : ∀ s, f (.lit (.string s)) = s.length + 1
  slice : ∀ es sp, (es.map f).sum + 1 ≤ f (.slice es sp)
  agg : ∀ l, (l.map f).sum + 1 ≤ f (.agg l)

theorem BulkF.len {H : Type} {f : DataW H → Nat} (hf : BulkF f) : ∀ l : List (DataW H), l.length ≤ (l.map f).sum
  | [] => by simp
  | d :: l => by have := hf.pos d; have := hf.len l; simp only [List.map_cons, List.sum_cons, List.length_cons]; omega
theorem BulkF.mem {H : Type} {f : DataW H → Nat} (hf : BulkF f) {d : DataW H} : ∀ {l : List (DataW H)}, d ∈ l → f d ≤ (l.map f).sum
  | e :: l, h => by
    simp only [List.map_cons, List.sum_cons]
    rcases List.mem_cons.1 h with rfl | h
    · omega
    · have := hf.mem h; omega

theorem build_vals {α : Type} (g : α → Nat) : ∀ (es : List α) (R : Nat → Val → Prop), (∀ (i : Nat) e, es[i]? = some e → ∃ v, R i v ∧ nodesV v ≤ g e) →
    ∃ l : List Val, l.length = es.length ∧ (∀ (i : Nat) v, l[i]? = some v → R i v) ∧ nodesL l ≤ (es.map g).sum
  | [], R, h => ⟨[], rfl, by simp, by simp [nodesL]⟩
  | e :: es, R, h => by
    obtain ⟨v, hv, hn⟩ := h 0 e rfl
    obtain ⟨l, h1, h2, h3⟩ := build_vals g es (fun i => R (i + 1)) (fun i e he => h (i + 1) e (by simpa using he))
    refine ⟨v :: l, by simp [h1], ?_, by simp only [nodesL, List.map_cons, List.sum_cons]; omega⟩
    intro i u hu
    cases i with
    | zero => simp at hu; subst hu; exact hv
    | succ i => exact h2 i u (by simpa using hu)
theorem build_flds {α : Type} (g : α → Nat) : ∀ (es : List α) (R : Nat → ByteArray × Val → Prop), (∀ (i : Nat) e, es[i]? = some e → ∃ v, R i v ∧ nodesV v.2 ≤ g e) →
    ∃ l : List (ByteArray × Val), l.length = es.length ∧ (∀ (i : Nat) v, l[i]? = some v → R i v) ∧ nodesD l ≤ (es.map g).sum
  | [], R, h => ⟨[], rfl, by simp, by simp [nodesD]⟩
  | e :: es, R, h => by
    obtain ⟨v, hv, hn⟩ := h 0 e rfl
    obtain ⟨l, h1, h2, h3⟩ := build_flds g es (fun i => R (i + 1)) (fun i e he => h (i + 1) e (by simpa using he))
    refine ⟨v :: l, by simp [h1], ?_, by simp only [nodesD, List.map_cons, List.sum_cons]; omega⟩
    intro i u hu
    cases i with
    | zero => simp at hu; subst hu; exact hv
    | succ i => exact h2 i u (by simpa using hu)

theorem len5 {α : Type} {l : List α} (h : l.length = 5) : ∃ a b c d e, l = [a, b, c, d, e] := by
  match l, h with
  | [a, b, c, d, e], _ => exact ⟨_, _, _, _, _, rfl⟩
theorem len2 {α : Type} {l : List α} (h : l.length = 2) : ∃ a b, l = [a, b] := by
  match l, h with
  | [a, b], _ => exact ⟨_, _, rfl⟩
theorem len6 {α : Type} {l : List α} (h : l.length = 6) : ∃ a r, l = a :: r ∧ r.length = 5 := by
  match l, h with
  | a :: r, h => exact ⟨_, _, rfl, by simpa using h⟩
theorem cells_plain {w : World} {base : Nat} {a : Addr} {n : Nat} {cs : List Value} (h : w.cells? base (a.add 0) n = some cs) (hn : 0 < n) : ∃ b off, a = ⟨b, off, none⟩ := by
  obtain ⟨hb, hl, hi⟩ := World.cells?_some h
  have h0 := hi 0 hn
  rw [List.getElem?_eq_getElem (by omega)] at h0
  have := World.cell?_spot h0
  have e : (a.add 0).add 0 = a := by simp [Addr.add]
  rw [e] at this
  obtain ⟨b, off, spot⟩ := a
  subst this
  exact ⟨b, off, rfl⟩
theorem cells_row {w : World} {base b off k n : Nat} {cs : List Value} (h : w.cells? base ((⟨b, off, none⟩ : Addr).add k) n = some cs) : RowAt w b (off + k) cs ∧ cs.length = n := by
  obtain ⟨hb, hl, hi⟩ := World.cells?_some h
  refine ⟨fun j v hj => ?_, hl⟩
  have hjl := (List.getElem?_eq_some_iff.1 hj).1
  have := hi j (by omega)
  rw [add_mk, add_mk] at this
  rw [this]; exact hj

section
variable {H : Type} {enc : TypeId × Value → H} {w : World} {spare : Nat → Bool} {held : Bool} {f : DataW H → Nat}
open Go.Proofs in
theorem cells26 : Tryz.prog.cellsOf 26 = 5 := by kernel_rfl
open Go.Proofs in
theorem cells114 : Tryz.prog.cellsOf 114 = 6 := by kernel_rfl
open Go.Proofs in
theorem cells3 : Tryz.prog.cellsOf 3 = 1 := by kernel_rfl
open Go.Proofs in
theorem cells9 : Tryz.prog.cellsOf 9 = 1 := by kernel_rfl
open Go.Proofs in
theorem cells22 : Tryz.prog.cellsOf 22 = 1 := by kernel_rfl
open Go.Proofs in
theorem cells23 : Tryz.prog.cellsOf 23 = 1 := by kernel_rfl
open Go.Proofs in
theorem cells24 : Tryz.prog.cellsOf 24 = 1 := by kernel_rfl

theorem inI_of_wf {n : Int} (h : (Lit.int .i64 n).wf = true) : inI n := bounds_i64 h

open Go.Proofs in
/-- A value that is read as data lies in memory as a Val. -/
theorem repV_of_trod (hf : BulkF f) (B : Nat) (hB : B * 128 ≤ LIM) : ∀ (fuel : Nat) (cs : List Value) (x : DataW H × List MemPlace), DataW.trod enc Tryz.prog w 0 spare held fuel 26 cs = some x → f x.1 ≤ B →
    ∃ v : Val, RepV (fun _ => True) w v cs ∧ nodesV v ≤ f x.1 := by
  intro fuel
  induction fuel using Nat.strongRecOn with
  | ind fuel ih =>
  intro cs x h hb
  obtain ⟨xs, n, rfl, rfl, hlen, hxl, hfld⟩ := DataW.trod_struct Tryz.underlying26 h
  rw [cells26] at hlen
  have hxl : xs.length = 5 := hxl
  obtain ⟨c0, c1, c2, c3, c4, rfl⟩ := len5 hlen
  obtain ⟨x0, x1, x2, x3, x4, rfl⟩ := len5 hxl
  have f0 := hfld 0 { name := "Kind", type := 3, offset := 0, embedded := false, tag := "", pkgPath := "", byteOffset := 0 } rfl
  have f1 := hfld 1 { name := "Int", type := 3, offset := 1, embedded := false, tag := "", pkgPath := "", byteOffset := 8 } rfl
  have f2 := hfld 2 { name := "Text", type := 9, offset := 2, embedded := false, tag := "", pkgPath := "", byteOffset := 16 } rfl
  have f3 := hfld 3 { name := "List", type := 23, offset := 3, embedded := false, tag := "", pkgPath := "", byteOffset := 32 } rfl
  have f4 := hfld 4 { name := "Doc", type := 24, offset := 4, embedded := false, tag := "", pkgPath := "", byteOffset := 56 } rfl
  simp only [cells3, cells9, cells23, cells24, List.drop_zero, List.drop_succ_cons, List.take_succ_cons, List.take_zero, List.getElem?_cons_zero, List.getElem?_cons_succ] at f0 f1 f2 f3 f4
  clear hfld hxl hlen
  have hsum := hf.agg ([x0, x1, x2, x3, x4].map (·.1))
  simp only [List.map_cons, List.map_nil, List.sum_cons, List.sum_nil] at hsum hb
  rw [LIM_eq] at hB
  obtain ⟨x0, p0⟩ := x0
  obtain ⟨x1, p1⟩ := x1
  obtain ⟨x2, p2⟩ := x2
  obtain ⟨x3, p3⟩ := x3
  obtain ⟨x4, p4⟩ := x4
  dsimp only at hsum hb
  obtain ⟨k, hk, hk2, hkw⟩ := DataW.trod_int Tryz.underlying3 f0
  obtain ⟨i, hi, hi2, hiw⟩ := DataW.trod_int Tryz.underlying3 f1
  obtain ⟨s, hs, hs2, hsw⟩ := DataW.trod_string Tryz.underlying9 f2
  obtain rfl : c0 = .int .i64 k := by injection hk
  obtain rfl : c1 = .int .i64 i := by injection hi
  obtain rfl : c2 = .string s := by injection hs
  have hslen : s.size ≤ B := by
    have h1 := hf.str s.data.toList
    have hl : s.size = s.data.toList.length := (Array.length_toList).symm
    have h2 : x2 = .lit (.string s.data.toList) := congrArg Prod.fst hs2
    rw [← h2] at h1
    omega
  -- the list
  have hL : ∃ (l : List Val) (A : Option Addr) (c : Nat), c3 = .slice A l.length c ∧ RepS (fun _ => True) w A l.length c l ∧ nodesL l ≤ f x3 := by
    rcases DataW.trod_slice Tryz.underlying23 f3 with ⟨h1, h2⟩ | ⟨a, len, cap, elems, rest, m, rfl, h1, h2, h3, h4, h5, h6, h7, _⟩
    · exact ⟨[], none, 0, by injection h1, RepS.nil _ _ _ _, by simp [nodesL]⟩
    · rw [cells26] at h7
      have hsl := hf.slice (elems.map (·.1)) (rest.map (·.1))
      have e3 : x3 = .slice (elems.map (·.1)) (rest.map (·.1)) := congrArg Prod.fst h2
      rw [← e3] at hsl
      obtain ⟨l, l1, l2, l3⟩ := build_vals (fun e : DataW H × List MemPlace => f e.1) elems (fun i v => ∃ cs, w.cells? 0 (a.add (i * 5)) 5 = some cs ∧ RepV (fun _ => True) w v cs) (by
        intro i e he
        have hil : i < len := by rw [← h6]; exact (List.getElem?_eq_some_iff.1 he).1
        have h8 := h7 i hil
        rw [he] at h8
        obtain ⟨cs, hc1, hc2⟩ := Option.bind_eq_some_iff.1 h8
        have hle : f e.1 ≤ ((elems.map (·.1)).map f).sum := hf.mem (List.mem_map.2 ⟨e, List.mem_of_getElem? he, rfl⟩)
        obtain ⟨v, hv1, hv2⟩ := ih m (by omega) cs e hc2 (by omega)
        exact ⟨v, ⟨cs, hc1, hv1⟩, hv2⟩)
      have hll : l.length = len := by rw [l1, h6]
      have hnl := nodesL_len l
      have hsm : (elems.map (fun e : DataW H × List MemPlace => f e.1)).sum = ((elems.map (·.1)).map f).sum := by rw [List.map_map]; rfl
      rw [hsm] at l3
      refine ⟨l, some a, cap, by rw [hll]; injection h1, ⟨rfl, by rw [LIM_eq]; omega, by omega, fun i => (w.cells? 0 (a.add (i * 5)) 5).getD [], ?_, ?_⟩, by omega⟩
      · by_cases h0 : l.length = 0
        · exact .inl h0
        · obtain ⟨v0, hv0⟩ : ∃ v, l[0]? = some v := ⟨_, List.getElem?_eq_getElem (by omega)⟩
          obtain ⟨cs0, hc0, _⟩ := l2 0 v0 hv0
          rw [Nat.zero_mul] at hc0
          obtain ⟨b, off, rfl⟩ := cells_plain hc0 (by omega)
          refine .inr ⟨b, off, rfl, trivial, fun i hi => ?_⟩
          obtain ⟨v, hv⟩ : ∃ v, l[i]? = some v := ⟨_, List.getElem?_eq_getElem hi⟩
          obtain ⟨cs, hc, _⟩ := l2 i v hv
          obtain ⟨hr, hl5⟩ := cells_row hc
          simp only [hc, Option.getD_some]
          exact ⟨hl5, hr⟩
      · intro i v hv
        obtain ⟨cs, hc, hr⟩ := l2 i v hv
        simp only [hc, Option.getD_some]
        exact hr
  have hD : ∃ (d : List (ByteArray × Val)) (A : Option Addr) (c : Nat), c4 = .slice A d.length c ∧ RepD (fun _ => True) w A d.length c d ∧ nodesD d ≤ f x4 := by
    rcases DataW.trod_slice Tryz.underlying24 f4 with ⟨h1, h2⟩ | ⟨a, len, cap, elems, rest, m, rfl, h1, h2, h3, h4, h5, h6, h7, _⟩
    · exact ⟨[], none, 0, by injection h1, RepD.nil _ _ _ _, by simp [nodesD]⟩
    · rw [cells114] at h7
      have hsl := hf.slice (elems.map (·.1)) (rest.map (·.1))
      have e3 : x4 = .slice (elems.map (·.1)) (rest.map (·.1)) := congrArg Prod.fst h2
      rw [← e3] at hsl
      obtain ⟨l, l1, l2, l3⟩ := build_flds (fun e : DataW H × List MemPlace => f e.1) elems (fun i v => ∃ cs, w.cells? 0 (a.add (i * 6)) 6 = some (.string v.1 :: cs) ∧ v.1.size ≤ LIM ∧ RepV (fun _ => True) w v.2 cs) (by
        intro i e he
        have hil : i < len := by rw [← h6]; exact (List.getElem?_eq_some_iff.1 he).1
        have h8 := h7 i hil
        rw [he] at h8
        obtain ⟨cs, hc1, hc2⟩ := Option.bind_eq_some_iff.1 h8
        have hle : f e.1 ≤ ((elems.map (·.1)).map f).sum := hf.mem (List.mem_map.2 ⟨e, List.mem_of_getElem? he, rfl⟩)
        obtain ⟨ys, q, rfl, rfl, hyl, hyn, hyf⟩ := DataW.trod_struct Tryz.underlying114 hc2
        rw [cells114] at hyl
        have hyn : ys.length = 2 := hyn
        obtain ⟨d0, ds, rfl, hds⟩ := len6 hyl
        obtain ⟨y0, y1, rfl⟩ := len2 hyn
        have g0 := hyf 0 { name := "Name", type := 9, offset := 0, embedded := false, tag := "", pkgPath := "", byteOffset := 0 } rfl
        have g1 := hyf 1 { name := "Value", type := 26, offset := 1, embedded := false, tag := "", pkgPath := "", byteOffset := 16 } rfl
        simp only [cells9, cells26, List.drop_zero, List.drop_succ_cons, List.take_succ_cons, List.take_zero, List.getElem?_cons_zero, List.getElem?_cons_succ] at g0 g1
        rw [List.take_of_length_le (by omega)] at g1
        obtain ⟨nm, hnm, hnm2, hnw⟩ := DataW.trod_string Tryz.underlying9 g0
        obtain rfl : d0 = .string nm := by injection hnm
        have ha := hf.agg ([y0, y1].map (·.1))
        have hst := hf.str nm.data.toList
        have hl : nm.size = nm.data.toList.length := (Array.length_toList).symm
        have e4 : y0.1 = .lit (.string nm.data.toList) := congrArg Prod.fst hnm2
        rw [← e4] at hst
        simp only [List.map_cons, List.map_nil, List.sum_cons, List.sum_nil] at ha hle
        obtain ⟨v, hv1, hv2⟩ := ih q (by omega) ds y1 g1 (by omega)
        exact ⟨(nm, v), ⟨ds, hc1, by rw [LIM_eq]; simp only; omega, hv1⟩, by simp only [List.map_cons, List.map_nil]; omega⟩)
      have hll : l.length = len := by rw [l1, h6]
      have hnl := nodesD_len l
      have hsm : (elems.map (fun e : DataW H × List MemPlace => f e.1)).sum = ((elems.map (·.1)).map f).sum := by rw [List.map_map]; rfl
      rw [hsm] at l3
      refine ⟨l, some a, cap, by rw [hll]; injection h1, ⟨rfl, by rw [LIM_eq]; omega, by omega, fun i => (w.cells? 0 (a.add (i * 6)) 6).getD [], fun i => ((w.cells? 0 (a.add (i * 6)) 6).getD []).tail, ?_, ?_, ?_⟩, by omega⟩
      · by_cases h0 : l.length = 0
        · exact .inl h0
        · obtain ⟨v0, hv0⟩ : ∃ v, l[0]? = some v := ⟨_, List.getElem?_eq_getElem (by omega)⟩
          obtain ⟨cs0, hc0, _⟩ := l2 0 v0 hv0
          rw [Nat.zero_mul] at hc0
          obtain ⟨b, off, rfl⟩ := cells_plain hc0 (by omega)
          refine .inr ⟨b, off, rfl, trivial, fun i hi => ?_⟩
          obtain ⟨v, hv⟩ : ∃ v, l[i]? = some v := ⟨_, List.getElem?_eq_getElem hi⟩
          obtain ⟨cs, hc, _⟩ := l2 i v hv
          obtain ⟨hr, hl5⟩ := cells_row hc
          simp only [hc, Option.getD_some]
          exact ⟨hl5, hr⟩
      · intro i v hv
        obtain ⟨cs, hc, hs, hr⟩ := l2 i v hv
        simp only [hc, Option.getD_some, List.tail_cons]
        exact ⟨trivial, hs⟩
      · intro i v hv
        obtain ⟨cs, hc, hs, hr⟩ := l2 i v hv
        simp only [hc, Option.getD_some, List.tail_cons]
        exact hr
  obtain ⟨l, A, c, rfl, hl1, hl2⟩ := hL
  obtain ⟨d, A', c', rfl, hd1, hd2⟩ := hD
  refine ⟨.mk k i s l d, RepV.of (inI_of_wf hkw) (inI_of_wf hiw) (by rw [LIM_eq]; omega) hl1 hd1, ?_⟩
  simp only [nodesV]
  show 1 + nodesL l + nodesD d ≤ f (DataW.agg [x0, x1, x2, x3, x4])
  omega

open Go.Proofs in
/-- A path that is read as data. -/
theorem repB_of_trod (hf : BulkF f) (B : Nat) (hB : B * 128 ≤ LIM) (fuel : Nat) (cs : List Value) (x : DataW H × List MemPlace) (h : DataW.trod enc Tryz.prog w 0 spare held fuel 22 cs = some x) (hb : f x.1 ≤ B) :
    ∃ (p : List ByteArray) (A : Option Addr) (m c : Nat), cs = [.slice A m c] ∧ RepB (fun _ => True) w A m c p := by
  rw [LIM_eq] at hB
  rcases DataW.trod_slice Tryz.underlying22 h with ⟨h1, h2⟩ | ⟨a, len, cap, elems, rest, m, rfl, h1, h2, h3, h4, h5, h6, h7, _⟩
  · exact ⟨[], none, 0, 0, h1, rfl, by omega, by omega, .inl rfl, by simp⟩
  · rw [cells9] at h7
    have hsl := hf.slice (elems.map (·.1)) (rest.map (·.1))
    have e3 : x.1 = .slice (elems.map (·.1)) (rest.map (·.1)) := congrArg Prod.fst h2
    rw [← e3] at hsl
    have key : ∀ (i : Nat) e, elems[i]? = some e → ∃ s : ByteArray, w.cells? 0 (a.add i) 1 = some [.string s] ∧ s.size ≤ LIM := by
      intro i e he
      have hil : i < len := by rw [← h6]; exact (List.getElem?_eq_some_iff.1 he).1
      have h8 := h7 i hil
      rw [he, Nat.mul_one] at h8
      obtain ⟨cs, hc1, hc2⟩ := Option.bind_eq_some_iff.1 h8
      obtain ⟨nm, hnm, rfl, hnw⟩ := DataW.trod_string Tryz.underlying9 hc2
      subst hnm
      have hle : f (DataW.lit (.string nm.data.toList)) ≤ ((elems.map (·.1)).map f).sum := hf.mem (List.mem_map.2 ⟨_, List.mem_of_getElem? he, rfl⟩)
      have hst := hf.str nm.data.toList
      have hl : nm.size = nm.data.toList.length := (Array.length_toList).symm
      exact ⟨nm, hc1, by rw [LIM_eq]; omega⟩
    have build : ∀ (es : List (DataW H × List MemPlace)) (R : Nat → ByteArray → Prop), (∀ (i : Nat) e, es[i]? = some e → ∃ s, R i s) → ∃ l : List ByteArray, l.length = es.length ∧ ∀ (i : Nat) s, l[i]? = some s → R i s := by
      intro es
      induction es with
      | nil => intro R _; exact ⟨[], rfl, by simp⟩
      | cons e es ihh =>
        intro R hR
        obtain ⟨s, hs⟩ := hR 0 e rfl
        obtain ⟨l, h1, h2⟩ := ihh (fun i => R (i + 1)) (fun i e he => hR (i + 1) e (by simpa using he))
        refine ⟨s :: l, by simp [h1], fun i u hu => ?_⟩
        cases i with
        | zero => simp at hu; subst hu; exact hs
        | succ i => exact h2 i u (by simpa using hu)
    obtain ⟨p, p1, p2⟩ := build elems (fun i s => w.cells? 0 (a.add i) 1 = some [.string s] ∧ s.size ≤ LIM) key
    have hlen := hf.len (elems.map (·.1))
    rw [List.length_map] at hlen
    refine ⟨p, some a, len, cap, h1, by rw [p1, h6], by rw [LIM_eq]; omega, h4, ?_, fun s hs => by
      obtain ⟨i, hi⟩ := List.mem_iff_getElem?.1 hs
      exact (p2 i s hi).2⟩
    by_cases h0 : len = 0
    · exact .inl h0
    · obtain ⟨v0, hv0⟩ : ∃ v, p[0]? = some v := ⟨_, List.getElem?_eq_getElem (by omega)⟩
      obtain ⟨b, off, rfl⟩ := cells_plain (p2 0 v0 hv0).1 (by omega)
      refine .inr ⟨b, off, rfl, trivial, fun i s hs => ?_⟩
      exact (cells_row (p2 i s hs).1).1 0 _ rfl
end
end Go.Fw

set_option linter.unusedVariables false
set_option linter.unusedSimpArgs false
namespace Go.Fw
open Go Go.ChangeShapes Go.WideShapes Go.ChangeAt Go.RowKit
section
variable {H : Type} {enc : TypeId × Value → H} {P : Program}

theorem Kp.sameAt {W W' : World} (hk : Kp No W W') {p : MemPlace} (hp : p.block < W.heap.size) : W.sameAt W' p := by
  cases p with
  | cell b off =>
    have := hk.block b hp id
    simp only [World.sameAt, World.cell?, this]
  | map b => exact hk.block b hp id

theorem trodAll_kp {W W' : World} (hk : Kp No W W') {base : Nat} {sp : Nat → Bool} {held : Bool} : ∀ {ts : List TypeId} {vs : List Value} {ds : List (DataW H)} {ps : List MemPlace},
    DataW.TrodAll enc P W base sp held ts vs ds ps → DataW.TrodAll enc P W' base sp held ts vs ds ps
  | [], [], [], _, h => h
  | _ :: _, _ :: _, _ :: _, _, ⟨p, q, ⟨fuel, h1⟩, h2, e⟩ =>
    ⟨p, q, ⟨fuel, DataW.trod_carry _ _ _ _ h1 fun x hx => hk.sameAt (DataW.trod_lt _ _ _ _ h1 x hx)⟩, trodAll_kp hk h2, e⟩

theorem post_of_kp {f : Func} {s : ChangeSpec} {apart fresh handsOn again : Bool} {W W' : World} {args : Array Value} {v : Value} {ds gs : List (DataW H)} {before : List MemPlace}
    (K : Kids P (· < P.types.size)) (hz : ∀ t e, t < P.types.size → P.underlying t = some (.slice e) → 0 < P.cellsOf e) (hT : ∀ t ∈ f.params.toList, t < P.types.size)
    (hW : DataW.Whole enc P f.params.toList s.vars apart W args.toList ds gs before) (hv0 : s.vars = []) (hv1 : (s.fn H (ds ++ gs)).vars = []) (ha : (s.fn H (ds ++ gs)).args = ds) (hk : Kp No W W')
    (hres : ∀ (b : Nat) (sp : Nat → Bool) (hd : Bool), DataW.TrodAll enc P W' b sp hd f.resultTypes.toList (v.resultList f.resultTypes.size) (s.fn H (ds ++ gs)).results [])
    (hok : ∀ (j : Nat) (t : TypeId) (r : Value), f.resultTypes[j]? = some t → (v.resultList f.resultTypes.size)[j]? = some r → Value.okWide P W' .any 0 t r) :
    s.post enc P f apart fresh handsOn again W args v W' := by
  have hlt := fun p hp => hW.lt p hp
  have hW0 := hW
  obtain ⟨pa, pv, hA, hV, hps, hzz, hn⟩ := hW
  have hV' := hV
  rw [hv0] at hV'
  obtain ⟨rfl, rfl⟩ := trodVars_none hV'
  rw [List.append_nil] at hps
  subst hps
  have hold : ∀ p ∈ before, (fun b => decide (b < W.heap.size)) p.block = true := fun p hp => by simpa using hlt p hp
  have hargs : ∀ sp : Nat → Bool, (∀ p ∈ before, sp p.block = true) → DataW.TrodAll enc P W' 0 sp true f.params.toList args.toList (s.fn H (ds ++ [])).args before := fun sp hsp => by
    rw [ha]; exact trodAll_kp hk (DataW.TrodAll.respare K hz hT hA hsp)
  have hvars : ∀ sp : Nat → Bool, DataW.TrodVars enc P W' sp s.vars (s.fn H (ds ++ [])).vars [] := fun sp => by rw [hv0, hv1]; rfl
  have hfz : ∀ b off, MemPlace.cell b off ∈ before → W'.frozen? ⟨b, off, none⟩ = W.frozen? ⟨b, off, none⟩ := fun b off hp => by
    have := hk.block b (hlt _ hp) id
    unfold World.frozen?
    simp only [this]
  refine ⟨ds, [], before, [], before, [], hW0, hres _ _ _, hargs _ hold, hvars _, hk.toBelow.frame _, fun _ => ?_⟩
  refine ⟨hok, _, _, ([] ++ before) ++ [], ⟨[] ++ before, [], trodAll_append (hargs _ (fun _ _ => rfl)) (hres _ _ _), hvars _, rfl, ?_, ?_⟩, ?_⟩
  · intro b off hp
    have hp' : MemPlace.cell b off ∈ before := by simpa using hp
    rw [hfz b off hp']
    exact hzz b off hp'
  · intro h
    have := hn h
    simpa using this
  · intro p hp _
    simpa using hp
end
end Go.Fw
