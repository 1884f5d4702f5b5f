/- Helping lemmas for the cards of this seat's laws, of the texts: Fw7, Fw8, Fw9. They state no law of their own. -/
import Derived.Test.YtmpngkngkoigmaaGreatDoorKitA
set_option linter.unusedVariables false
set_option linter.unusedSimpArgs false
namespace Go.Fw
open Go

section
variable {P : Program} {ops : Array Oper} {nk : List Nat} {Q : Exit → Act → World → Prop} {s : Sym}

theorem putL_append : ∀ (vs : List Value) (off : Nat) (cs : List Value), off + vs.length ≤ cs.length → putL cs off vs = cs.take off ++ vs ++ cs.drop (off + vs.length)
  | [], off, cs, h => by simp [putL]
  | v :: vs, off, cs, h => by
    simp only [List.length_cons] at h
    simp only [putL]
    rw [putL_append vs (off + 1) (cs.set off v) (by simp; omega)]
    have h1 : off < cs.length := by omega
    have h2 : (cs.set off v).take (off + 1) = cs.take off ++ [v] := by
      rw [List.take_succ_eq_append_getElem (by simpa using h1)]
      simp [List.take_set_of_le]
    have h3 : (cs.set off v).drop (off + 1 + vs.length) = cs.drop (off + (v :: vs).length) := by
      rw [List.drop_set_of_lt (by omega)]
      congr 1
      simp; omega
    rw [h2, h3]
    simp

theorem storeSize {w : World} (g : Nat) (cs : Array Value) : (w.setRow g cs).heap.size = w.heap.size := by simp [World.setRow]

/-- A store into cells of a block that is one row of unfrozen cells. -/
theorem run_storeAt {tb : Tb} (ht : TbOk P tb) {T n : Nat} {ag : Bool} (hsz : tb.sz T = some (ag, n)) {w : World} {b off : Nat} {cur : List Value} {e : TypeId} (hb : w.heap[b]? = some (.cells cur.toArray e (0, 0)))
    {v : Value} (hl : v.cells.toList.length = n) (hle : off + n ≤ cur.length) (h1 : ∀ u ∈ v.cells.toList, u.oneCell' = true) :
    (Instr.storeAt T (.pointer (some ⟨b, off, none⟩)) v).run P w = .ok () (w.setRow b (putL cur off v.cells.toList).toArray) := by
  obtain ⟨d, i, hu, hi, hs, _⟩ := ht.sz T ag n hsz
  have hst := run_storeCells_at P b off e v.cells.toList 0 cur.toArray w hb (by simp; simp at hl; omega) h1
  have hn : v.cells.size = n := by simpa using hl
  rw [putL_append _ _ _ (by omega)]
  simp only [Instr.storeAt, Instr.sureAddr, storeVar]
  simp [run_sizeOf hi, hs, hn]
  simpa [hn] using hst

theorem setRow_kp {w : World} {b : Nat} {cs : Array Value} {D : Nat → Prop} (hd : D b) : Kp D w (w.setRow b cs) :=
  ⟨rfl, rfl, rfl, by rw [storeSize]; exact Nat.le_refl _, fun k _ hn => setRow_other w b k cs (fun e => hn (e ▸ hd))⟩

theorem kp_setRow {w0 w : World} {b : Nat} {cs : Array Value} {D : Nat → Prop} (h : Kp D w0 w) (hd : w0.heap.size ≤ b ∨ D b) : Kp D w0 (w.setRow b cs) :=
  ⟨h.os, h.tape, h.output, by rw [storeSize]; exact h.size, fun k hk hn => by
    rw [setRow_other w b k cs (fun e => by subst e; rcases hd with hd | hd; · omega
                                           · exact hn hd)]
    exact h.block k hk hn⟩

theorem nodup_get : ∀ (l : List Nat), l.Nodup → ∀ (i j x : Nat), l[i]? = some x → l[j]? = some x → i = j
  | [], _, i, j, x, h, _ => by simp at h
  | y :: l, hn, i, j, x, h1, h2 => by
    rw [List.nodup_cons] at hn
    cases i with
    | zero =>
      cases j with
      | zero => rfl
      | succ j =>
        simp at h1 h2
        subst h1
        exact absurd (List.mem_of_getElem? h2) hn.1
    | succ i =>
      cases j with
      | zero =>
        simp at h1 h2
        subst h2
        exact absurd (List.mem_of_getElem? h1) hn.1
      | succ j =>
        simp at h1 h2
        rw [nodup_get l hn.2 i j x h1 h2]

theorem Fits.stored {a : Act} {w : World} (hf : Fits s a w) {i : Nat} {bx : Bx} (hL : s.L[i]? = some bx) (cs : List Value) :
    Fits (s.stored i bx cs) a (w.setRow bx.b cs.toArray) := by
  have hblk := hf.loc i bx hL
  have hdist := hf.dist
  simp only [Sym.blocks] at hdist
  have hnd := (List.nodup_append.1 hdist)
  have hother : ∀ (j : Nat) (bx' : Bx), s.L[j]? = some bx' → j ≠ i → bx'.b ≠ bx.b := by
    intro j bx' hj hji hbb
    have h1 : (s.L.map (·.b))[j]? = some bx'.b := by simp [hj]
    have h2 : (s.L.map (·.b))[i]? = some bx.b := by simp [hL]
    rw [hbb] at h1
    exact hji (nodup_get _ hnd.2.1 j i _ h1 h2)
  refine ⟨hf.size, hf.defers, ?_, ?_, ?_, ?_, ?_, ?_, ⟨hf.lb.1, ?_⟩, ?_, hf.rfresh⟩
  · intro t sv ht
    rw [hf.env t sv ht]
    cases sv with
    | val v => rfl
    | sb b => rfl
    | loc j off => simp only [den, Sym.stored, setBx_bxb]
  · intro t j off ht
    have := hf.wf t j off ht
    simpa [Sym.stored, setBx_length] using this
  · by_cases hn : bx.new = true
    · simp only [Sym.stored, hn, if_true]
      exact kp_setRow hf.kp (Or.inl (hf.fresh i bx hL hn))
    · simp only [Sym.stored, hn]
      exact kp_setRow (hf.kp.mono fun k _ h => Or.inr h) (Or.inr (Or.inl rfl))
  · intro j bx' hj
    simp only [Sym.stored, setBx_get] at hj
    obtain ⟨b0, h0, rfl⟩ := Option.map_eq_some_iff.1 hj
    by_cases hij : i = j
    · subst hij
      rw [hL] at h0
      obtain rfl := Option.some.inj h0
      simp only [if_true]
      exact setRow_heap w bx.b _ _ _ _ hblk
    · simp only [hij, if_false]
      rw [setRow_other _ _ _ _ (hother j b0 h0 (Ne.symm hij))]
      exact hf.loc j b0 h0
  · intro j r hj
    refine ownsRow_kp (hf.row j r hj) (setRow_kp (D := fun k => k = bx.b) rfl) ?_
    intro g hg hgb
    have hm1 : g ∈ s.R.filterMap (fun r => r.v.ownBlock) := List.mem_filterMap.2 ⟨r, List.mem_of_getElem? hj, hg⟩
    have hm2 : bx.b ∈ s.L.map (·.b) := List.mem_map.2 ⟨bx, List.mem_of_getElem? hL, rfl⟩
    exact hnd.2.2 g hm1 _ hm2 hgb
  · simp only [Sym.blocks, Sym.stored, setBx_map]
    exact hdist
  · intro j bx' hj
    simp only [Sym.stored, setBx_get] at hj
    obtain ⟨b0, h0, rfl⟩ := Option.map_eq_some_iff.1 hj
    have := hf.lb.2 j b0 h0
    split <;> exact this
  · intro j bx' hj hn
    simp only [Sym.stored, setBx_get] at hj
    obtain ⟨b0, h0, rfl⟩ := Option.map_eq_some_iff.1 hj
    have := hf.fresh j b0 h0
    split at hn
    · rename_i hij
      simp only [hij, if_true]
      exact this hn
    · rename_i hij
      simp only [hij, if_false]
      exact this hn

theorem wp_skip_new {o : Oper} {a : Act} {w w' : World} {K : Act → World → Prop} (h : (execOp a.eval o).run P w = .ok .skip w')
    (hK : K (a.put o.dst undef) w') : o.wp P a w K Q := by
  unfold Oper.wp; rw [h]; exact hK

def one' (cs : List Value) : Bool := cs.all Value.oneCell'

/-- A store into a local variable. -/
theorem sst_store {tb : Tb} (ht : TbOk P tb) {l : List Oper} {i : Nat} {o : Oper} {rest : List (Nat × Oper)} {T : TypeId} {x y : Operand} (hop : o.op = .store T x y) (hdst : o.dst = none)
    (hg : guardV l s o.guard = some true) (hnk : nk.contains i = true)
    {j off : Nat} (hx : evS s x = some (.loc j off)) {bx : Bx} (hL : s.L[j]? = some bx) {ag : Bool} {n : Nat} (hsz : tb.sz T = some (ag, n)) {sv : SV} (hy : evS s y = some sv)
    {vs : List Value} (hvs : (den s.L sv).cells.toList = vs) (hl : vs.length = n) (hle : off + n ≤ bx.cells.length) (h1 : one' vs = true)
    (h : SSeq P l.toArray nk Q rest (s.stored j bx (putL bx.cells off vs))) : SSt P l nk Q ((i, o) :: rest) s := by
  intro a w hf
  simp only [wpSeqK]
  rw [if_pos (guardV_eq hf hg)]
  refine .inr ⟨by rw [hop]; rfl, ?_⟩
  subst hvs
  have hst := run_storeAt ht hsz (hf.loc j bx hL) (v := den s.L sv) hl hle (fun u hu => (List.all_eq_true.1 h1) u hu)
  have hrun : (execOp a.eval o).run P w = .ok .skip (w.setRow bx.b (putL bx.cells off (den s.L sv).cells.toList).toArray) := by
    unfold execOp
    have hxe : den s.L (.loc j off) = .pointer (some ⟨bx.b, off, none⟩) := by simp only [den, bxb_eq hL]
    simp only [hop, (hf.ev hx).1, (hf.ev hy).1, hxe]
    simp [hst]
  refine wp_skip_new hrun ⟨fun hc => (by rw [hnk] at hc; cases hc), ?_⟩
  rw [hdst]
  exact h _ _ (hf.stored hL _)

/-! ### Rows of the call's own -/

def Sym.addR (s : Sym) (r : Rw) : Sym := { s with R := s.R ++ [r] }

/-- nil, as a row of no elements -/
theorem Fits.nilRow {a : Act} {w : World} (hf : Fits s a w) (e size : Nat) : Fits (s.addR ⟨.slice none 0 0, e, size, 0, [], true⟩) a w := by
  refine ⟨hf.size, hf.defers, hf.env, hf.wf, hf.kp, hf.loc, ?_, ?_, hf.lb, hf.fresh, ?_⟩
  · intro i r hi
    simp only [Sym.addR, List.getElem?_append] at hi
    split at hi
    · exact hf.row i r hi
    · have := List.mem_of_getElem? hi
      simp at this
      subst this
      exact World.ownsRow_nil _ _ _ _
  · have := hf.dist
    simpa [Sym.blocks, Sym.addR, List.filterMap_append, Value.ownBlock] using this
  · intro i r hi hn g hg
    simp only [Sym.addR, List.getElem?_append] at hi
    split at hi
    · exact hf.rfresh i r hi hn g hg
    · have := List.mem_of_getElem? hi
      simp at this
      subst this
      simp [Value.ownBlock] at hg

theorem sseq_nilRow {l : List (Nat × Oper)} (e size : Nat) (h : SSeq P ops nk Q l (s.addR ⟨.slice none 0 0, e, size, 0, [], true⟩)) : SSeq P ops nk Q l s :=
  fun a w hf => h a w (hf.nilRow e size)
theorem swp_nilRow {c : Code} (e size : Nat) (h : SWp P c Q (s.addR ⟨.slice none 0 0, e, size, 0, [], true⟩)) : SWp P c Q s :=
  fun a w hf => h a w (hf.nilRow e size)

/-- A new row. -/
theorem Fits.addR {a : Act} {w : World} (hf : Fits s a w) (e size n cap : Nat) (cs : Array Value) (hc : cs.size = cap * size) (hnc : n ≤ cap) (hm : cap ≤ maxLen) :
    Fits (s.addR ⟨.slice (some ⟨w.heap.size, 0, none⟩) n cap, e, size, n, cs.toList.take (n * size), true⟩) a { w with heap := w.heap.push (.cells cs e) } := by
  have hk := Kp.alloc w (.cells cs e)
  have h2 := hf.later hk
  have hnew : w.heap.size ∉ s.blocks := fun h => Nat.lt_irrefl _ (hf.block_lt _ h)
  refine ⟨h2.size, h2.defers, h2.env, h2.wf, h2.kp, h2.loc, ?_, ?_, h2.lb, h2.fresh, ?_⟩
  · intro i r hi
    simp only [Sym.addR, List.getElem?_append] at hi
    split at hi
    · exact h2.row i r hi
    · have := List.mem_of_getElem? hi
      simp at this
      subst this
      refine ⟨?_, .inr ⟨w.heap.size, cap, cs, rfl, Nat.le_trans hf.lb.1 hf.kp.size, by simp, hnc, hm, hc, rfl⟩⟩
      simp [hc, Nat.min_eq_left (Nat.mul_le_mul_right size hnc), Nat.min_eq_left hnc]
  · have hd := hf.dist
    simp only [Sym.blocks] at hd
    have hnd := List.nodup_append.1 hd
    simp only [Sym.blocks, List.mem_append, not_or] at hnew
    simp only [Sym.blocks, Sym.addR, List.filterMap_append, List.filterMap_cons, Value.ownBlock, List.filterMap_nil]
    rw [List.nodup_append]
    refine ⟨?_, hnd.2.1, ?_⟩
    · rw [List.nodup_append]
      refine ⟨hnd.1, by simp, ?_⟩
      intro b hb c hc hbc
      simp at hc
      subst hc
      subst hbc
      exact hnew.1 hb
    · intro b hb c hc hbc
      subst hbc
      rcases List.mem_append.1 hb with hb | hb
      · exact hnd.2.2 b hb b hc rfl
      · simp at hb
        subst hb
        exact hnew.2 hc
  · intro i r hi hn g hg
    simp only [Sym.addR, List.getElem?_append] at hi
    split at hi
    · exact h2.rfresh i r hi hn g hg
    · have := List.mem_of_getElem? hi
      simp at this
      subst this
      simp [Value.ownBlock] at hg
      subst hg
      exact hf.kp.size
end
end Go.Fw

set_option linter.unusedVariables false
set_option linter.unusedSimpArgs false
namespace Go.Fw
open Go

section
variable {P : Program} {ops : Array Oper} {nk : List Nat} {Q : Exit → Act → World → Prop} {s : Sym}

def zrep : Nat → List Value → List Value
  | 0, _ => []
  | n + 1, z => z ++ zrep n z

theorem zrep_length (z : List Value) : ∀ n, (zrep n z).length = n * z.length
  | 0 => by simp [zrep]
  | n + 1 => by simp [zrep, zrep_length z n, Nat.add_mul]; omega

theorem zrep_get (z : List Value) (hz : 0 < z.length) : ∀ (n i : Nat), i < n * z.length → (zrep n z)[i]? = z[i % z.length]?
  | 0, i, h => by omega
  | n + 1, i, h => by
    simp only [zrep, List.getElem?_append]
    split
    · rename_i hlt
      rw [Nat.mod_eq_of_lt hlt]
    · rename_i hge
      have h' : i < n * z.length + z.length := by rw [Nat.add_mul, Nat.one_mul] at h; exact h
      rw [zrep_get z hz n (i - z.length) (by omega), Nat.mod_eq_sub_mod (a := i) (by omega)]

theorem made_cells (z : Array Value) (hz : 0 < z.size) (n : Nat) : ((Array.range (n * z.size)).map fun i => z[i % z.size]!) = (zrep n z.toList).toArray := by
  apply Array.ext'
  apply List.ext_getElem?
  intro i
  simp only [Array.toList_map, List.getElem?_map, Array.toList_range]
  by_cases h : i < n * z.size
  · rw [zrep_get z.toList (by simpa using hz) n i (by simpa using h)]
    have hm : i % z.size < z.size := Nat.mod_lt _ hz
    simp [h, hm]
  · have h2 : (zrep n z.toList).length ≤ i := by rw [zrep_length]; simp; omega
    rw [List.getElem?_eq_none h2]
    simp; omega

/-- A slice literal. -/
theorem sst_buildSlice {tb : Tb} (ht : TbOk P tb) {l : List Oper} {i : Nat} {o : Oper} {rest : List (Nat × Oper)} {T len : Nat} {parts : Array (Nat × Operand)} (hop : o.op = .buildSlice T len parts)
    (hg : guardV l s o.guard = some true) (hd : dok s o.dst = true) {e size by' : Nat} (hel : tb.el T = some (e, size, by')) {zs : List Value} (hz : tb.zero e = some zs) (hzl : zs.length = size)
    {ps : List (Nat × Value)} (hps : evParts s parts.toList = some ps) {cs : List Value}
    (hb : bldL ((List.range len).map fun i => (i * size, size)) (zrep len zs) ps = some cs) (hsm : len * size ≤ 16777216)
    (hps' : ∀ p ∈ ps, p.1 < len)
    (h : ∀ g, s.w.heap.size ≤ g → (∀ k ∈ s.blocks, k < g) → SSeq P l.toArray nk Q rest ((s.addR ⟨.slice (some ⟨g, 0, none⟩) len len, e, size, len, cs, true⟩).put o.dst (.val (.slice (some ⟨g, 0, none⟩) len len)))) :
    SSt P l nk Q ((i, o) :: rest) s := by
  intro a w hf
  simp only [wpSeqK]
  rw [if_pos (guardV_eq hf hg)]
  refine .inr ⟨by rw [hop]; rfl, ?_⟩
  obtain ⟨hu, ti, z, hti, hs, _, hz2, hz3, hsz, _⟩ := ht.el T e size by' hel
  obtain ⟨ti', v, hti', hv, hvc⟩ := ht.zero e zs hz
  rw [hti] at hti'
  obtain rfl := Option.some.inj hti'
  have hparts : parts.map (fun (x : Nat × Operand) => (x.1, a.eval x.2)) = ps.toArray := by
    rw [← evParts_eq hf hps]; apply Array.ext'; simp
  have hcl : cs.length = len * size := by
    have key : ∀ (l : List (Nat × Value)) (c0 c1 : List Value) (pp : List (Nat × Nat)), bldL pp c0 l = some c1 → c1.length = c0.length := by
      intro l
      induction l with
      | nil => intro c0 c1 pp h; simp [bldL] at h; rw [h]
      | cons p l ih =>
        intro c0 c1 pp h
        obtain ⟨j, u⟩ := p
        simp only [bldL] at h
        split at h
        · cases h
        · split at h
          · rw [ih _ _ _ h, putL_length]
          · cases h
    rw [key _ _ _ _ hb, zrep_length, hzl]
  have hsz0 : v.cells.size = size := by rw [hvc]; simpa using hzl
  have hmade : ((Array.range (len * size)).map fun i => v.cells[i % v.cells.size]!) = (zrep len zs).toArray := by
    have := made_cells v.cells (by omega) len
    rw [hsz0] at this
    rw [hsz0, this, hvc]
  have hfill : Instr.fill (fun i => some (i * size, size)) (zrep len zs).toArray ps = some cs.toArray := by
    have key : ∀ (l : List (Nat × Value)) (c0 c1 : List Value), (∀ p ∈ l, p.1 < len) → bldL ((List.range len).map fun i => (i * size, size)) c0 l = some c1 → Instr.fill (fun i => some (i * size, size)) c0.toArray l = some c1.toArray := by
      intro l
      induction l with
      | nil => intro c0 c1 _ h; simp [bldL] at h; subst h; rfl
      | cons p l ih =>
        intro c0 c1 hlt h
        obtain ⟨j, u⟩ := p
        have hj : j < len := hlt _ List.mem_cons_self
        simp only [bldL] at h
        have hpj : ((List.range len).map fun i => (i * size, size))[j]? = some (j * size, size) := by simp [hj]
        rw [hpj] at h
        simp only at h
        split at h
        · rename_i hc
          have := fill_eq ((List.range len).map fun i => (i * size, size)) (fun i => ((List.range len).map fun i => (i * size, size))[i]?) (fun _ => rfl) [(j, u)] c0.toArray (putL c0 (j * size) u.cells.toList) (by simp [bldL, hpj]; exact ⟨by simpa using hc.1, hc.2⟩)
          simp only [Instr.fill, hpj] at this
          simp only [Instr.fill]
          split at this
          · cases this
          · rename_i hcc
            rw [if_neg hcc]
            have e1 := Option.some.inj this
            rw [e1]
            exact ih _ _ (fun p hp => hlt p (List.mem_cons_of_mem _ hp)) h
        · cases h
    exact key ps _ _ hps' hb
  have hrun : (execOp a.eval o).run P w = .ok (.value (.slice (some ⟨w.heap.size, 0, none⟩) len len)) { w with heap := w.heap.push (.cells cs.toArray e) } := by
    unfold execOp
    simp only [hop, hparts]
    simp [Instr.buildSlice, run_underlying hu, run_sizeOf hti, hs, zeroValue, typeInfo, hti, hv, newRow, newObj]
    rw [if_neg (by omega)]
    have h0 : (Array.map (fun x => v.cells[x % v.cells.size]!) (Array.range (len * size))) = (zrep len zs).toArray := hmade
    split
    · rename_i hz0
      have hlen : len = 0 := by
        rcases Nat.mul_eq_zero.1 hz0 with h | h
        · exact h
        · omega
      subst hlen
      have he : (Array.map (fun x => (default : Value)) (Array.range (0 * size))) = (zrep 0 zs).toArray := by simp [zrep]
      rw [he, hfill]
      rfl
    · rw [h0, hfill]
      rfl
  refine wp_value_new hrun ⟨fun _ => Kp.alloc w _, h w.heap.size hf.kp.size hf.block_lt _ _ ?_⟩
  by_cases hlm : len ≤ maxLen
  · have hadd := hf.addR e size len len cs.toArray (by simpa using hcl) (Nat.le_refl _) hlm
    have htk : cs.toArray.toList.take (len * size) = cs := List.take_of_length_le (by simp; omega)
    rw [htk] at hadd
    exact hadd.put (d := o.dst) (sv := .val (.slice (some ⟨w.heap.size, 0, none⟩) len len)) (by cases hd' : o.dst with | none => rfl | some d => rw [hd'] at hd; exact hd) trivial
  · exfalso
    have hml : maxLen = 9223372036854775807 := rfl
    have : len ≤ len * size := Nat.le_mul_of_pos_right _ hsz
    rw [hml] at hlm
    omega

/-! ### append -/

theorem run_append_own2 {w : World} (base : Nat) (t ty e : TypeId) (i : TypeInfo) (z : Value) (ht : P.underlying t = some (.slice e)) (hi : P.info? e = some i) (hz : i.zero = some z)
    (hzs : z.cells.size = i.size) (hsz : 0 < i.size)
    (v : Value) (n : Nat) (xs : List Value) (hown : w.ownsRow base e i.size v n xs)
    (a : Addr) (m c : Nat) (news : List Value) (hl : news.length = m * i.size) (hnews : ∀ j u, news[j]? = some u → w.cell? (a.add j) = some u) (h1 : ∀ u ∈ news, u.oneCell' = true)
    (h63 : n + m ≤ maxLen) (hbytes : (n + m) * i.bytes ≤ 140737488355328) (hbase : base ≤ w.heap.size) :
    ∃ v' w', (Builtin.append_ #[t, t] ty #[v, .slice (some a) m c]).run P w = .ok v' w' ∧ w'.ownsRow base e i.size v' (n + m) (xs ++ news) ∧ w.grownBy w' v.ownBlock ∧
      (v'.ownBlock = v.ownBlock ∨ v'.ownBlock = some w.heap.size) := by
  obtain ⟨v', w', hr, h2, h3, h4⟩ := run_append_own (P := P) w base t ty e i z i.size i.bytes ht hi hz rfl rfl hzs hsz v n xs hown a m c news hl hnews h1 h63 hbytes hbase
  refine ⟨v', w', hr, h2, h3, ?_⟩
  have hsmall : n + m ≤ 9223372036854775807 := by simp only [maxLen] at h63; omega
  rcases hown.2 with ⟨rfl, rfl⟩ | ⟨g, cap, cur, rfl, hbg, hg, hnc, hcm, hcs, htake⟩
  · by_cases hm : m = 0
    · have := (h4.2 ⟨rfl, hm⟩)
      subst this
      exact .inl rfl
    · have hr' := run_append_nil (P := P) w t ty e i z ht hi hz a m c news hl hnews (by omega) (by omega) (by have hb := hbytes; simp only [Nat.zero_add] at hb; omega)
      rw [hr'] at hr
      injection hr with e1 e2
      subst e1
      exact .inr rfl
  · by_cases hroom : n + m ≤ cap
    · have hfit : n * i.size + news.length ≤ cur.size := by rw [hl, hcs, ← Nat.add_mul]; exact Nat.mul_le_mul_right _ hroom
      have hr' := run_append_room (P := P) w t ty e i ht hi g n cap cur hg a m c news hl hnews h1 hroom hfit
      rw [hr'] at hr
      injection hr with e1 e2
      subst e1
      exact .inl rfl
    · have holds : ∀ j u, xs[j]? = some u → w.cell? ((⟨g, 0, none⟩ : Addr).add j) = some u := hown.cells (g := g) rfl
      have hr' := run_append_grow (P := P) w t ty e i z ht hi hz ⟨g, 0, none⟩ n cap xs hown.1 holds a m c news hl hnews (by omega) (by omega) (growslice_fits (by omega) hbytes)
      rw [hr'] at hr
      injection hr with e1 e2
      subst e1
      exact .inr rfl

def setRw : List Rw → Nat → Rw → List Rw
  | [], _, _ => []
  | _ :: r, 0, y => y :: r
  | x :: r, i + 1, y => x :: setRw r i y

theorem setRw_get : ∀ (L : List Rw) (i j : Nat) (y : Rw), (setRw L i y)[j]? = if i = j then (L[j]?).map (fun _ => y) else L[j]?
  | [], i, j, y => by simp [setRw]
  | x :: r, 0, 0, y => by simp [setRw]
  | x :: r, 0, j + 1, y => by simp [setRw]
  | x :: r, i + 1, 0, y => by simp [setRw]
  | x :: r, i + 1, j + 1, y => by simp [setRw, setRw_get r i j y]

theorem setRw_mem : ∀ (L : List Rw) (i : Nat) (y r : Rw), r ∈ setRw L i y → r = y ∨ r ∈ L
  | [], i, y, r, h => by simp [setRw] at h
  | x :: l, 0, y, r, h => by simp [setRw] at h; rcases h with h | h; · exact .inl h
                             · exact .inr (List.mem_cons_of_mem _ h)
  | x :: l, i + 1, y, r, h => by
    simp [setRw] at h
    rcases h with h | h
    · subst h; exact .inr List.mem_cons_self
    · rcases setRw_mem l i y r h with h | h
      · exact .inl h
      · exact .inr (List.mem_cons_of_mem _ h)

def dirtyV (D : Nat → Prop) (v : Value) : Nat → Prop := fun k => v.ownBlock = some k ∨ D k

/-- Row ix has become y. -/
def Sym.rowSet (s : Sym) (ix : Nat) (r y : Rw) : Sym := { s with R := setRw s.R ix y, D := if r.new then s.D else dirtyV s.D r.v }

/-- The blocks with row ix changed: still all different. -/
theorem rowSet_dist {R : List Rw} {bs : List Nat} : ∀ {ix : Nat} {r y : Rw}, R[ix]? = some r → (R.filterMap (fun r => r.v.ownBlock) ++ bs).Nodup →
    (y.v.ownBlock = r.v.ownBlock ∨ ∃ g, y.v.ownBlock = some g ∧ g ∉ R.filterMap (fun r => r.v.ownBlock) ++ bs) → ((setRw R ix y).filterMap (fun r => r.v.ownBlock) ++ bs).Nodup := by
  induction R with
  | nil => intro ix r y h; simp at h
  | cons x R ih =>
    intro ix r y h hn hy
    cases ix with
    | zero =>
      simp at h
      subst h
      simp only [setRw, List.filterMap_cons]
      rcases hy with hy | ⟨g, hg, hng⟩
      · rw [hy]
        simpa [List.filterMap_cons] using hn
      · rw [hg]
        simp only [List.filterMap_cons] at hn hng
        simp only [List.cons_append, List.nodup_cons]
        cases hx : x.v.ownBlock with
        | none => rw [hx] at hn hng; exact ⟨hng, hn⟩
        | some k =>
          rw [hx] at hn hng
          simp only [List.cons_append, List.nodup_cons, List.mem_cons, not_or] at hn hng
          exact ⟨hng.2, hn.2⟩
    | succ ix =>
      simp at h
      simp only [setRw, List.filterMap_cons]
      have hsub : ∀ k, k ∈ (setRw R ix y).filterMap (fun r => r.v.ownBlock) ++ bs → (k ∈ R.filterMap (fun r => r.v.ownBlock) ++ bs ∨ y.v.ownBlock = some k) := by
        intro k hk
        rcases List.mem_append.1 hk with hk | hk
        · obtain ⟨r', hr', hv⟩ := List.mem_filterMap.1 hk
          rcases setRw_mem R ix y r' hr' with e | e
          · subst e; exact .inr hv
          · exact .inl (List.mem_append.2 (.inl (List.mem_filterMap.2 ⟨r', e, hv⟩)))
        · exact .inl (List.mem_append.2 (.inr hk))
      cases hx : x.v.ownBlock with
      | none =>
        simp only [List.filterMap_cons, hx] at hn hy
        exact ih h hn hy
      | some k =>
        simp only [List.filterMap_cons, hx, List.cons_append, List.nodup_cons] at hn hy
        simp only [List.cons_append, List.nodup_cons]
        have hrk : r.v.ownBlock ≠ some k := by
          intro e
          exact hn.1 (List.mem_append.2 (.inl (List.mem_filterMap.2 ⟨r, List.mem_of_getElem? h, e⟩)))
        have hy' : y.v.ownBlock = r.v.ownBlock ∨ ∃ g, y.v.ownBlock = some g ∧ g ∉ R.filterMap (fun r => r.v.ownBlock) ++ bs := by
          rcases hy with hy | ⟨g, hg, hng⟩
          · exact .inl hy
          · exact .inr ⟨g, hg, fun hm => hng (List.mem_cons_of_mem _ hm)⟩
        refine ⟨fun hm => ?_, ih h hn.2 hy'⟩
        rcases hsub k hm with hm | hm
        · exact hn.1 hm
        · rcases hy with hy | ⟨g, hg, hng⟩
          · exact hrk (hy ▸ hm)
          · rw [hg] at hm
            obtain rfl := Option.some.inj hm
            exact hng List.mem_cons_self

theorem Fits.rowSet {a : Act} {w w' : World} (hf : Fits s a w) {ix : Nat} {r y : Rw} (hR : s.R[ix]? = some r) (hown : w'.ownsRow s.base y.e y.size y.v y.n y.xs) (hg : w.grownBy w' r.v.ownBlock)
    (hnew : y.new = true → r.new = true) (hb : y.v.ownBlock = r.v.ownBlock ∨ y.v.ownBlock = some w.heap.size) : Fits (s.rowSet ix r y) a w' := by
  have hdist := hf.dist
  simp only [Sym.blocks] at hdist
  have hnd := List.nodup_append.1 hdist
  have hrm : r ∈ s.R := List.mem_of_getElem? hR
  have hkw : Kp (fun k => r.v.ownBlock = some k) w w' := ⟨hg.os, hg.tape, hg.output, hg.size, fun k hk hn => hg.block k hk (fun e => hn e.symm)⟩
  have hwlt := hf.block_lt
  refine ⟨hf.size, hf.defers, hf.env, hf.wf, ?_, ?_, ?_, ?_, hf.lb, hf.fresh, ?_⟩
  · by_cases hn : r.new = true
    · simp only [Sym.rowSet, hn, if_true]
      refine ⟨hkw.os.trans hf.kp.os, hkw.tape.trans hf.kp.tape, hkw.output.trans hf.kp.output, Nat.le_trans hf.kp.size hkw.size, fun k hk hd => ?_⟩
      rw [hkw.block k (Nat.lt_of_lt_of_le hk hf.kp.size) (fun e => by have := hf.rfresh ix r hR hn k e; omega)]
      exact hf.kp.block k hk hd
    · simp only [Sym.rowSet, hn]
      exact (hf.kp.mono fun k _ h => Or.inr h).trans (hkw.mono fun k _ h => Or.inl h)
  · intro j bx hj
    refine hkw.heap (hf.loc j bx hj) ?_
    intro e
    exact hnd.2.2 bx.b (List.mem_filterMap.2 ⟨r, hrm, e⟩) bx.b (List.mem_map.2 ⟨bx, List.mem_of_getElem? hj, rfl⟩) rfl
  · intro j r' hj
    simp only [Sym.rowSet, setRw_get] at hj
    split at hj
    · obtain ⟨_, _, rfl⟩ := Option.map_eq_some_iff.1 hj
      exact hown
    · rename_i hij
      refine ownsRow_kp (hf.row j r' hj) hkw ?_
      intro g hg1 hg2
      -- two rows with one block
      have key : ∀ (R : List Rw) (i j : Nat) (x y : Rw) (g : Nat), (R.filterMap (fun r => r.v.ownBlock)).Nodup → R[i]? = some x → R[j]? = some y → x.v.ownBlock = some g → y.v.ownBlock = some g → i = j := by
        intro R
        induction R with
        | nil => intro i j x y g _ h; simp at h
        | cons u R ih =>
          intro i j x y g hn hi hj hx hy
          cases i with
          | zero =>
            cases j with
            | zero => rfl
            | succ j =>
              simp at hi hj
              subst hi
              simp only [List.filterMap_cons, hx, List.nodup_cons] at hn
              exact absurd (List.mem_filterMap.2 ⟨y, List.mem_of_getElem? hj, hy⟩) hn.1
          | succ i =>
            cases j with
            | zero =>
              simp at hi hj
              subst hj
              simp only [List.filterMap_cons, hy, List.nodup_cons] at hn
              exact absurd (List.mem_filterMap.2 ⟨x, List.mem_of_getElem? hi, hx⟩) hn.1
            | succ j =>
              simp at hi hj
              have hn' : (R.filterMap (fun r => r.v.ownBlock)).Nodup := by
                simp only [List.filterMap_cons] at hn
                split at hn
                · exact hn
                · exact (List.nodup_cons.1 hn).2
              rw [ih i j x y g hn' hi hj hx hy]
      exact hij (key s.R ix j r r' g hnd.1 hR hj hg2 hg1)
  · refine rowSet_dist hR hdist ?_
    rcases hb with hb | hb
    · exact .inl hb
    · exact .inr ⟨w.heap.size, hb, fun hm => Nat.lt_irrefl _ (hwlt _ hm)⟩
  · intro j r' hj hn g hg'
    simp only [Sym.rowSet, setRw_get] at hj
    split at hj
    · obtain ⟨_, _, rfl⟩ := Option.map_eq_some_iff.1 hj
      rcases hb with hb | hb
      · exact hf.rfresh ix r hR (hnew hn) g (hb ▸ hg')
      · rw [hb] at hg'
        obtain rfl := Option.some.inj hg'
        exact hf.kp.size
    · exact hf.rfresh j r' hj hn g hg'

theorem ownsRow_shape {w : World} {base e size n : Nat} {v : Value} {xs : List Value} (h : w.ownsRow base e size v n xs) : ∃ A c, v = .slice A n c ∧ (∀ g, v.ownBlock = some g → A = some ⟨g, 0, none⟩) := by
  rcases h.2 with ⟨rfl, rfl⟩ | ⟨g, cap, cur, rfl, _⟩
  · exact ⟨none, 0, rfl, fun g hg => by simp [Value.ownBlock] at hg⟩
  · exact ⟨_, cap, rfl, fun g' hg => by simp [Value.ownBlock] at hg; rw [hg]⟩
end
end Go.Fw

set_option linter.unusedVariables false
set_option linter.unusedSimpArgs false
namespace Go.Fw
open Go

section
variable {P : Program} {ops : Array Oper} {nk : List Nat} {Q : Exit → Act → World → Prop} {s : Sym}

theorem dok_cast {s s' : Sym} {d : Option Tmp} (h : dok s d = true) (hn : s'.n = s.n) : dok s' d = true := by
  cases d with
  | none => rfl
  | some d => simpa [dok, hn] using h

/-- append to a row of the call's own; the source lies where it will. -/
theorem sst_append_src {tb : Tb} (ht : TbOk P tb) {l : List Oper} {i : Nat} {o : Oper} {rest : List (Nat × Oper)} {x y : Operand} {T : TypeId}
    (hop : o.op = .call { callee := .builtin .append, args := #[x, y], argTypes := #[T, T] }) (hg : guardV l s o.guard = some true) (hd : dok s o.dst = true) (hnk : nk.contains i = true)
    {e size by' : Nat} (hel : tb.el T = some (e, size, by')) (ix : Nat) {r : Rw} (hR : s.R[ix]? = some r) (he : r.e = e) (hs : r.size = size) (hx : evS s x = some (.val r.v))
    {A : Option Addr} {m c : Nat} (hy : evS s y = some (.val (.slice A m c))) (news : List Value) (hl : news.length = m * size) (h1 : one' news = true)
    (hA : m = 0 ∨ ∃ b off, A = some ⟨b, off, none⟩ ∧ ∀ w, At s w → RowAt w b off news)
    (hbytes : (r.n + m) * by' ≤ 140737488355328)
    (h : ∀ v' , (∃ A' c', v' = .slice A' (r.n + m) c') → (v'.ownBlock = r.v.ownBlock ∨ ∃ g, v'.ownBlock = some g ∧ s.w.heap.size ≤ g ∧ ∀ k ∈ s.blocks, k < g) → SSeq P l.toArray nk Q rest ((s.rowSet ix r ⟨v', e, size, r.n + m, r.xs ++ news, r.new⟩).put o.dst (.val v'))) :
    SSt P l nk Q ((i, o) :: rest) s := by
  intro a w hf
  simp only [wpSeqK]
  rw [if_pos (guardV_eq hf hg)]
  refine .inr ⟨by rw [hop]; rfl, ?_⟩
  subst he; subst hs
  obtain ⟨hu, ti, z, hti, hts, htb, htz, hzs, hsz, hby⟩ := ht.el T _ _ by' hel
  have hown := hf.row ix r hR
  have h63 : r.n + m ≤ maxLen := by
    have hml : maxLen = 9223372036854775807 := rfl
    have : r.n + m ≤ (r.n + m) * by' := Nat.le_mul_of_pos_right _ hby
    rw [hml]; omega
  have hbase : s.base ≤ w.heap.size := Nat.le_trans hf.lb.1 hf.kp.size
  rw [← hts] at hown hl
  have hone : ∀ u ∈ news, u.oneCell' = true := fun u hu => (List.all_eq_true.1 h1) u hu
  have key : ∃ v' w', (Builtin.append_ #[T, T] o.type #[r.v, .slice A m c]).run P w = .ok v' w' ∧ w'.ownsRow s.base r.e ti.size v' (r.n + m) (r.xs ++ news) ∧ w.grownBy w' r.v.ownBlock ∧
      (v'.ownBlock = r.v.ownBlock ∨ v'.ownBlock = some w.heap.size) := by
    rcases hA with rfl | ⟨b, off, rfl, hrow⟩
    · -- nothing is appended
      have hn : news = [] := List.eq_nil_of_length_eq_zero (by simpa using hl)
      subst hn
      obtain ⟨A', c', hv, _⟩ := ownsRow_shape hown
      refine ⟨r.v, w, ?_, by simpa using hown, ⟨rfl, rfl, rfl, Nat.le_refl _, fun _ _ _ => rfl⟩, .inl rfl⟩
      have hcap : r.n ≤ c' := by
        rcases hown.2 with ⟨h1, h2⟩ | ⟨g, cap, cur, h1, _, _, h2, _⟩
        · omega
        · rw [h1] at hv; injection hv with _ _ e3; omega
      have hf0 : (Builtin.firstCells ti.size 0 (.slice A 0 c)).run P w = .ok #[] w := by
        cases A <;> simp [Builtin.firstCells, loadCells, loadCellsFrom]
      rw [hv]
      simp [Builtin.append_, run_underlying hu, sizeOf, typeInfo, hti, Builtin.lenOf, hcap, hf0]
      cases A' <;> simp [storeCells]
    · exact run_append_own2 s.base T o.type r.e ti z hu hti htz (by rw [hzs, hts]) (by omega) r.v r.n r.xs hown ⟨b, off, none⟩ m c news hl
        (fun j u hj => by rw [add_mk]; exact hrow w hf.at j u hj) hone h63 (by rw [htb]; exact hbytes) hbase
  obtain ⟨v', w', hr, h2, h3, h4⟩ := key
  have hrun : (execOp a.eval o).run P w = .ok (.value v') w' := by
    unfold execOp
    simp only [hop]
    simp [resolve, (hf.ev hx).1, (hf.ev hy).1, den, invoke, builtin, hr]
  rw [hts] at h2
  refine wp_value_new hrun ⟨fun hc => (by rw [hnk] at hc; cases hc), ?_⟩
  obtain ⟨A', c', hv, _⟩ := ownsRow_shape h2
  refine h v' ⟨A', c', hv⟩ (h4.imp id fun e => ⟨_, e, hf.kp.size, hf.block_lt⟩) _ _ ?_
  exact (hf.rowSet (y := ⟨v', r.e, r.size, r.n + m, r.xs ++ news, r.new⟩) hR h2 h3 (fun h => h) h4).put (sv := .val v') (dok_cast hd rfl) trivial

/-- append of a row of ours (a literal, say), which is not wanted any more -/
theorem sst_append_row {tb : Tb} (ht : TbOk P tb) {l : List Oper} {i : Nat} {o : Oper} {rest : List (Nat × Oper)} {x y : Operand} {T : TypeId}
    (hop : o.op = .call { callee := .builtin .append, args := #[x, y], argTypes := #[T, T] }) (hg : guardV l s o.guard = some true) (hd : dok s o.dst = true) (hnk : nk.contains i = true)
    {e size by' : Nat} (hel : tb.el T = some (e, size, by')) (ix : Nat) {r : Rw} (hR : s.R[ix]? = some r) (he : r.e = e) (hs : r.size = size) (hx : evS s x = some (.val r.v))
    (iy : Nat) {q : Rw} (hRy : s.R[iy]? = some q) (hqs : q.size = size) {g c : Nat} (hqv : q.v = .slice (some ⟨g, 0, none⟩) q.n c) (hy : evS s y = some (.val q.v)) (hql : q.xs.length = q.n * size) (h1 : one' q.xs = true)
    (hbytes : (r.n + q.n) * by' ≤ 140737488355328)
    (h : ∀ v' , (∃ A' c', v' = .slice A' (r.n + q.n) c') → (v'.ownBlock = r.v.ownBlock ∨ ∃ g, v'.ownBlock = some g ∧ s.w.heap.size ≤ g ∧ ∀ k ∈ s.blocks, k < g) → SSeq P l.toArray nk Q rest ((s.rowSet ix r ⟨v', e, size, r.n + q.n, r.xs ++ q.xs, r.new⟩).put o.dst (.val v'))) :
    SSt P l nk Q ((i, o) :: rest) s := by
  rw [hqv] at hy
  refine sst_append_src ht hop hg hd hnk hel ix hR he hs hx hy q.xs hql h1 (.inr ⟨g, 0, rfl, fun w hw j u hj => ?_⟩) hbytes h
  have := (hw.row q (List.mem_of_getElem? hRy)).cells (g := g) (by rw [hqv]; rfl) j u hj
  rw [add_mk] at this
  exact this

/-- make([]T, n, n) -/
theorem sst_make {tb : Tb} (ht : TbOk P tb) {l : List Oper} {i : Nat} {o : Oper} {rest : List (Nat × Oper)} {x y : Operand} {T : TypeId}
    (hop : o.op = .makeSlice T x y) (hg : guardV l s o.guard = some true) (hd : dok s o.dst = true)
    {e size by' : Nat} (hel : tb.el T = some (e, size, by')) {zs : List Value} (hz : tb.zero e = some zs) (hzl : zs.length = size) {k k' : IntKind} (n m : Nat) (hx : evS s x = some (.val (.int k (n : Int)))) (hy : evS s y = some (.val (.int k' (m : Int))))
    (hnm : n ≤ m) (hbytes : m * by' ≤ 140737488355328)
    (h : ∀ g, s.w.heap.size ≤ g → (∀ k ∈ s.blocks, k < g) → SSeq P l.toArray nk Q rest ((s.addR ⟨.slice (some ⟨g, 0, none⟩) n m, e, size, n, zrep n zs, true⟩).put o.dst (.val (.slice (some ⟨g, 0, none⟩) n m)))) :
    SSt P l nk Q ((i, o) :: rest) s := by
  intro a w hf
  simp only [wpSeqK]
  rw [if_pos (guardV_eq hf hg)]
  refine .inr ⟨by rw [hop]; rfl, ?_⟩
  obtain ⟨hu, ti, z, hti, hs, hb, hz2, hz3, hsz, hby⟩ := ht.el T e size by' hel
  obtain ⟨ti', v, hti', hv, hvc⟩ := ht.zero e zs hz
  rw [hti] at hti'
  obtain rfl := Option.some.inj hti'
  have hmb : m ≤ 140737488355328 := Nat.le_trans (Nat.le_mul_of_pos_right _ hby) hbytes
  have hw1 : ∀ q : Nat, q ≤ 140737488355328 → IntKind.i64.wrap (q : Int) = q := by
    intro q hq
    exact IntWalk.i64_in _ (by omega)
  have hsz0 : v.cells.size = size := by rw [hvc]; simpa using hzl
  have hmade : ((Array.range (m * size)).map fun i => v.cells[i % v.cells.size]!) = (zrep m zs).toArray := by
    have := made_cells v.cells (by omega) m
    rw [hsz0] at this
    rw [hsz0, this, hvc]
  have hrun : (execOp a.eval o).run P w = .ok (.value (.slice (some ⟨w.heap.size, 0, none⟩) n m)) { w with heap := w.heap.push (.cells (zrep m zs).toArray e) } := by
    unfold execOp
    simp only [hop, (hf.ev hx).1, (hf.ev hy).1, den]
    have hwn := hw1 n (by omega)
    have hwm := hw1 m hmb
    simp [Instr.makeSlice, run_underlying hu, run_sizeOf hti, hs, asInt, asIntOf, typeInfo, hti, hb, hwn, hwm]
    have hbm : ((by' : Int) * (m : Int)) ≤ 140737488355328 := by
      have h := Int.ofNat_le.2 hbytes
      rw [Int.natCast_mul] at h
      rw [Int.mul_comm]
      exact h
    rw [if_neg (by omega)]
    split
    · rename_i h0
      have hm0 : m = 0 := by
        rcases Nat.mul_eq_zero.1 h0 with h | h
        · exact h
        · omega
      subst hm0
      have he : (Array.map (fun x => (default : Value)) (Array.range (0 * size))) = (zrep 0 zs).toArray := by simp [zrep]
      rw [he]
      simp [newRow, newObj]
      rfl
    · have hzv : (zeroValue e).run P w = .ok v w := by simp [zeroValue, typeInfo, hti, hv]
      rw [hzv]
      simp only [Result.andThen_ok]
      rw [hmade]
      simp [newRow, newObj]
      rfl
  refine wp_value_new hrun ⟨fun _ => Kp.alloc w _, h w.heap.size hf.kp.size hf.block_lt _ _ ?_⟩
  have hml : maxLen = 9223372036854775807 := rfl
  have hzrep : (zrep m zs).length = m * size := by rw [zrep_length, hzl]
  have hadd := hf.addR e size n m (zrep m zs).toArray (by simpa using hzrep) hnm (by rw [hml]; omega)
  have htk : (zrep m zs).toArray.toList.take (n * size) = zrep n zs := by
    have key : ∀ (n m : Nat), n ≤ m → (zrep m zs).take (n * size) = zrep n zs := by
      intro n
      induction n with
      | zero => intro m _; simp [zrep]
      | succ n ih =>
        intro m hm
        obtain ⟨m', rfl⟩ : ∃ m', m = m' + 1 := ⟨m - 1, by omega⟩
        simp only [zrep]
        rw [show (n + 1) * size = zs.length + n * size from by rw [hzl, Nat.add_mul]; omega, List.take_length_add_append, ih m' (by omega)]
    simpa using key n m hnm
  rw [htk] at hadd
  exact hadd.put (d := o.dst) (sv := .val (.slice (some ⟨w.heap.size, 0, none⟩) n m)) (dok_cast hd rfl) trivial

/-- A store into a row. -/
theorem Fits.rowStore {a : Act} {w : World} (hf : Fits s a w) {ix : Nat} {r : Rw} (hR : s.R[ix]? = some r) {g : Nat} (hg : r.v.ownBlock = some g) (off : Nat) (vs : List Value) (hle : off + vs.length ≤ r.xs.length) :
    ∃ cur : List Value, w.heap[g]? = some (.cells cur.toArray r.e (0, 0)) ∧ off + vs.length ≤ cur.length ∧
      Fits (s.rowSet ix r { r with xs := putL r.xs off vs }) a (w.setRow g (putL cur off vs).toArray) := by
  have hown := hf.row ix r hR
  have hrow := hown
  rcases hrow.2 with ⟨h1, h2⟩ | ⟨g', cap, cur, hv, hb, hh, hnc, hcm, hcs, htake⟩
  · rw [h1] at hg; simp [Value.ownBlock] at hg
  · have hgg : g' = g := by rw [hv] at hg; simpa [Value.ownBlock] using hg
    subst hgg
    have hxl : r.xs.length ≤ cur.size := by
      rw [← htake, List.length_take, Array.length_toList]; exact Nat.min_le_right _ _
    refine ⟨cur.toList, by simpa using hh, by simp; omega, ?_⟩
    have hown' : (w.setRow g' (putL cur.toList off vs).toArray).ownsRow s.base r.e r.size r.v r.n (putL r.xs off vs) := by
      refine ⟨by rw [putL_length]; exact hown.1, .inr ⟨g', cap, _, hv, hb, setRow_heap w g' cur _ r.e _ hh, hnc, hcm, by simp [putL_length, hcs], ?_⟩⟩
      have hn : r.n * r.size = r.xs.length := hown.1.symm
      rw [hn] at htake ⊢
      rw [putL_append vs off cur.toList (by simp; omega), putL_append vs off r.xs hle]
      simp only []
      have h1 : cur.toList = r.xs ++ cur.toList.drop r.xs.length := by
        conv => lhs; rw [← List.take_append_drop r.xs.length cur.toList]
        rw [htake]
      rw [h1]
      have e1 : (r.xs ++ cur.toList.drop r.xs.length).take off = r.xs.take off := by
        rw [List.take_append_of_le_length (by omega)]
      have e2 : (r.xs ++ cur.toList.drop r.xs.length).drop (off + vs.length) = r.xs.drop (off + vs.length) ++ cur.toList.drop r.xs.length := by
        rw [List.drop_append_of_le_length hle]
      rw [e1, e2]
      have e3 : (r.xs.take off ++ vs ++ r.xs.drop (off + vs.length)).length = r.xs.length := by
        simp; omega
      rw [← List.append_assoc, ← e3, List.take_left']
      rw [e3]
    refine hf.rowSet hR hown' ⟨rfl, rfl, rfl, by rw [storeSize]; exact Nat.le_refl _, fun k _ hk => setRow_other w g' k _ (fun e => hk (by rw [e, hg]))⟩ (fun h => h) (.inl rfl)

theorem sst_rowStore {tb : Tb} (ht : TbOk P tb) {l : List Oper} {i : Nat} {o : Oper} {rest : List (Nat × Oper)} {T : TypeId} {x y : Operand} (hop : o.op = .store T x y) (hdst : o.dst = none)
    (hg : guardV l s o.guard = some true) (hnk : nk.contains i = true)
    {g off : Nat} (hx : evS s x = some (.val (.pointer (some ⟨g, off, none⟩)))) (ix : Nat) {r : Rw} (hR : s.R[ix]? = some r) (hgr : r.v.ownBlock = some g) {ag : Bool} {n : Nat} (hsz : tb.sz T = some (ag, n)) {sv : SV} (hy : evS s y = some sv)
    {vs : List Value} (hvs : (den s.L sv).cells.toList = vs) (hl : vs.length = n) (hle : off + n ≤ r.xs.length) (h1 : one' vs = true)
    (h : SSeq P l.toArray nk Q rest (s.rowSet ix r { r with xs := putL r.xs off vs })) : SSt P l nk Q ((i, o) :: rest) s := by
  intro a w hf
  simp only [wpSeqK]
  rw [if_pos (guardV_eq hf hg)]
  refine .inr ⟨by rw [hop]; rfl, ?_⟩
  subst hvs
  obtain ⟨cur, hc1, hc2, hfit⟩ := hf.rowStore hR hgr off (den s.L sv).cells.toList (by omega)
  have hst := run_storeAt (off := off) ht hsz hc1 (v := den s.L sv) hl (by omega) (fun u hu => (List.all_eq_true.1 h1) u hu)
  have hrun : (execOp a.eval o).run P w = .ok .skip (w.setRow g (putL cur off (den s.L sv).cells.toList).toArray) := by
    unfold execOp
    have hxe : den s.L (.val (.pointer (some ⟨g, off, none⟩))) = .pointer (some ⟨g, off, none⟩) := rfl
    simp only [hop, (hf.ev hx).1, (hf.ev hy).1, hxe]
    simp [hst]
  refine wp_skip_new hrun ⟨fun hc => (by rw [hnk] at hc; cases hc), ?_⟩
  rw [hdst]
  exact h _ _ hfit

/-! ### Knowing less; loops -/

def subE : List (Nat × SV) → List (Nat × SV) → Prop
  | [], _ => True
  | (t, sv) :: r, e => look e t = some sv ∧ subE r e

theorem subE_look {e : List (Nat × SV)} : ∀ {e' : List (Nat × SV)}, subE e' e → ∀ t sv, look e' t = some sv → look e t = some sv
  | [], _, t, sv, h => by simp [look] at h
  | (k, u) :: r, hs, t, sv, h => by
    simp only [look] at h
    split at h
    · rename_i hk
      subst hk
      obtain rfl := Option.some.inj h
      exact hs.1
    · exact subE_look hs.2 t sv h

/-- s' knows no more than s. -/
structure Wk (s s' : Sym) : Prop where
  n : s'.n = s.n
  base : s'.base = s.base
  w : s'.w = s.w
  D : ∀ k, s.D k → s'.D k
  L : ∃ L2, s.L = s'.L ++ L2
  R : s'.R.Sublist s.R
  env : subE s'.env s.env
  wf : ∀ p ∈ s'.env, match p.2 with | .loc i _ => i < s'.L.length | _ => True

theorem look_mem : ∀ {e : List (Nat × SV)} {t : Nat} {sv : SV}, look e t = some sv → (t, sv) ∈ e
  | [], t, sv, h => by simp [look] at h
  | (k, u) :: r, t, sv, h => by
    simp only [look] at h
    split at h
    · rename_i hk
      subst hk
      obtain rfl := Option.some.inj h
      exact List.mem_cons_self
    · exact List.mem_cons_of_mem _ (look_mem h)

theorem bxb_app2 : ∀ (L L2 : List Bx) (i : Nat), i < L.length → bxb (L ++ L2) i = bxb L i
  | [], L2, i, h => by simp at h
  | x :: L, L2, 0, h => rfl
  | x :: L, L2, i + 1, h => bxb_app2 L L2 i (by simpa using h)

theorem Fits.weak {s' : Sym} {a : Act} {w : World} (hf : Fits s a w) (hw : Wk s s') : Fits s' a w := by
  obtain ⟨L2, hL2⟩ := hw.L
  have hLget : ∀ (i : Nat) (bx : Bx), s'.L[i]? = some bx → s.L[i]? = some bx := by
    intro i bx hi
    rw [hL2, List.getElem?_append_left (List.getElem?_eq_some_iff.1 hi).1]
    exact hi
  have hwf : ∀ t i off, look s'.env t = some (.loc i off) → i < s'.L.length := fun t i off h => hw.wf _ (look_mem h)
  refine ⟨hf.size.trans hw.n.symm, hf.defers, ?_, hwf, ?_, ?_, ?_, ?_, ?_, ?_, ?_⟩
  · intro t sv ht
    rw [hf.env t sv (subE_look hw.env t sv ht)]
    cases sv with
    | val v => rfl
    | sb b => rfl
    | loc i off => simp only [den]; rw [hL2, bxb_app2 _ _ _ (hwf t i off ht)]
  · rw [hw.w]; exact hf.kp.mono fun k _ h => hw.D k h
  · exact fun i bx hi => hf.loc i bx (hLget i bx hi)
  · intro i r hi
    rw [hw.base]
    have hm : r ∈ s.R := hw.R.subset (List.mem_of_getElem? hi)
    exact hf.at.row r hm
  · have hd := hf.dist
    simp only [Sym.blocks] at hd ⊢
    refine List.Nodup.sublist ?_ hd
    refine List.Sublist.append (hw.R.filterMap _) ?_
    rw [hL2, List.map_append]
    exact List.sublist_append_left _ _
  · rw [hw.base, hw.w]
    exact ⟨hf.lb.1, fun i bx hi => hf.lb.2 i bx (hLget i bx hi)⟩
  · rw [hw.w]
    exact fun i bx hi hn => hf.fresh i bx (hLget i bx hi) hn
  · rw [hw.w]
    intro i r hi hn g hg
    have hm : r ∈ s.R := hw.R.subset (List.mem_of_getElem? hi)
    obtain ⟨j, hj, rfl⟩ := List.getElem_of_mem hm
    exact hf.rfresh j _ (by rw [List.getElem?_eq_getElem hj]) hn g hg

theorem swp_weak {c : Code} (s' : Sym) (hw : Wk s s') (h : SWp P c Q s') : SWp P c Q s := fun a w hf => h a w (hf.weak hw)
theorem sq_weak {e : Exit} (s' : Sym) (hw : Wk s s') (h : SQ Q e s') : SQ Q e s := fun a w hf => h a w (hf.weak hw)
theorem sseq_weak {l : List (Nat × Oper)} (s' : Sym) (hw : Wk s s') (h : SSeq P ops nk Q l s') : SSeq P ops nk Q l s := fun a w hf => h a w (hf.weak hw)

/-- The world is taken anew. -/
theorem swp_rebase {c : Code} (h : ∀ w, At s w → SWp P c Q (s.rebase w)) : SWp P c Q s := fun a w hf => h w hf.at a w hf.rebase
theorem sq_rebase {e : Exit} (h : ∀ w, At s w → SQ Q e (s.rebase w)) : SQ Q e s := fun a w hf => h w hf.at a w hf.rebase
theorem sseq_rebase {l : List (Nat × Oper)} (h : ∀ w, At s w → SSeq P ops nk Q l (s.rebase w)) : SSeq P ops nk Q l s := fun a w hf => h w hf.at a w hf.rebase

/-- What a round hands on. -/
def Next (X : Type) (Inv : X → Prop) (St : X → Sym) (μ : X → Nat) (m : Nat) : Act → World → Prop := fun a w => ∃ x, Inv x ∧ μ x < m ∧ Fits (St x) a w

theorem swp_loop {X : Type} {c : Code} (Inv : X → Prop) (St : X → Sym) (μ : X → Nat)
    (h0 : ∀ w, At s w → ∃ x, Inv x ∧ Wk (s.rebase w) (St x))
    (round : ∀ x, Inv x → SWp P c (Exit.then (Next X Inv St μ (μ x)) Q) (St x)) : SWp P (.loop c) Q s := by
  intro a w hf
  obtain ⟨x0, hx0, hw0⟩ := h0 w hf.at
  refine wp_loop_ghost (fun n a w => ∃ x, Inv x ∧ μ x = n ∧ Fits (St x) a w) (μ x0) ⟨x0, hx0, rfl, hf.rebase.weak hw0⟩ ?_
  rintro n a' w' ⟨x, hx, rfl, hfx⟩
  refine wp_mono (round x hx a' w' hfx) ?_
  intro e a2 w2 hq
  cases e with
  | normal =>
    obtain ⟨x', h1, h2, h3⟩ := hq
    exact ⟨μ x', h2, x', h1, rfl, h3⟩
  | exit id => exact hq
  | goto l => exact hq
  | ret => exact hq
  | panic ch => exact hq
  | outgrown => exact hq

theorem sq_next {X : Type} {Inv : X → Prop} {St : X → Sym} {μ : X → Nat} {m : Nat} (h : ∀ w, At s w → ∃ x, Inv x ∧ μ x < m ∧ Wk (s.rebase w) (St x)) :
    SQ (Exit.then (Next X Inv St μ m) Q) .normal s := by
  intro a w hf
  obtain ⟨x, h1, h2, h3⟩ := h w hf.at
  exact ⟨x, h1, h2, hf.rebase.weak h3⟩

/-- Ways that meet: each comes to a state that knows this much. -/
def Meet (s' : Sym) : Exit → Act → World → Prop
  | .normal, a, w => Fits s' a w
  | _, _, _ => False

theorem swp_meet {x y : Code} (s' : Sym) (hx : SWp P x (Meet s') s) (hy : SWp P y Q s') : SWp P (.seq x y) Q s :=
  fun a w hf => wp_seq (wp_mono (hx a w hf) fun e a' w' h => by
    cases e with
    | normal => exact hy a' w' h
    | _ => exact h.elim)

theorem sq_meet {s' : Sym} (hw : Wk s s') : SQ (Meet s') .normal s := fun a w hf => hf.weak hw

theorem sst_nilRow {l : List Oper} {l1 : List (Nat × Oper)} (e size : Nat) (h : SSeq P l.toArray nk Q l1 (s.addR ⟨.slice none 0 0, e, size, 0, [], true⟩)) : SSt P l nk Q l1 s :=
  fun a w hf => h a w (hf.nilRow e size)
theorem sst_weak {l : List Oper} {l1 : List (Nat × Oper)} (s' : Sym) (hw : Wk s s') (h : SSeq P l.toArray nk Q l1 s') : SSt P l nk Q l1 s := fun a w hf => h a w (hf.weak hw)
theorem sst_rebase {l : List Oper} {l1 : List (Nat × Oper)} (h : ∀ w, At s w → SSeq P l.toArray nk Q l1 (s.rebase w)) : SSt P l nk Q l1 s := fun a w hf => h w hf.at a w hf.rebase

/-- The state in which slot t is known to hold this Bool. -/
def Sym.know (s : Sym) (t : Nat) (b : Bool) : Sym := { s with env := (t, .val (.bool b)) :: s.env }

theorem Fits.know {a : Act} {w : World} (hf : Fits s a w) {t : Nat} {b : Bool} (ht : look s.env t = some (.sb b)) : Fits (s.know t b) a w := by
  refine ⟨hf.size, hf.defers, ?_, ?_, hf.kp, hf.loc, hf.row, hf.dist, hf.lb, hf.fresh, hf.rfresh⟩
  · intro t' sv ht'
    simp only [Sym.know, look] at ht'
    split at ht'
    · rename_i htt
      subst htt
      obtain rfl := Option.some.inj ht'
      have h3 := hf.env t _ ht
      exact h3
    · exact hf.env t' sv ht'
  · intro t' i off ht'
    simp only [Sym.know, look] at ht'
    split at ht'
    · cases ht'
    · exact hf.wf t' i off ht'

theorem swp_if {t : Nat} {x y : Code} {b : Bool} (hc : look s.env t = some (.sb b)) (ht : b = true → SWp P x Q (s.know t true)) (hf : b = false → SWp P y Q (s.know t false)) : SWp P (.cond (.tmp t) x y) Q s :=
  fun a w hfit => wp_cond_split (hfit.ev (x := .tmp t) hc).1 (fun h => by subst h; exact ht rfl a w (hfit.know hc)) (fun h => by subst h; exact hf rfl a w (hfit.know hc))
end
end Go.Fw
