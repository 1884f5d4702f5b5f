/- Helping lemmas for the cards of this seat's laws, of the texts: Fw10, Tab, TabS, Fw11, Fw13, Au, V1. They state no law of their own. -/
import Derived.Test.YtmpngkngkoigmaaGreatDoorKitB
import Derived.Test.YtmpngkngkoigmaaGreatDoorProg
import Derived.Lib.Bytealg
set_option linter.unusedVariables false
set_option linter.unusedSimpArgs false
namespace Go.Fw
open Go

/-! ### Tables, and the check that they are the program's -/

structure Rows where
  structs : List (Nat × List (Nat × Nat))
  sizes : List (Nat × Bool × Nat)
  slices : List (Nat × Nat × Nat × Nat)
  zeros : List (Nat × List Value)
  bools : List Nat
  strs : List Nat
  ints : List (Nat × IntKind)
  nofn : List Nat
  nfn : Nat

def lookL {α : Type} : List (Nat × α) → Nat → Option α
  | [], _ => none
  | (k, v) :: r, t => if k = t then some v else lookL r t

theorem lookL_mem {α : Type} : ∀ {l : List (Nat × α)} {t : Nat} {v : α}, lookL l t = some v → (t, v) ∈ l
  | [], t, v, h => by simp [lookL] at h
  | (k, u) :: r, t, v, h => by
    simp only [lookL] at h
    split at h
    · rename_i hk
      subst hk
      obtain rfl := Option.some.inj h
      exact List.mem_cons_self
    · exact List.mem_cons_of_mem _ (lookL_mem h)

def memN : List Nat → Nat → Bool
  | [], _ => false
  | k :: r, t => if k = t then true else memN r t

theorem memN_mem : ∀ {l : List Nat} {t : Nat}, memN l t = true → t ∈ l
  | [], t, h => by simp [memN] at h
  | k :: r, t, h => by
    simp only [memN] at h
    split at h
    · rename_i hk
      subst hk
      exact List.mem_cons_self
    · exact List.mem_cons_of_mem _ (memN_mem h)

def getP : List (Nat × Nat) → Nat → Option Nat
  | [], _ => none
  | (o, _) :: _, 0 => some o
  | _ :: r, i + 1 => getP r i

theorem getP_eq : ∀ (l : List (Nat × Nat)) (i : Nat), getP l i = (l[i]?).map (·.1)
  | [], i => by simp [getP]
  | (o, _) :: _, 0 => by simp [getP]
  | _ :: r, i + 1 => by simp [getP, getP_eq r i]

def tbOf (r : Rows) : Tb where
  fo T j := match lookL r.structs T with | some ps => getP ps j | none => none
  sz T := lookL r.sizes T
  el T := lookL r.slices T
  zero T := lookL r.zeros T
  pl T := lookL r.structs T
  bool T := memN r.bools T
  str T := memN r.strs T
  intk T := lookL r.ints T
  fn f := decide (f < r.nfn) && !memN r.nofn f

def eqV : Value → Value → Bool
  | .int k n, .int k' m => decide (k = k') && decide (n = m)
  | .bool a, .bool b => a == b
  | .string a, .string b => a.data.toList == b.data.toList
  | .slice none a b, .slice none c d => decide (a = c) && decide (b = d)
  | .pointer none, .pointer none => true
  | .map none, .map none => true
  | .chan none, .chan none => true
  | .nilFunc, .nilFunc => true
  | .nilIface, .nilIface => true
  | _, _ => false

theorem eqV_eq {a b : Value} (h : eqV a b = true) : a = b := by
  unfold eqV at h
  split at h
  · simp at h; obtain ⟨rfl, rfl⟩ := h; rfl
  · simp at h; subst h; rfl
  · rename_i a b
    have hd : a.data = b.data := by simpa using h
    cases a; cases b
    simp only at hd
    subst hd; rfl
  · simp at h; obtain ⟨rfl, rfl⟩ := h; rfl
  all_goals first | rfl | cases h

def eqVs : List Value → List Value → Bool
  | [], [] => true
  | a :: x, b :: y => eqV a b && eqVs x y
  | _, _ => false

theorem eqVs_eq : ∀ {a b : List Value}, eqVs a b = true → a = b
  | [], [], _ => rfl
  | a :: x, b :: y, h => by simp only [eqVs, Bool.and_eq_true] at h; rw [eqV_eq h.1, eqVs_eq h.2]
  | [], _ :: _, h => by cases h
  | _ :: _, [], h => by cases h

def chkStruct (P : Program) (x : Nat × List (Nat × Nat)) : Bool :=
  match P.underlying x.1 with
  | some (.struct fs) => fs.toList.map (fun f => (f.offset, P.cellsOf f.type)) == x.2 && fs.toList.all (fun f => match P.info? f.type with | some i => i.size != 0 | none => false)
  | _ => false

def chkSize (P : Program) (x : Nat × Bool × Nat) : Bool :=
  match P.underlying x.1, P.info? x.1 with
  | some d, some i => i.size == x.2.2 && aggD d == x.2.1
  | _, _ => false

def chkSlice (P : Program) (x : Nat × Nat × Nat × Nat) : Bool :=
  match P.underlying x.1, P.info? x.2.1 with
  | some (.slice e), some i => e == x.2.1 && i.size == x.2.2.1 && i.bytes == x.2.2.2 && (match i.zero with | some z => z.cells.size == x.2.2.1 | none => false) && decide (0 < x.2.2.1) && decide (0 < x.2.2.2)
  | _, _ => false

def chkZero (P : Program) (x : Nat × List Value) : Bool :=
  match P.info? x.1 with
  | some i => match i.zero with | some z => eqVs z.cells.toList x.2 | none => false
  | none => false

def chkBool (P : Program) (t : Nat) : Bool := match P.underlying t with | some .bool => true | _ => false
def chkStr (P : Program) (t : Nat) : Bool := match P.underlying t with | some .string => true | _ => false
def chkInt (P : Program) (x : Nat × IntKind) : Bool := match P.underlying x.1 with | some (.int k) => decide (k = x.2) | _ => false
def chkFn (P : Program) (r : Rows) (f : Nat) : Bool := memN r.nofn f || match P.funcs[f]? with | some fn => !(fn.name == "runtime.NumGoroutine") && fn.body.isSome | none => false

structure Checked (P : Program) (r : Rows) : Prop where
  structs : r.structs.all (chkStruct P) = true
  sizes : r.sizes.all (chkSize P) = true
  slices : r.slices.all (chkSlice P) = true
  zeros : r.zeros.all (chkZero P) = true
  bools : r.bools.all (chkBool P) = true
  strs : r.strs.all (chkStr P) = true
  ints : r.ints.all (chkInt P) = true
  fns : (List.range r.nfn).all (chkFn P r) = true

theorem tbOf_ok {P : Program} {r : Rows} (h : Checked P r) : TbOk P (tbOf r) := by
  refine ⟨?_, ?_, ?_, ?_, ?_, ?_, ?_, ?_, ?_⟩
  · intro T j o hf
    simp only [tbOf] at hf
    split at hf
    · rename_i ps hps
      have hc := List.all_eq_true.1 h.structs _ (lookL_mem hps)
      unfold chkStruct at hc
      split at hc
      · rename_i fs hfs
        simp only [Bool.and_eq_true, beq_iff_eq] at hc
        rw [getP_eq, ← hc.1] at hf
        simp only [List.getElem?_map, Option.map_map] at hf
        obtain ⟨f, hf1, hf2⟩ := Option.map_eq_some_iff.1 hf
        have hall := List.all_eq_true.1 hc.2 f (List.mem_of_getElem? hf1)
        split at hall
        · rename_i i hi
          exact ⟨fs, f, i, hfs, by simpa using hf1, hf2, hi, by simpa using hall⟩
        · cases hall
      · cases hc
    · cases hf
  · intro T b n hf
    have hc := List.all_eq_true.1 h.sizes _ (lookL_mem hf)
    unfold chkSize at hc
    split at hc
    · rename_i d i hd hi
      simp only [Bool.and_eq_true, beq_iff_eq] at hc
      exact ⟨d, i, hd, hi, hc.1, hc.2⟩
    · cases hc
  · intro T e n m hf
    have hc := List.all_eq_true.1 h.slices _ (lookL_mem hf)
    unfold chkSlice at hc
    split at hc
    · rename_i e' i hd hi
      simp only [Bool.and_eq_true, beq_iff_eq, decide_eq_true_eq] at hc
      obtain ⟨⟨⟨⟨⟨h1, h2⟩, h3⟩, h4⟩, h5⟩, h6⟩ := hc
      subst h1
      split at h4
      · rename_i z hz
        exact ⟨hd, i, z, hi, h2, h3, hz, by simpa using h4, h5, h6⟩
      · cases h4
    · cases hc
  · intro T zs hf
    have hc := List.all_eq_true.1 h.zeros _ (lookL_mem hf)
    unfold chkZero at hc
    split at hc
    · rename_i i hi
      split at hc
      · rename_i z hz
        exact ⟨i, z, hi, hz, by have := eqVs_eq hc; simp only at this; rw [← this]⟩
      · cases hc
    · cases hc
  · intro T ps hf
    have hc := List.all_eq_true.1 h.structs _ (lookL_mem hf)
    unfold chkStruct at hc
    split at hc
    · rename_i fs hfs
      simp only [Bool.and_eq_true, beq_iff_eq] at hc
      refine ⟨fs, hfs, hc.1.symm, fun f hm => ?_⟩
      have hall := List.all_eq_true.1 hc.2 f hm
      split at hall
      · rename_i i hi; rw [hi]; rfl
      · cases hall
    · cases hc
  · intro T hf
    have hc := List.all_eq_true.1 h.bools _ (memN_mem hf)
    unfold chkBool at hc
    split at hc
    · assumption
    · cases hc
  · intro T hf
    have hc := List.all_eq_true.1 h.strs _ (memN_mem hf)
    unfold chkStr at hc
    split at hc
    · assumption
    · cases hc
  · intro T k hf
    have hc := List.all_eq_true.1 h.ints _ (lookL_mem hf)
    unfold chkInt at hc
    split at hc
    · rename_i k' hk
      simp only [decide_eq_true_eq] at hc
      rw [← hc]; exact hk
    · cases hc
  · intro f hf
    simp only [tbOf, Bool.and_eq_true, decide_eq_true_eq, Bool.not_eq_true'] at hf
    have hc := List.all_eq_true.1 h.fns f (List.mem_range.2 hf.1)
    unfold chkFn at hc
    rw [hf.2, Bool.false_or] at hc
    split at hc
    · rename_i fn hfn
      simp only [Bool.and_eq_true, Bool.not_eq_true'] at hc
      exact ⟨fn, hfn, hc.1, hc.2⟩
    · cases hc
end Go.Fw

set_option maxRecDepth 100000
namespace Go.Fw
open Go
/-- The rows of the program's table that the walks use. -/
def rows : Rows where
  structs := [(26, [(0, 1), (1, 1), (2, 1), (3, 1), (4, 1)]),
    (114, [(0, 1), (1, 5)]),
    (35, [(0, 1), (1, 1), (2, 5), (7, 1), (8, 1), (9, 1), (10, 3), (13, 11), (24, 1)]),
    (32, [(0, 1), (1, 1), (2, 1), (3, 1), (4, 5), (9, 1), (10, 1)]),
    (29, [(0, 1), (1, 1), (2, 1)]),
    (40, [(0, 1), (1, 5), (6, 5), (11, 5)]),
    (51, [(0, 1), (1, 1), (2, 1), (3, 1), (4, 1)]),
    (70, [(0, 1), (1, 1), (2, 1), (3, 1), (4, 1), (5, 1), (6, 5), (11, 5), (16, 5)]),
    (96, [(0, 1), (1, 1), (2, 21), (23, 1), (24, 1)]),
    (102, [(0, 1), (1, 1), (2, 5), (7, 5), (12, 5), (17, 25), (42, 31), (73, 1), (74, 1), (75, 1), (76, 1), (77, 1)]),
    (104, [(0, 1), (1, 1), (2, 1), (3, 1), (4, 78)]),
    (125, [(0, 1), (1, 1)]),
    (203, [(0, 1), (1, 5), (6, 1)]),
    (214, [(0, 2), (2, 2)]),
    (220, [(0, 1), (1, 5)]),
    (224, [(0, 1), (1, 1)]),
    (231, [(0, 1), (1, 1)]),
    (274, [(0, 1), (1, 1)]),
    (94, [(0, 1), (1, 1), (2, 5), (7, 1), (8, 5), (13, 1), (14, 1), (15, 1), (16, 1), (17, 1), (18, 1), (19, 1), (20, 1)]),
    (99, [(0, 1), (1, 1), (2, 1), (3, 1), (4, 1), (5, 1), (6, 25)])]
  sizes := [(26, true, 5),
    (114, true, 6),
    (35, true, 25),
    (3, false, 1),
    (4, false, 1),
    (9, false, 1),
    (22, false, 1),
    (23, false, 1),
    (24, false, 1),
    (33, false, 1),
    (32, true, 11),
    (29, true, 3),
    (40, true, 16),
    (111, false, 1),
    (5, false, 1),
    (71, false, 1),
    (21, false, 1),
    (27, false, 1),
    (30, false, 1),
    (51, true, 5),
    (63, false, 1),
    (66, false, 1),
    (70, true, 21),
    (79, false, 1),
    (80, false, 1),
    (96, true, 25),
    (100, false, 1),
    (102, true, 78),
    (104, true, 82),
    (106, false, 1),
    (108, false, 1),
    (125, true, 2),
    (136, false, 1),
    (163, false, 1),
    (164, true, 4),
    (195, false, 1),
    (203, true, 7),
    (214, true, 4),
    (218, false, 1),
    (220, true, 6),
    (224, true, 2),
    (225, true, 76),
    (229, false, 1),
    (231, true, 2),
    (246, false, 1),
    (254, false, 1),
    (260, true, 256),
    (269, false, 1),
    (272, true, 256),
    (274, true, 2),
    (275, true, 32),
    (294, false, 1),
    (298, true, 20),
    (301, false, 1),
    (49, false, 1),
    (90, false, 1),
    (94, true, 21),
    (99, true, 31)]
  slices := [(22, 9, 1, 16),
    (23, 26, 5, 80),
    (24, 114, 6, 96),
    (33, 35, 25, 400),
    (27, 125, 2, 16),
    (30, 32, 11, 184),
    (63, 104, 82, 1208),
    (66, 70, 21, 296),
    (79, 66, 1, 24),
    (80, 3, 1, 8),
    (100, 102, 78, 1168),
    (106, 63, 1, 24),
    (136, 5, 1, 1),
    (218, 220, 6, 96),
    (246, 4, 1, 1),
    (49, 337, 87, 1472),
    (90, 99, 31, 456)]
  zeros := [(26, [.int .i64 0, .int .i64 0, .string ⟨#[]⟩, .slice none 0 0, .slice none 0 0]),
    (114, [.string ⟨#[]⟩, .int .i64 0, .int .i64 0, .string ⟨#[]⟩, .slice none 0 0, .slice none 0 0]),
    (35, [.int .i64 0, .slice none 0 0, .int .i64 0, .int .i64 0, .string ⟨#[]⟩, .slice none 0 0, .slice none 0 0, .slice none 0 0, .int .i64 0, .int .i64 0, .int .i64 0, .slice none 0 0, .int .i64 0, .int .i64 0, .slice none 0 0, .string ⟨#[]⟩, .slice none 0 0, .int .i64 0, .int .i64 0, .string ⟨#[]⟩, .slice none 0 0, .slice none 0 0, .int .i64 0, .slice none 0 0, .slice none 0 0]),
    (3, [.int .i64 0]),
    (4, [.bool false]),
    (9, [.string ⟨#[]⟩]),
    (22, [.slice none 0 0]),
    (23, [.slice none 0 0]),
    (24, [.slice none 0 0]),
    (33, [.slice none 0 0]),
    (32, [.int .i64 0, .slice none 0 0, .string ⟨#[]⟩, .slice none 0 0, .int .i64 0, .int .i64 0, .string ⟨#[]⟩, .slice none 0 0, .slice none 0 0, .int .i64 0, .slice none 0 0]),
    (29, [.int .i64 0, .slice none 0 0, .int .i64 0]),
    (40, [.slice none 0 0, .int .i64 0, .int .i64 0, .string ⟨#[]⟩, .slice none 0 0, .slice none 0 0, .int .i64 0, .int .i64 0, .string ⟨#[]⟩, .slice none 0 0, .slice none 0 0, .int .i64 0, .int .i64 0, .string ⟨#[]⟩, .slice none 0 0, .slice none 0 0]),
    (111, [.nilFunc]),
    (5, [.int .u8 0]),
    (71, [.int .i64 0]),
    (21, [.int .i32 0]),
    (27, [.slice none 0 0]),
    (30, [.slice none 0 0]),
    (51, [.string ⟨#[]⟩, .slice none 0 0, .slice none 0 0, .string ⟨#[]⟩, .slice none 0 0]),
    (63, [.slice none 0 0]),
    (66, [.slice none 0 0]),
    (70, [.int .i64 0, .int .i64 0, .int .i64 0, .int .i64 0, .int .i64 0, .string ⟨#[]⟩, .int .i64 0, .int .i64 0, .string ⟨#[]⟩, .slice none 0 0, .slice none 0 0, .int .i64 0, .int .i64 0, .string ⟨#[]⟩, .slice none 0 0, .slice none 0 0, .int .i64 0, .int .i64 0, .string ⟨#[]⟩, .slice none 0 0, .slice none 0 0]),
    (79, [.slice none 0 0]),
    (80, [.slice none 0 0]),
    (96, [.string ⟨#[]⟩, .slice none 0 0, .int .i64 0, .bool false, .int .i64 0, .int .i64 0, .string ⟨#[]⟩, .slice none 0 0, .slice none 0 0, .bool false, .int .i64 0, .int .i64 0, .string ⟨#[]⟩, .slice none 0 0, .slice none 0 0, .slice none 0 0, .int .i64 0, .int .i64 0, .slice none 0 0, .slice none 0 0, .bool false, .slice none 0 0, .bool false, .int .i64 0, .int .i64 0]),
    (100, [.slice none 0 0]),
    (102, [.int .i64 0, .string ⟨#[]⟩, .int .i64 0, .int .i64 0, .string ⟨#[]⟩, .slice none 0 0, .slice none 0 0, .int .i64 0, .int .i64 0, .string ⟨#[]⟩, .slice none 0 0, .slice none 0 0, .int .i64 0, .int .i64 0, .string ⟨#[]⟩, .slice none 0 0, .slice none 0 0, .string ⟨#[]⟩, .slice none 0 0, .int .i64 0, .bool false, .int .i64 0, .int .i64 0, .string ⟨#[]⟩, .slice none 0 0, .slice none 0 0, .bool false, .int .i64 0, .int .i64 0, .string ⟨#[]⟩, .slice none 0 0, .slice none 0 0, .slice none 0 0, .int .i64 0, .int .i64 0, .slice none 0 0, .slice none 0 0, .bool false, .slice none 0 0, .bool false, .int .i64 0, .int .i64 0, .string ⟨#[]⟩, .int .i64 0, .slice none 0 0, .bool false, .bool false, .bool false, .int .i64 0, .slice none 0 0, .int .i64 0, .int .i64 0, .string ⟨#[]⟩, .slice none 0 0, .slice none 0 0, .slice none 0 0, .int .i64 0, .int .i64 0, .int .i64 0, .slice none 0 0, .int .i64 0, .int .i64 0, .slice none 0 0, .string ⟨#[]⟩, .slice none 0 0, .int .i64 0, .int .i64 0, .string ⟨#[]⟩, .slice none 0 0, .slice none 0 0, .int .i64 0, .slice none 0 0, .slice none 0 0, .string ⟨#[]⟩, .int .i64 0, .slice none 0 0, .slice none 0 0, .bool false]),
    (104, [.int .i64 0, .int .i64 0, .string ⟨#[]⟩, .int .i64 0, .int .i64 0, .string ⟨#[]⟩, .int .i64 0, .int .i64 0, .string ⟨#[]⟩, .slice none 0 0, .slice none 0 0, .int .i64 0, .int .i64 0, .string ⟨#[]⟩, .slice none 0 0, .slice none 0 0, .int .i64 0, .int .i64 0, .string ⟨#[]⟩, .slice none 0 0, .slice none 0 0, .string ⟨#[]⟩, .slice none 0 0, .int .i64 0, .bool false, .int .i64 0, .int .i64 0, .string ⟨#[]⟩, .slice none 0 0, .slice none 0 0, .bool false, .int .i64 0, .int .i64 0, .string ⟨#[]⟩, .slice none 0 0, .slice none 0 0, .slice none 0 0, .int .i64 0, .int .i64 0, .slice none 0 0, .slice none 0 0, .bool false, .slice none 0 0, .bool false, .int .i64 0, .int .i64 0, .string ⟨#[]⟩, .int .i64 0, .slice none 0 0, .bool false, .bool false, .bool false, .int .i64 0, .slice none 0 0, .int .i64 0, .int .i64 0, .string ⟨#[]⟩, .slice none 0 0, .slice none 0 0, .slice none 0 0, .int .i64 0, .int .i64 0, .int .i64 0, .slice none 0 0, .int .i64 0, .int .i64 0, .slice none 0 0, .string ⟨#[]⟩, .slice none 0 0, .int .i64 0, .int .i64 0, .string ⟨#[]⟩, .slice none 0 0, .slice none 0 0, .int .i64 0, .slice none 0 0, .slice none 0 0, .string ⟨#[]⟩, .int .i64 0, .slice none 0 0, .slice none 0 0, .bool false]),
    (106, [.slice none 0 0]),
    (108, [.int .u64 0]),
    (125, [.int .i64 0, .int .i64 0]),
    (136, [.slice none 0 0]),
    (163, [.int .u64 0]),
    (164, [.int .u64 0, .int .u64 0, .int .u64 0, .int .u64 0]),
    (195, [.pointer none]),
    (203, [.string ⟨#[]⟩, .int .i64 0, .int .i64 0, .string ⟨#[]⟩, .slice none 0 0, .slice none 0 0, .pointer none]),
    (214, [.int .i64 0, .int .i64 0, .int .i64 0, .int .i64 0]),
    (218, [.slice none 0 0]),
    (220, [.string ⟨#[]⟩, .int .i64 0, .int .i64 0, .string ⟨#[]⟩, .slice none 0 0, .slice none 0 0]),
    (224, [.string ⟨#[]⟩, .int .i64 0]),
    (225, [.string ⟨#[]⟩, .int .i64 0, .string ⟨#[]⟩, .int .i64 0, .string ⟨#[]⟩, .int .i64 0, .string ⟨#[]⟩, .int .i64 0, .string ⟨#[]⟩, .int .i64 0, .string ⟨#[]⟩, .int .i64 0, .string ⟨#[]⟩, .int .i64 0, .string ⟨#[]⟩, .int .i64 0, .string ⟨#[]⟩, .int .i64 0, .string ⟨#[]⟩, .int .i64 0, .string ⟨#[]⟩, .int .i64 0, .string ⟨#[]⟩, .int .i64 0, .string ⟨#[]⟩, .int .i64 0, .string ⟨#[]⟩, .int .i64 0, .string ⟨#[]⟩, .int .i64 0, .string ⟨#[]⟩, .int .i64 0, .string ⟨#[]⟩, .int .i64 0, .string ⟨#[]⟩, .int .i64 0, .string ⟨#[]⟩, .int .i64 0, .string ⟨#[]⟩, .int .i64 0, .string ⟨#[]⟩, .int .i64 0, .string ⟨#[]⟩, .int .i64 0, .string ⟨#[]⟩, .int .i64 0, .string ⟨#[]⟩, .int .i64 0, .string ⟨#[]⟩, .int .i64 0, .string ⟨#[]⟩, .int .i64 0, .string ⟨#[]⟩, .int .i64 0, .string ⟨#[]⟩, .int .i64 0, .string ⟨#[]⟩, .int .i64 0, .string ⟨#[]⟩, .int .i64 0, .string ⟨#[]⟩, .int .i64 0, .string ⟨#[]⟩, .int .i64 0, .string ⟨#[]⟩, .int .i64 0, .string ⟨#[]⟩, .int .i64 0, .string ⟨#[]⟩, .int .i64 0, .string ⟨#[]⟩, .int .i64 0, .string ⟨#[]⟩, .int .i64 0, .string ⟨#[]⟩, .int .i64 0]),
    (229, [.pointer none]),
    (231, [.pointer none, .slice none 0 0]),
    (246, [.slice none 0 0]),
    (254, [.map none]),
    (269, [.pointer none]),
    (274, [.int .u8 0, .int .u8 0]),
    (275, [.int .u8 0, .int .u8 0, .int .u8 0, .int .u8 0, .int .u8 0, .int .u8 0, .int .u8 0, .int .u8 0, .int .u8 0, .int .u8 0, .int .u8 0, .int .u8 0, .int .u8 0, .int .u8 0, .int .u8 0, .int .u8 0, .int .u8 0, .int .u8 0, .int .u8 0, .int .u8 0, .int .u8 0, .int .u8 0, .int .u8 0, .int .u8 0, .int .u8 0, .int .u8 0, .int .u8 0, .int .u8 0, .int .u8 0, .int .u8 0, .int .u8 0, .int .u8 0]),
    (294, [.int .u32 0]),
    (298, [.string ⟨#[]⟩, .string ⟨#[]⟩, .string ⟨#[]⟩, .string ⟨#[]⟩, .string ⟨#[]⟩, .string ⟨#[]⟩, .string ⟨#[]⟩, .string ⟨#[]⟩, .string ⟨#[]⟩, .string ⟨#[]⟩, .string ⟨#[]⟩, .string ⟨#[]⟩, .string ⟨#[]⟩, .string ⟨#[]⟩, .string ⟨#[]⟩, .string ⟨#[]⟩, .string ⟨#[]⟩, .string ⟨#[]⟩, .string ⟨#[]⟩, .string ⟨#[]⟩]),
    (301, [.int .u64 0]),
    (49, [.slice none 0 0]),
    (90, [.slice none 0 0]),
    (94, [.int .i64 0, .bool false, .int .i64 0, .int .i64 0, .string ⟨#[]⟩, .slice none 0 0, .slice none 0 0, .bool false, .int .i64 0, .int .i64 0, .string ⟨#[]⟩, .slice none 0 0, .slice none 0 0, .slice none 0 0, .int .i64 0, .int .i64 0, .slice none 0 0, .slice none 0 0, .bool false, .slice none 0 0, .bool false]),
    (99, [.string ⟨#[]⟩, .int .i64 0, .slice none 0 0, .bool false, .bool false, .bool false, .int .i64 0, .slice none 0 0, .int .i64 0, .int .i64 0, .string ⟨#[]⟩, .slice none 0 0, .slice none 0 0, .slice none 0 0, .int .i64 0, .int .i64 0, .int .i64 0, .slice none 0 0, .int .i64 0, .int .i64 0, .slice none 0 0, .string ⟨#[]⟩, .slice none 0 0, .int .i64 0, .int .i64 0, .string ⟨#[]⟩, .slice none 0 0, .slice none 0 0, .int .i64 0, .slice none 0 0, .slice none 0 0])]
  bools := [4]
  strs := [9]
  ints := [(3, .i64),
    (5, .u8),
    (71, .i64),
    (21, .i32),
    (108, .u64),
    (163, .u64),
    (294, .u32),
    (301, .u64)]
  nofn := [0, 1, 2, 230, 353, 367, 376, 391]
  nfn := 400

def tb : Tb := tbOf rows

theorem rows_ok : Checked Go.Proofs.Tryz.prog rows :=
  ⟨by kernel_rfl, by kernel_rfl, by kernel_rfl, by kernel_rfl, by kernel_rfl, by kernel_rfl, by kernel_rfl, by kernel_rfl⟩
theorem tb_ok : TbOk Go.Proofs.Tryz.prog tb := tbOf_ok rows_ok
theorem mixed : Go.Proofs.Tryz.prog.follows .mixedOrders = true := by kernel_rfl
end Go.Fw

set_option maxRecDepth 100000
namespace Go.Fw
open Go
theorem fo_26_0 : tb.fo 26 0 = some 0 := by kernel_rfl
theorem fo_26_1 : tb.fo 26 1 = some 1 := by kernel_rfl
theorem fo_26_2 : tb.fo 26 2 = some 2 := by kernel_rfl
theorem fo_26_3 : tb.fo 26 3 = some 3 := by kernel_rfl
theorem fo_26_4 : tb.fo 26 4 = some 4 := by kernel_rfl
theorem pl_26 : tb.pl 26 = some [(0, 1), (1, 1), (2, 1), (3, 1), (4, 1)] := by kernel_rfl
theorem fo_114_0 : tb.fo 114 0 = some 0 := by kernel_rfl
theorem fo_114_1 : tb.fo 114 1 = some 1 := by kernel_rfl
theorem pl_114 : tb.pl 114 = some [(0, 1), (1, 5)] := by kernel_rfl
theorem fo_35_0 : tb.fo 35 0 = some 0 := by kernel_rfl
theorem fo_35_1 : tb.fo 35 1 = some 1 := by kernel_rfl
theorem fo_35_2 : tb.fo 35 2 = some 2 := by kernel_rfl
theorem fo_35_3 : tb.fo 35 3 = some 7 := by kernel_rfl
theorem fo_35_4 : tb.fo 35 4 = some 8 := by kernel_rfl
theorem fo_35_5 : tb.fo 35 5 = some 9 := by kernel_rfl
theorem fo_35_6 : tb.fo 35 6 = some 10 := by kernel_rfl
theorem fo_35_7 : tb.fo 35 7 = some 13 := by kernel_rfl
theorem fo_35_8 : tb.fo 35 8 = some 24 := by kernel_rfl
theorem pl_35 : tb.pl 35 = some [(0, 1), (1, 1), (2, 5), (7, 1), (8, 1), (9, 1), (10, 3), (13, 11), (24, 1)] := by kernel_rfl
theorem fo_32_0 : tb.fo 32 0 = some 0 := by kernel_rfl
theorem fo_32_1 : tb.fo 32 1 = some 1 := by kernel_rfl
theorem fo_32_2 : tb.fo 32 2 = some 2 := by kernel_rfl
theorem fo_32_3 : tb.fo 32 3 = some 3 := by kernel_rfl
theorem fo_32_4 : tb.fo 32 4 = some 4 := by kernel_rfl
theorem fo_32_5 : tb.fo 32 5 = some 9 := by kernel_rfl
theorem fo_32_6 : tb.fo 32 6 = some 10 := by kernel_rfl
theorem pl_32 : tb.pl 32 = some [(0, 1), (1, 1), (2, 1), (3, 1), (4, 5), (9, 1), (10, 1)] := by kernel_rfl
theorem fo_29_0 : tb.fo 29 0 = some 0 := by kernel_rfl
theorem fo_29_1 : tb.fo 29 1 = some 1 := by kernel_rfl
theorem fo_29_2 : tb.fo 29 2 = some 2 := by kernel_rfl
theorem pl_29 : tb.pl 29 = some [(0, 1), (1, 1), (2, 1)] := by kernel_rfl
theorem fo_40_0 : tb.fo 40 0 = some 0 := by kernel_rfl
theorem fo_40_1 : tb.fo 40 1 = some 1 := by kernel_rfl
theorem fo_40_2 : tb.fo 40 2 = some 6 := by kernel_rfl
theorem fo_40_3 : tb.fo 40 3 = some 11 := by kernel_rfl
theorem pl_40 : tb.pl 40 = some [(0, 1), (1, 5), (6, 5), (11, 5)] := by kernel_rfl
theorem fo_51_0 : tb.fo 51 0 = some 0 := by kernel_rfl
theorem fo_51_1 : tb.fo 51 1 = some 1 := by kernel_rfl
theorem fo_51_2 : tb.fo 51 2 = some 2 := by kernel_rfl
theorem fo_51_3 : tb.fo 51 3 = some 3 := by kernel_rfl
theorem fo_51_4 : tb.fo 51 4 = some 4 := by kernel_rfl
theorem pl_51 : tb.pl 51 = some [(0, 1), (1, 1), (2, 1), (3, 1), (4, 1)] := by kernel_rfl
theorem fo_70_0 : tb.fo 70 0 = some 0 := by kernel_rfl
theorem fo_70_1 : tb.fo 70 1 = some 1 := by kernel_rfl
theorem fo_70_2 : tb.fo 70 2 = some 2 := by kernel_rfl
theorem fo_70_3 : tb.fo 70 3 = some 3 := by kernel_rfl
theorem fo_70_4 : tb.fo 70 4 = some 4 := by kernel_rfl
theorem fo_70_5 : tb.fo 70 5 = some 5 := by kernel_rfl
theorem fo_70_6 : tb.fo 70 6 = some 6 := by kernel_rfl
theorem fo_70_7 : tb.fo 70 7 = some 11 := by kernel_rfl
theorem fo_70_8 : tb.fo 70 8 = some 16 := by kernel_rfl
theorem pl_70 : tb.pl 70 = some [(0, 1), (1, 1), (2, 1), (3, 1), (4, 1), (5, 1), (6, 5), (11, 5), (16, 5)] := by kernel_rfl
theorem fo_96_0 : tb.fo 96 0 = some 0 := by kernel_rfl
theorem fo_96_1 : tb.fo 96 1 = some 1 := by kernel_rfl
theorem fo_96_2 : tb.fo 96 2 = some 2 := by kernel_rfl
theorem fo_96_3 : tb.fo 96 3 = some 23 := by kernel_rfl
theorem fo_96_4 : tb.fo 96 4 = some 24 := by kernel_rfl
theorem pl_96 : tb.pl 96 = some [(0, 1), (1, 1), (2, 21), (23, 1), (24, 1)] := by kernel_rfl
theorem fo_102_0 : tb.fo 102 0 = some 0 := by kernel_rfl
theorem fo_102_1 : tb.fo 102 1 = some 1 := by kernel_rfl
theorem fo_102_2 : tb.fo 102 2 = some 2 := by kernel_rfl
theorem fo_102_3 : tb.fo 102 3 = some 7 := by kernel_rfl
theorem fo_102_4 : tb.fo 102 4 = some 12 := by kernel_rfl
theorem fo_102_5 : tb.fo 102 5 = some 17 := by kernel_rfl
theorem fo_102_6 : tb.fo 102 6 = some 42 := by kernel_rfl
theorem fo_102_7 : tb.fo 102 7 = some 73 := by kernel_rfl
theorem fo_102_8 : tb.fo 102 8 = some 74 := by kernel_rfl
theorem fo_102_9 : tb.fo 102 9 = some 75 := by kernel_rfl
theorem fo_102_10 : tb.fo 102 10 = some 76 := by kernel_rfl
theorem fo_102_11 : tb.fo 102 11 = some 77 := by kernel_rfl
theorem pl_102 : tb.pl 102 = some [(0, 1), (1, 1), (2, 5), (7, 5), (12, 5), (17, 25), (42, 31), (73, 1), (74, 1), (75, 1), (76, 1), (77, 1)] := by kernel_rfl
theorem fo_104_0 : tb.fo 104 0 = some 0 := by kernel_rfl
theorem fo_104_1 : tb.fo 104 1 = some 1 := by kernel_rfl
theorem fo_104_2 : tb.fo 104 2 = some 2 := by kernel_rfl
theorem fo_104_3 : tb.fo 104 3 = some 3 := by kernel_rfl
theorem fo_104_4 : tb.fo 104 4 = some 4 := by kernel_rfl
theorem pl_104 : tb.pl 104 = some [(0, 1), (1, 1), (2, 1), (3, 1), (4, 78)] := by kernel_rfl
theorem fo_125_0 : tb.fo 125 0 = some 0 := by kernel_rfl
theorem fo_125_1 : tb.fo 125 1 = some 1 := by kernel_rfl
theorem pl_125 : tb.pl 125 = some [(0, 1), (1, 1)] := by kernel_rfl
theorem fo_203_0 : tb.fo 203 0 = some 0 := by kernel_rfl
theorem fo_203_1 : tb.fo 203 1 = some 1 := by kernel_rfl
theorem fo_203_2 : tb.fo 203 2 = some 6 := by kernel_rfl
theorem pl_203 : tb.pl 203 = some [(0, 1), (1, 5), (6, 1)] := by kernel_rfl
theorem fo_214_0 : tb.fo 214 0 = some 0 := by kernel_rfl
theorem fo_214_1 : tb.fo 214 1 = some 2 := by kernel_rfl
theorem pl_214 : tb.pl 214 = some [(0, 2), (2, 2)] := by kernel_rfl
theorem fo_220_0 : tb.fo 220 0 = some 0 := by kernel_rfl
theorem fo_220_1 : tb.fo 220 1 = some 1 := by kernel_rfl
theorem pl_220 : tb.pl 220 = some [(0, 1), (1, 5)] := by kernel_rfl
theorem fo_224_0 : tb.fo 224 0 = some 0 := by kernel_rfl
theorem fo_224_1 : tb.fo 224 1 = some 1 := by kernel_rfl
theorem pl_224 : tb.pl 224 = some [(0, 1), (1, 1)] := by kernel_rfl
theorem fo_231_0 : tb.fo 231 0 = some 0 := by kernel_rfl
theorem fo_231_1 : tb.fo 231 1 = some 1 := by kernel_rfl
theorem pl_231 : tb.pl 231 = some [(0, 1), (1, 1)] := by kernel_rfl
theorem fo_274_0 : tb.fo 274 0 = some 0 := by kernel_rfl
theorem fo_274_1 : tb.fo 274 1 = some 1 := by kernel_rfl
theorem pl_274 : tb.pl 274 = some [(0, 1), (1, 1)] := by kernel_rfl
theorem fo_94_0 : tb.fo 94 0 = some 0 := by kernel_rfl
theorem fo_94_1 : tb.fo 94 1 = some 1 := by kernel_rfl
theorem fo_94_2 : tb.fo 94 2 = some 2 := by kernel_rfl
theorem fo_94_3 : tb.fo 94 3 = some 7 := by kernel_rfl
theorem fo_94_4 : tb.fo 94 4 = some 8 := by kernel_rfl
theorem fo_94_5 : tb.fo 94 5 = some 13 := by kernel_rfl
theorem fo_94_6 : tb.fo 94 6 = some 14 := by kernel_rfl
theorem fo_94_7 : tb.fo 94 7 = some 15 := by kernel_rfl
theorem fo_94_8 : tb.fo 94 8 = some 16 := by kernel_rfl
theorem fo_94_9 : tb.fo 94 9 = some 17 := by kernel_rfl
theorem fo_94_10 : tb.fo 94 10 = some 18 := by kernel_rfl
theorem fo_94_11 : tb.fo 94 11 = some 19 := by kernel_rfl
theorem fo_94_12 : tb.fo 94 12 = some 20 := by kernel_rfl
theorem pl_94 : tb.pl 94 = some [(0, 1), (1, 1), (2, 5), (7, 1), (8, 5), (13, 1), (14, 1), (15, 1), (16, 1), (17, 1), (18, 1), (19, 1), (20, 1)] := by kernel_rfl
theorem fo_99_0 : tb.fo 99 0 = some 0 := by kernel_rfl
theorem fo_99_1 : tb.fo 99 1 = some 1 := by kernel_rfl
theorem fo_99_2 : tb.fo 99 2 = some 2 := by kernel_rfl
theorem fo_99_3 : tb.fo 99 3 = some 3 := by kernel_rfl
theorem fo_99_4 : tb.fo 99 4 = some 4 := by kernel_rfl
theorem fo_99_5 : tb.fo 99 5 = some 5 := by kernel_rfl
theorem fo_99_6 : tb.fo 99 6 = some 6 := by kernel_rfl
theorem pl_99 : tb.pl 99 = some [(0, 1), (1, 1), (2, 1), (3, 1), (4, 1), (5, 1), (6, 25)] := by kernel_rfl
theorem sz_26 : tb.sz 26 = some (true, 5) := by kernel_rfl
theorem sz_114 : tb.sz 114 = some (true, 6) := by kernel_rfl
theorem sz_35 : tb.sz 35 = some (true, 25) := by kernel_rfl
theorem sz_3 : tb.sz 3 = some (false, 1) := by kernel_rfl
theorem sz_4 : tb.sz 4 = some (false, 1) := by kernel_rfl
theorem sz_9 : tb.sz 9 = some (false, 1) := by kernel_rfl
theorem sz_22 : tb.sz 22 = some (false, 1) := by kernel_rfl
theorem sz_23 : tb.sz 23 = some (false, 1) := by kernel_rfl
theorem sz_24 : tb.sz 24 = some (false, 1) := by kernel_rfl
theorem sz_33 : tb.sz 33 = some (false, 1) := by kernel_rfl
theorem sz_32 : tb.sz 32 = some (true, 11) := by kernel_rfl
theorem sz_29 : tb.sz 29 = some (true, 3) := by kernel_rfl
theorem sz_40 : tb.sz 40 = some (true, 16) := by kernel_rfl
theorem sz_111 : tb.sz 111 = some (false, 1) := by kernel_rfl
theorem sz_5 : tb.sz 5 = some (false, 1) := by kernel_rfl
theorem sz_71 : tb.sz 71 = some (false, 1) := by kernel_rfl
theorem sz_21 : tb.sz 21 = some (false, 1) := by kernel_rfl
theorem sz_27 : tb.sz 27 = some (false, 1) := by kernel_rfl
theorem sz_30 : tb.sz 30 = some (false, 1) := by kernel_rfl
theorem sz_51 : tb.sz 51 = some (true, 5) := by kernel_rfl
theorem sz_63 : tb.sz 63 = some (false, 1) := by kernel_rfl
theorem sz_66 : tb.sz 66 = some (false, 1) := by kernel_rfl
theorem sz_70 : tb.sz 70 = some (true, 21) := by kernel_rfl
theorem sz_79 : tb.sz 79 = some (false, 1) := by kernel_rfl
theorem sz_80 : tb.sz 80 = some (false, 1) := by kernel_rfl
theorem sz_96 : tb.sz 96 = some (true, 25) := by kernel_rfl
theorem sz_100 : tb.sz 100 = some (false, 1) := by kernel_rfl
theorem sz_102 : tb.sz 102 = some (true, 78) := by kernel_rfl
theorem sz_104 : tb.sz 104 = some (true, 82) := by kernel_rfl
theorem sz_106 : tb.sz 106 = some (false, 1) := by kernel_rfl
theorem sz_108 : tb.sz 108 = some (false, 1) := by kernel_rfl
theorem sz_125 : tb.sz 125 = some (true, 2) := by kernel_rfl
theorem sz_136 : tb.sz 136 = some (false, 1) := by kernel_rfl
theorem sz_163 : tb.sz 163 = some (false, 1) := by kernel_rfl
theorem sz_164 : tb.sz 164 = some (true, 4) := by kernel_rfl
theorem sz_195 : tb.sz 195 = some (false, 1) := by kernel_rfl
theorem sz_203 : tb.sz 203 = some (true, 7) := by kernel_rfl
theorem sz_214 : tb.sz 214 = some (true, 4) := by kernel_rfl
theorem sz_218 : tb.sz 218 = some (false, 1) := by kernel_rfl
theorem sz_220 : tb.sz 220 = some (true, 6) := by kernel_rfl
theorem sz_224 : tb.sz 224 = some (true, 2) := by kernel_rfl
theorem sz_225 : tb.sz 225 = some (true, 76) := by kernel_rfl
theorem sz_229 : tb.sz 229 = some (false, 1) := by kernel_rfl
theorem sz_231 : tb.sz 231 = some (true, 2) := by kernel_rfl
theorem sz_246 : tb.sz 246 = some (false, 1) := by kernel_rfl
theorem sz_254 : tb.sz 254 = some (false, 1) := by kernel_rfl
theorem sz_260 : tb.sz 260 = some (true, 256) := by kernel_rfl
theorem sz_269 : tb.sz 269 = some (false, 1) := by kernel_rfl
theorem sz_272 : tb.sz 272 = some (true, 256) := by kernel_rfl
theorem sz_274 : tb.sz 274 = some (true, 2) := by kernel_rfl
theorem sz_275 : tb.sz 275 = some (true, 32) := by kernel_rfl
theorem sz_294 : tb.sz 294 = some (false, 1) := by kernel_rfl
theorem sz_298 : tb.sz 298 = some (true, 20) := by kernel_rfl
theorem sz_301 : tb.sz 301 = some (false, 1) := by kernel_rfl
theorem sz_49 : tb.sz 49 = some (false, 1) := by kernel_rfl
theorem sz_90 : tb.sz 90 = some (false, 1) := by kernel_rfl
theorem sz_94 : tb.sz 94 = some (true, 21) := by kernel_rfl
theorem sz_99 : tb.sz 99 = some (true, 31) := by kernel_rfl
theorem el_22 : tb.el 22 = some (9, 1, 16) := by kernel_rfl
theorem el_23 : tb.el 23 = some (26, 5, 80) := by kernel_rfl
theorem el_24 : tb.el 24 = some (114, 6, 96) := by kernel_rfl
theorem el_33 : tb.el 33 = some (35, 25, 400) := by kernel_rfl
theorem el_27 : tb.el 27 = some (125, 2, 16) := by kernel_rfl
theorem el_30 : tb.el 30 = some (32, 11, 184) := by kernel_rfl
theorem el_63 : tb.el 63 = some (104, 82, 1208) := by kernel_rfl
theorem el_66 : tb.el 66 = some (70, 21, 296) := by kernel_rfl
theorem el_79 : tb.el 79 = some (66, 1, 24) := by kernel_rfl
theorem el_80 : tb.el 80 = some (3, 1, 8) := by kernel_rfl
theorem el_100 : tb.el 100 = some (102, 78, 1168) := by kernel_rfl
theorem el_106 : tb.el 106 = some (63, 1, 24) := by kernel_rfl
theorem el_136 : tb.el 136 = some (5, 1, 1) := by kernel_rfl
theorem el_218 : tb.el 218 = some (220, 6, 96) := by kernel_rfl
theorem el_246 : tb.el 246 = some (4, 1, 1) := by kernel_rfl
theorem el_49 : tb.el 49 = some (337, 87, 1472) := by kernel_rfl
theorem el_90 : tb.el 90 = some (99, 31, 456) := by kernel_rfl
theorem zero_26 : tb.zero 26 = some [.int .i64 0, .int .i64 0, .string ⟨#[]⟩, .slice none 0 0, .slice none 0 0] := by kernel_rfl
theorem zero_114 : tb.zero 114 = some [.string ⟨#[]⟩, .int .i64 0, .int .i64 0, .string ⟨#[]⟩, .slice none 0 0, .slice none 0 0] := by kernel_rfl
theorem zero_35 : tb.zero 35 = some [.int .i64 0, .slice none 0 0, .int .i64 0, .int .i64 0, .string ⟨#[]⟩, .slice none 0 0, .slice none 0 0, .slice none 0 0, .int .i64 0, .int .i64 0, .int .i64 0, .slice none 0 0, .int .i64 0, .int .i64 0, .slice none 0 0, .string ⟨#[]⟩, .slice none 0 0, .int .i64 0, .int .i64 0, .string ⟨#[]⟩, .slice none 0 0, .slice none 0 0, .int .i64 0, .slice none 0 0, .slice none 0 0] := by kernel_rfl
theorem zero_3 : tb.zero 3 = some [.int .i64 0] := by kernel_rfl
theorem zero_4 : tb.zero 4 = some [.bool false] := by kernel_rfl
theorem zero_9 : tb.zero 9 = some [.string ⟨#[]⟩] := by kernel_rfl
theorem zero_22 : tb.zero 22 = some [.slice none 0 0] := by kernel_rfl
theorem zero_23 : tb.zero 23 = some [.slice none 0 0] := by kernel_rfl
theorem zero_24 : tb.zero 24 = some [.slice none 0 0] := by kernel_rfl
theorem zero_33 : tb.zero 33 = some [.slice none 0 0] := by kernel_rfl
theorem zero_32 : tb.zero 32 = some [.int .i64 0, .slice none 0 0, .string ⟨#[]⟩, .slice none 0 0, .int .i64 0, .int .i64 0, .string ⟨#[]⟩, .slice none 0 0, .slice none 0 0, .int .i64 0, .slice none 0 0] := by kernel_rfl
theorem zero_29 : tb.zero 29 = some [.int .i64 0, .slice none 0 0, .int .i64 0] := by kernel_rfl
theorem zero_40 : tb.zero 40 = some [.slice none 0 0, .int .i64 0, .int .i64 0, .string ⟨#[]⟩, .slice none 0 0, .slice none 0 0, .int .i64 0, .int .i64 0, .string ⟨#[]⟩, .slice none 0 0, .slice none 0 0, .int .i64 0, .int .i64 0, .string ⟨#[]⟩, .slice none 0 0, .slice none 0 0] := by kernel_rfl
theorem zero_111 : tb.zero 111 = some [.nilFunc] := by kernel_rfl
theorem zero_5 : tb.zero 5 = some [.int .u8 0] := by kernel_rfl
theorem zero_71 : tb.zero 71 = some [.int .i64 0] := by kernel_rfl
theorem zero_21 : tb.zero 21 = some [.int .i32 0] := by kernel_rfl
theorem zero_27 : tb.zero 27 = some [.slice none 0 0] := by kernel_rfl
theorem zero_30 : tb.zero 30 = some [.slice none 0 0] := by kernel_rfl
theorem zero_51 : tb.zero 51 = some [.string ⟨#[]⟩, .slice none 0 0, .slice none 0 0, .string ⟨#[]⟩, .slice none 0 0] := by kernel_rfl
theorem zero_63 : tb.zero 63 = some [.slice none 0 0] := by kernel_rfl
theorem zero_66 : tb.zero 66 = some [.slice none 0 0] := by kernel_rfl
theorem zero_70 : tb.zero 70 = some [.int .i64 0, .int .i64 0, .int .i64 0, .int .i64 0, .int .i64 0, .string ⟨#[]⟩, .int .i64 0, .int .i64 0, .string ⟨#[]⟩, .slice none 0 0, .slice none 0 0, .int .i64 0, .int .i64 0, .string ⟨#[]⟩, .slice none 0 0, .slice none 0 0, .int .i64 0, .int .i64 0, .string ⟨#[]⟩, .slice none 0 0, .slice none 0 0] := by kernel_rfl
theorem zero_79 : tb.zero 79 = some [.slice none 0 0] := by kernel_rfl
theorem zero_80 : tb.zero 80 = some [.slice none 0 0] := by kernel_rfl
theorem zero_96 : tb.zero 96 = some [.string ⟨#[]⟩, .slice none 0 0, .int .i64 0, .bool false, .int .i64 0, .int .i64 0, .string ⟨#[]⟩, .slice none 0 0, .slice none 0 0, .bool false, .int .i64 0, .int .i64 0, .string ⟨#[]⟩, .slice none 0 0, .slice none 0 0, .slice none 0 0, .int .i64 0, .int .i64 0, .slice none 0 0, .slice none 0 0, .bool false, .slice none 0 0, .bool false, .int .i64 0, .int .i64 0] := by kernel_rfl
theorem zero_100 : tb.zero 100 = some [.slice none 0 0] := by kernel_rfl
theorem zero_102 : tb.zero 102 = some [.int .i64 0, .string ⟨#[]⟩, .int .i64 0, .int .i64 0, .string ⟨#[]⟩, .slice none 0 0, .slice none 0 0, .int .i64 0, .int .i64 0, .string ⟨#[]⟩, .slice none 0 0, .slice none 0 0, .int .i64 0, .int .i64 0, .string ⟨#[]⟩, .slice none 0 0, .slice none 0 0, .string ⟨#[]⟩, .slice none 0 0, .int .i64 0, .bool false, .int .i64 0, .int .i64 0, .string ⟨#[]⟩, .slice none 0 0, .slice none 0 0, .bool false, .int .i64 0, .int .i64 0, .string ⟨#[]⟩, .slice none 0 0, .slice none 0 0, .slice none 0 0, .int .i64 0, .int .i64 0, .slice none 0 0, .slice none 0 0, .bool false, .slice none 0 0, .bool false, .int .i64 0, .int .i64 0, .string ⟨#[]⟩, .int .i64 0, .slice none 0 0, .bool false, .bool false, .bool false, .int .i64 0, .slice none 0 0, .int .i64 0, .int .i64 0, .string ⟨#[]⟩, .slice none 0 0, .slice none 0 0, .slice none 0 0, .int .i64 0, .int .i64 0, .int .i64 0, .slice none 0 0, .int .i64 0, .int .i64 0, .slice none 0 0, .string ⟨#[]⟩, .slice none 0 0, .int .i64 0, .int .i64 0, .string ⟨#[]⟩, .slice none 0 0, .slice none 0 0, .int .i64 0, .slice none 0 0, .slice none 0 0, .string ⟨#[]⟩, .int .i64 0, .slice none 0 0, .slice none 0 0, .bool false] := by kernel_rfl
theorem zero_104 : tb.zero 104 = some [.int .i64 0, .int .i64 0, .string ⟨#[]⟩, .int .i64 0, .int .i64 0, .string ⟨#[]⟩, .int .i64 0, .int .i64 0, .string ⟨#[]⟩, .slice none 0 0, .slice none 0 0, .int .i64 0, .int .i64 0, .string ⟨#[]⟩, .slice none 0 0, .slice none 0 0, .int .i64 0, .int .i64 0, .string ⟨#[]⟩, .slice none 0 0, .slice none 0 0, .string ⟨#[]⟩, .slice none 0 0, .int .i64 0, .bool false, .int .i64 0, .int .i64 0, .string ⟨#[]⟩, .slice none 0 0, .slice none 0 0, .bool false, .int .i64 0, .int .i64 0, .string ⟨#[]⟩, .slice none 0 0, .slice none 0 0, .slice none 0 0, .int .i64 0, .int .i64 0, .slice none 0 0, .slice none 0 0, .bool false, .slice none 0 0, .bool false, .int .i64 0, .int .i64 0, .string ⟨#[]⟩, .int .i64 0, .slice none 0 0, .bool false, .bool false, .bool false, .int .i64 0, .slice none 0 0, .int .i64 0, .int .i64 0, .string ⟨#[]⟩, .slice none 0 0, .slice none 0 0, .slice none 0 0, .int .i64 0, .int .i64 0, .int .i64 0, .slice none 0 0, .int .i64 0, .int .i64 0, .slice none 0 0, .string ⟨#[]⟩, .slice none 0 0, .int .i64 0, .int .i64 0, .string ⟨#[]⟩, .slice none 0 0, .slice none 0 0, .int .i64 0, .slice none 0 0, .slice none 0 0, .string ⟨#[]⟩, .int .i64 0, .slice none 0 0, .slice none 0 0, .bool false] := by kernel_rfl
theorem zero_106 : tb.zero 106 = some [.slice none 0 0] := by kernel_rfl
theorem zero_108 : tb.zero 108 = some [.int .u64 0] := by kernel_rfl
theorem zero_125 : tb.zero 125 = some [.int .i64 0, .int .i64 0] := by kernel_rfl
theorem zero_136 : tb.zero 136 = some [.slice none 0 0] := by kernel_rfl
theorem zero_163 : tb.zero 163 = some [.int .u64 0] := by kernel_rfl
theorem zero_164 : tb.zero 164 = some [.int .u64 0, .int .u64 0, .int .u64 0, .int .u64 0] := by kernel_rfl
theorem zero_195 : tb.zero 195 = some [.pointer none] := by kernel_rfl
theorem zero_203 : tb.zero 203 = some [.string ⟨#[]⟩, .int .i64 0, .int .i64 0, .string ⟨#[]⟩, .slice none 0 0, .slice none 0 0, .pointer none] := by kernel_rfl
theorem zero_214 : tb.zero 214 = some [.int .i64 0, .int .i64 0, .int .i64 0, .int .i64 0] := by kernel_rfl
theorem zero_218 : tb.zero 218 = some [.slice none 0 0] := by kernel_rfl
theorem zero_220 : tb.zero 220 = some [.string ⟨#[]⟩, .int .i64 0, .int .i64 0, .string ⟨#[]⟩, .slice none 0 0, .slice none 0 0] := by kernel_rfl
theorem zero_224 : tb.zero 224 = some [.string ⟨#[]⟩, .int .i64 0] := by kernel_rfl
theorem zero_225 : tb.zero 225 = some [.string ⟨#[]⟩, .int .i64 0, .string ⟨#[]⟩, .int .i64 0, .string ⟨#[]⟩, .int .i64 0, .string ⟨#[]⟩, .int .i64 0, .string ⟨#[]⟩, .int .i64 0, .string ⟨#[]⟩, .int .i64 0, .string ⟨#[]⟩, .int .i64 0, .string ⟨#[]⟩, .int .i64 0, .string ⟨#[]⟩, .int .i64 0, .string ⟨#[]⟩, .int .i64 0, .string ⟨#[]⟩, .int .i64 0, .string ⟨#[]⟩, .int .i64 0, .string ⟨#[]⟩, .int .i64 0, .string ⟨#[]⟩, .int .i64 0, .string ⟨#[]⟩, .int .i64 0, .string ⟨#[]⟩, .int .i64 0, .string ⟨#[]⟩, .int .i64 0, .string ⟨#[]⟩, .int .i64 0, .string ⟨#[]⟩, .int .i64 0, .string ⟨#[]⟩, .int .i64 0, .string ⟨#[]⟩, .int .i64 0, .string ⟨#[]⟩, .int .i64 0, .string ⟨#[]⟩, .int .i64 0, .string ⟨#[]⟩, .int .i64 0, .string ⟨#[]⟩, .int .i64 0, .string ⟨#[]⟩, .int .i64 0, .string ⟨#[]⟩, .int .i64 0, .string ⟨#[]⟩, .int .i64 0, .string ⟨#[]⟩, .int .i64 0, .string ⟨#[]⟩, .int .i64 0, .string ⟨#[]⟩, .int .i64 0, .string ⟨#[]⟩, .int .i64 0, .string ⟨#[]⟩, .int .i64 0, .string ⟨#[]⟩, .int .i64 0, .string ⟨#[]⟩, .int .i64 0, .string ⟨#[]⟩, .int .i64 0, .string ⟨#[]⟩, .int .i64 0, .string ⟨#[]⟩, .int .i64 0] := by kernel_rfl
theorem zero_229 : tb.zero 229 = some [.pointer none] := by kernel_rfl
theorem zero_231 : tb.zero 231 = some [.pointer none, .slice none 0 0] := by kernel_rfl
theorem zero_246 : tb.zero 246 = some [.slice none 0 0] := by kernel_rfl
theorem zero_254 : tb.zero 254 = some [.map none] := by kernel_rfl
theorem zero_269 : tb.zero 269 = some [.pointer none] := by kernel_rfl
theorem zero_274 : tb.zero 274 = some [.int .u8 0, .int .u8 0] := by kernel_rfl
theorem zero_275 : tb.zero 275 = some [.int .u8 0, .int .u8 0, .int .u8 0, .int .u8 0, .int .u8 0, .int .u8 0, .int .u8 0, .int .u8 0, .int .u8 0, .int .u8 0, .int .u8 0, .int .u8 0, .int .u8 0, .int .u8 0, .int .u8 0, .int .u8 0, .int .u8 0, .int .u8 0, .int .u8 0, .int .u8 0, .int .u8 0, .int .u8 0, .int .u8 0, .int .u8 0, .int .u8 0, .int .u8 0, .int .u8 0, .int .u8 0, .int .u8 0, .int .u8 0, .int .u8 0, .int .u8 0] := by kernel_rfl
theorem zero_294 : tb.zero 294 = some [.int .u32 0] := by kernel_rfl
theorem zero_298 : tb.zero 298 = some [.string ⟨#[]⟩, .string ⟨#[]⟩, .string ⟨#[]⟩, .string ⟨#[]⟩, .string ⟨#[]⟩, .string ⟨#[]⟩, .string ⟨#[]⟩, .string ⟨#[]⟩, .string ⟨#[]⟩, .string ⟨#[]⟩, .string ⟨#[]⟩, .string ⟨#[]⟩, .string ⟨#[]⟩, .string ⟨#[]⟩, .string ⟨#[]⟩, .string ⟨#[]⟩, .string ⟨#[]⟩, .string ⟨#[]⟩, .string ⟨#[]⟩, .string ⟨#[]⟩] := by kernel_rfl
theorem zero_301 : tb.zero 301 = some [.int .u64 0] := by kernel_rfl
theorem zero_49 : tb.zero 49 = some [.slice none 0 0] := by kernel_rfl
theorem zero_90 : tb.zero 90 = some [.slice none 0 0] := by kernel_rfl
theorem zero_94 : tb.zero 94 = some [.int .i64 0, .bool false, .int .i64 0, .int .i64 0, .string ⟨#[]⟩, .slice none 0 0, .slice none 0 0, .bool false, .int .i64 0, .int .i64 0, .string ⟨#[]⟩, .slice none 0 0, .slice none 0 0, .slice none 0 0, .int .i64 0, .int .i64 0, .slice none 0 0, .slice none 0 0, .bool false, .slice none 0 0, .bool false] := by kernel_rfl
theorem zero_99 : tb.zero 99 = some [.string ⟨#[]⟩, .int .i64 0, .slice none 0 0, .bool false, .bool false, .bool false, .int .i64 0, .slice none 0 0, .int .i64 0, .int .i64 0, .string ⟨#[]⟩, .slice none 0 0, .slice none 0 0, .slice none 0 0, .int .i64 0, .int .i64 0, .int .i64 0, .slice none 0 0, .int .i64 0, .int .i64 0, .slice none 0 0, .string ⟨#[]⟩, .slice none 0 0, .int .i64 0, .int .i64 0, .string ⟨#[]⟩, .slice none 0 0, .slice none 0 0, .int .i64 0, .slice none 0 0, .slice none 0 0] := by kernel_rfl
theorem bool_26 : tb.bool 26 = false := by kernel_rfl
theorem bool_114 : tb.bool 114 = false := by kernel_rfl
theorem bool_35 : tb.bool 35 = false := by kernel_rfl
theorem bool_3 : tb.bool 3 = false := by kernel_rfl
theorem bool_4 : tb.bool 4 = true := by kernel_rfl
theorem bool_9 : tb.bool 9 = false := by kernel_rfl
theorem bool_22 : tb.bool 22 = false := by kernel_rfl
theorem bool_23 : tb.bool 23 = false := by kernel_rfl
theorem bool_24 : tb.bool 24 = false := by kernel_rfl
theorem bool_33 : tb.bool 33 = false := by kernel_rfl
theorem bool_32 : tb.bool 32 = false := by kernel_rfl
theorem bool_29 : tb.bool 29 = false := by kernel_rfl
theorem bool_40 : tb.bool 40 = false := by kernel_rfl
theorem bool_111 : tb.bool 111 = false := by kernel_rfl
theorem bool_5 : tb.bool 5 = false := by kernel_rfl
theorem bool_71 : tb.bool 71 = false := by kernel_rfl
theorem bool_21 : tb.bool 21 = false := by kernel_rfl
theorem bool_27 : tb.bool 27 = false := by kernel_rfl
theorem bool_30 : tb.bool 30 = false := by kernel_rfl
theorem bool_51 : tb.bool 51 = false := by kernel_rfl
theorem bool_63 : tb.bool 63 = false := by kernel_rfl
theorem bool_66 : tb.bool 66 = false := by kernel_rfl
theorem bool_70 : tb.bool 70 = false := by kernel_rfl
theorem bool_79 : tb.bool 79 = false := by kernel_rfl
theorem bool_80 : tb.bool 80 = false := by kernel_rfl
theorem bool_96 : tb.bool 96 = false := by kernel_rfl
theorem bool_100 : tb.bool 100 = false := by kernel_rfl
theorem bool_102 : tb.bool 102 = false := by kernel_rfl
theorem bool_104 : tb.bool 104 = false := by kernel_rfl
theorem bool_106 : tb.bool 106 = false := by kernel_rfl
theorem bool_108 : tb.bool 108 = false := by kernel_rfl
theorem bool_125 : tb.bool 125 = false := by kernel_rfl
theorem bool_136 : tb.bool 136 = false := by kernel_rfl
theorem bool_163 : tb.bool 163 = false := by kernel_rfl
theorem bool_164 : tb.bool 164 = false := by kernel_rfl
theorem bool_195 : tb.bool 195 = false := by kernel_rfl
theorem bool_203 : tb.bool 203 = false := by kernel_rfl
theorem bool_214 : tb.bool 214 = false := by kernel_rfl
theorem bool_218 : tb.bool 218 = false := by kernel_rfl
theorem bool_220 : tb.bool 220 = false := by kernel_rfl
theorem bool_224 : tb.bool 224 = false := by kernel_rfl
theorem bool_225 : tb.bool 225 = false := by kernel_rfl
theorem bool_229 : tb.bool 229 = false := by kernel_rfl
theorem bool_231 : tb.bool 231 = false := by kernel_rfl
theorem bool_246 : tb.bool 246 = false := by kernel_rfl
theorem bool_254 : tb.bool 254 = false := by kernel_rfl
theorem bool_260 : tb.bool 260 = false := by kernel_rfl
theorem bool_269 : tb.bool 269 = false := by kernel_rfl
theorem bool_272 : tb.bool 272 = false := by kernel_rfl
theorem bool_274 : tb.bool 274 = false := by kernel_rfl
theorem bool_275 : tb.bool 275 = false := by kernel_rfl
theorem bool_294 : tb.bool 294 = false := by kernel_rfl
theorem bool_298 : tb.bool 298 = false := by kernel_rfl
theorem bool_301 : tb.bool 301 = false := by kernel_rfl
theorem bool_49 : tb.bool 49 = false := by kernel_rfl
theorem bool_90 : tb.bool 90 = false := by kernel_rfl
theorem bool_94 : tb.bool 94 = false := by kernel_rfl
theorem bool_99 : tb.bool 99 = false := by kernel_rfl
theorem str_9 : tb.str 9 = true := by kernel_rfl
theorem intk_3 : tb.intk 3 = some .i64 := by kernel_rfl
theorem intk_5 : tb.intk 5 = some .u8 := by kernel_rfl
theorem intk_71 : tb.intk 71 = some .i64 := by kernel_rfl
theorem intk_21 : tb.intk 21 = some .i32 := by kernel_rfl
theorem intk_108 : tb.intk 108 = some .u64 := by kernel_rfl
theorem intk_163 : tb.intk 163 = some .u64 := by kernel_rfl
theorem intk_294 : tb.intk 294 = some .u32 := by kernel_rfl
theorem intk_301 : tb.intk 301 = some .u64 := by kernel_rfl
theorem el_26 : tb.el 26 = none := by kernel_rfl
theorem el_114 : tb.el 114 = none := by kernel_rfl
theorem el_35 : tb.el 35 = none := by kernel_rfl
theorem el_3 : tb.el 3 = none := by kernel_rfl
theorem el_4 : tb.el 4 = none := by kernel_rfl
theorem el_9 : tb.el 9 = none := by kernel_rfl
theorem el_32 : tb.el 32 = none := by kernel_rfl
theorem el_29 : tb.el 29 = none := by kernel_rfl
theorem el_40 : tb.el 40 = none := by kernel_rfl
theorem el_111 : tb.el 111 = none := by kernel_rfl
theorem el_5 : tb.el 5 = none := by kernel_rfl
theorem el_71 : tb.el 71 = none := by kernel_rfl
theorem el_21 : tb.el 21 = none := by kernel_rfl
theorem el_51 : tb.el 51 = none := by kernel_rfl
theorem el_70 : tb.el 70 = none := by kernel_rfl
theorem el_96 : tb.el 96 = none := by kernel_rfl
theorem el_102 : tb.el 102 = none := by kernel_rfl
theorem el_104 : tb.el 104 = none := by kernel_rfl
theorem el_108 : tb.el 108 = none := by kernel_rfl
theorem el_125 : tb.el 125 = none := by kernel_rfl
theorem el_163 : tb.el 163 = none := by kernel_rfl
theorem el_164 : tb.el 164 = none := by kernel_rfl
theorem el_195 : tb.el 195 = none := by kernel_rfl
theorem el_203 : tb.el 203 = none := by kernel_rfl
theorem el_214 : tb.el 214 = none := by kernel_rfl
theorem el_220 : tb.el 220 = none := by kernel_rfl
theorem el_224 : tb.el 224 = none := by kernel_rfl
theorem el_225 : tb.el 225 = none := by kernel_rfl
theorem el_229 : tb.el 229 = none := by kernel_rfl
theorem el_231 : tb.el 231 = none := by kernel_rfl
theorem el_254 : tb.el 254 = none := by kernel_rfl
theorem el_260 : tb.el 260 = none := by kernel_rfl
theorem el_269 : tb.el 269 = none := by kernel_rfl
theorem el_272 : tb.el 272 = none := by kernel_rfl
theorem el_274 : tb.el 274 = none := by kernel_rfl
theorem el_275 : tb.el 275 = none := by kernel_rfl
theorem el_294 : tb.el 294 = none := by kernel_rfl
theorem el_298 : tb.el 298 = none := by kernel_rfl
theorem el_301 : tb.el 301 = none := by kernel_rfl
theorem el_94 : tb.el 94 = none := by kernel_rfl
theorem el_99 : tb.el 99 = none := by kernel_rfl
end Go.Fw

set_option linter.unusedVariables false
set_option linter.unusedSimpArgs false
namespace Go.Fw
open Go
variable {P : Program} {ops : Array Oper} {nk : List Nat} {Q : Exit → Act → World → Prop} {s : Sym}

theorem Fits.rowSet2 {a : Act} {w w' : World} (hf : Fits s a w) {ix : Nat} {r y : Rw} (hR : s.R[ix]? = some r) (hown : w'.ownsRow s.base y.e y.size y.v y.n y.xs) (hg : w.grownBy w' r.v.ownBlock)
    (hnew : y.new = true → r.new = true) (hb : y.v.ownBlock = r.v.ownBlock ∨ ∃ g, y.v.ownBlock = some g ∧ w.heap.size ≤ g) : Fits (s.rowSet ix r y) a w' := by
  have hdist := hf.dist
  simp only [Sym.blocks] at hdist
  have hnd := List.nodup_append.1 hdist
  have hrm : r ∈ s.R := List.mem_of_getElem? hR
  have hkw : Kp (fun k => r.v.ownBlock = some k) w w' := ⟨hg.os, hg.tape, hg.output, hg.size, fun k hk hn => hg.block k hk (fun e => hn e.symm)⟩
  have hwlt := hf.block_lt
  refine ⟨hf.size, hf.defers, hf.env, hf.wf, ?_, ?_, ?_, ?_, hf.lb, hf.fresh, ?_⟩
  · by_cases hn : r.new = true
    · simp only [Sym.rowSet, hn, if_true]
      refine ⟨hkw.os.trans hf.kp.os, hkw.tape.trans hf.kp.tape, hkw.output.trans hf.kp.output, Nat.le_trans hf.kp.size hkw.size, fun k hk hd => ?_⟩
      rw [hkw.block k (Nat.lt_of_lt_of_le hk hf.kp.size) (fun e => by have := hf.rfresh ix r hR hn k e; omega)]
      exact hf.kp.block k hk hd
    · simp only [Sym.rowSet, hn]
      exact (hf.kp.mono fun k _ h => Or.inr h).trans (hkw.mono fun k _ h => Or.inl h)
  · intro j bx hj
    refine hkw.heap (hf.loc j bx hj) ?_
    intro e
    exact hnd.2.2 bx.b (List.mem_filterMap.2 ⟨r, hrm, e⟩) bx.b (List.mem_map.2 ⟨bx, List.mem_of_getElem? hj, rfl⟩) rfl
  · intro j r' hj
    simp only [Sym.rowSet, setRw_get] at hj
    split at hj
    · obtain ⟨_, _, rfl⟩ := Option.map_eq_some_iff.1 hj
      exact hown
    · rename_i hij
      refine ownsRow_kp (hf.row j r' hj) hkw ?_
      intro g hg1 hg2
      -- two rows with one block
      have key : ∀ (R : List Rw) (i j : Nat) (x y : Rw) (g : Nat), (R.filterMap (fun r => r.v.ownBlock)).Nodup → R[i]? = some x → R[j]? = some y → x.v.ownBlock = some g → y.v.ownBlock = some g → i = j := by
        intro R
        induction R with
        | nil => intro i j x y g _ h; simp at h
        | cons u R ih =>
          intro i j x y g hn hi hj hx hy
          cases i with
          | zero =>
            cases j with
            | zero => rfl
            | succ j =>
              simp at hi hj
              subst hi
              simp only [List.filterMap_cons, hx, List.nodup_cons] at hn
              exact absurd (List.mem_filterMap.2 ⟨y, List.mem_of_getElem? hj, hy⟩) hn.1
          | succ i =>
            cases j with
            | zero =>
              simp at hi hj
              subst hj
              simp only [List.filterMap_cons, hy, List.nodup_cons] at hn
              exact absurd (List.mem_filterMap.2 ⟨x, List.mem_of_getElem? hi, hx⟩) hn.1
            | succ j =>
              simp at hi hj
              have hn' : (R.filterMap (fun r => r.v.ownBlock)).Nodup := by
                simp only [List.filterMap_cons] at hn
                split at hn
                · exact hn
                · exact (List.nodup_cons.1 hn).2
              rw [ih i j x y g hn' hi hj hx hy]
      exact hij (key s.R ix j r r' g hnd.1 hR hj hg2 hg1)
  · refine rowSet_dist hR hdist ?_
    rcases hb with hb | hb
    · exact .inl hb
    · obtain ⟨g, hb, hge⟩ := hb
      exact .inr ⟨g, hb, fun hm => by have := hwlt _ hm; omega⟩
  · intro j r' hj hn g hg'
    simp only [Sym.rowSet, setRw_get] at hj
    split at hj
    · obtain ⟨_, _, rfl⟩ := Option.map_eq_some_iff.1 hj
      rcases hb with hb | hb
      · exact hf.rfresh ix r hR (hnew hn) g (hb ▸ hg')
      · obtain ⟨g2, hb, hge⟩ := hb
        rw [hb] at hg'
        obtain rfl := Option.some.inj hg'
        exact Nat.le_trans hf.kp.size hge
    · exact hf.rfresh j r' hj hn g hg'


/-- The state behind a call that was handed a row and gave it back. -/
def Sym.reR (s : Sym) (w w2 : World) (ix : Nat) (r y : Rw) : Sym := ((s.rebase w).rowSet ix { r with new := false } y).rebase w2

theorem sst_call_row {tb : Tb} (ht : TbOk P tb) {l : List Oper} {i : Nat} {o : Oper} {rest : List (Nat × Oper)} {fx : Operand} {ags : Array Operand} {ats : Array TypeId}
    (hop : o.op = .call { callee := .value fx, args := ags, argTypes := ats }) (hg : guardV l s o.guard = some true) (hd : dok s o.dst = true) (hnk : nk.contains i = true)
    {f : FuncId} {first captured : List Value} (hfx : evS s fx = some (.val (.func (.func f) first.toArray captured.toArray))) (hfn : tb.fn f = true)
    {vs args : List Value} (hvs : evArgs s ags.toList = some vs) (hargs' : first ++ vs ++ captured = args) (ix : Nat) {r : Rw} (hR : s.R[ix]? = some r) (R : Value → Nat → List Value → World → World → Prop)
    (hc : ∀ w1, At s w1 → Calls P f args.toArray w1 (fun e w2 => ∃ v n xs, e = .returned v ∧ Kp (fun k => r.v.ownBlock = some k) w1 w2 ∧ w2.ownsRow s.base r.e r.size v n xs ∧
      (v.ownBlock = r.v.ownBlock ∨ ∃ g, v.ownBlock = some g ∧ w1.heap.size ≤ g) ∧ R v n xs w1 w2))
    (h : ∀ v n xs w1 w2, At s w1 → Kp (fun k => r.v.ownBlock = some k) w1 w2 → w2.ownsRow s.base r.e r.size v n xs → (v.ownBlock = r.v.ownBlock ∨ ∃ g, v.ownBlock = some g ∧ w1.heap.size ≤ g) → R v n xs w1 w2 →
      SSeq P l.toArray nk Q rest ((s.reR w1 w2 ix r ⟨v, r.e, r.size, n, xs, false⟩).put o.dst (.val v))) : SSt P l nk Q ((i, o) :: rest) s := by
  intro a w hf
  simp only [wpSeqK]
  rw [if_pos (guardV_eq hf hg)]
  refine .inr ⟨by rw [hop]; rfl, ?_⟩
  subst hargs'
  have hargs : ags.map a.eval = vs.toArray := by
    rw [← evArgs_eq hf hvs]; apply Array.ext'; simp
  have hrun : (execOp a.eval o).run P w = .ok (.enter f (first ++ vs ++ captured).toArray) w := by
    unfold execOp
    simp only [hop]
    simp [resolve, hargs, (hf.ev hfx).1, den, Deferred.ofValue, invoke, run_callFunc ht hfn]
  unfold Oper.wp
  rw [hrun]
  simp only [Oper.upon]
  refine (hc w hf.at).mono ?_
  rintro e w2 ⟨v, n, xs, rfl, hk, hown, hb, hRR⟩
  refine ⟨fun hn => (by rw [hnk] at hn; cases hn), h v n xs w w2 hf.at hk hown hb hRR _ _ ?_⟩
  have hf1 := hf.rebase
  have hR1 : (s.rebase w).R[ix]? = some { r with new := false } := by
    simp only [Sym.rebase, oldR, List.getElem?_map, hR, Option.map_some]
  have hf2 := hf1.rowSet2 (y := ⟨v, r.e, r.size, n, xs, false⟩) hR1 hown ⟨hk.os, hk.tape, hk.output, hk.size, fun k h1 h2 => hk.block k h1 (fun e => h2 e.symm)⟩ (fun h => (by cases h)) hb
  exact (hf2.rebase).put (d := o.dst) (sv := .val v) (by cases hd' : o.dst with | none => rfl | some d => rw [hd'] at hd; exact hd) trivial

/-- A row that is known from outside. -/
theorem Fits.addOwn {a : Act} {w : World} (hf : Fits s a w) {e size n : Nat} {v : Value} {xs : List Value} (hown : w.ownsRow s.base e size v n xs) (hn : ∀ g, v.ownBlock = some g → g ∉ s.blocks) :
    Fits (s.addR ⟨v, e, size, n, xs, false⟩) a w := by
  refine ⟨hf.size, hf.defers, hf.env, hf.wf, hf.kp, hf.loc, ?_, ?_, hf.lb, hf.fresh, ?_⟩
  · intro i r hi
    simp only [Sym.addR, List.getElem?_append] at hi
    split at hi
    · exact hf.row i r hi
    · have := List.mem_of_getElem? hi
      simp at this
      subst this
      exact hown
  · have h2 := hf.dist
    cases hv : v.ownBlock with
    | none => simpa [Sym.blocks, Sym.addR, List.filterMap_append, hv] using h2
    | some g =>
      have h3 := hn g hv
      simp only [Sym.blocks, Sym.addR, List.filterMap_append, List.filterMap_cons, hv, List.filterMap_nil, List.append_assoc] at h2 h3 ⊢
      rw [List.nodup_append] at h2 ⊢
      simp only [List.mem_append, not_or] at h3
      refine ⟨h2.1, ?_, ?_⟩
      · simp only [List.singleton_append, List.nodup_cons]
        exact ⟨h3.2, h2.2.1⟩
      · intro x hx y hy e
        subst e
        simp only [List.singleton_append, List.mem_cons] at hy
        rcases hy with rfl | hy
        · exact h3.1 hx
        · exact h2.2.2 x hx x hy rfl
  · intro i r hi hn g hg
    simp only [Sym.addR, List.getElem?_append] at hi
    split at hi
    · exact hf.rfresh i r hi hn g hg
    · have := List.mem_of_getElem? hi
      simp at this
      subst this
      cases hn

theorem swp_addOwn {c : Code} {e size n : Nat} {v : Value} {xs : List Value} (hown : ∀ w, At s w → w.ownsRow s.base e size v n xs ∧ ∀ g, v.ownBlock = some g → g ∉ s.blocks)
    (h : SWp P c Q (s.addR ⟨v, e, size, n, xs, false⟩)) : SWp P c Q s :=
  fun a w hf => h a w (hf.addOwn (hown w hf.at).1 (hown w hf.at).2)
theorem sst_addOwn {l : List Oper} {l1 : List (Nat × Oper)} {e size n : Nat} {v : Value} {xs : List Value} (hown : ∀ w, At s w → w.ownsRow s.base e size v n xs ∧ ∀ g, v.ownBlock = some g → g ∉ s.blocks)
    (h : SSt P l nk Q l1 (s.addR ⟨v, e, size, n, xs, false⟩)) : SSt P l nk Q l1 s :=
  fun a w hf => h a w (hf.addOwn (hown w hf.at).1 (hown w hf.at).2)
end Go.Fw

set_option linter.unusedVariables false
set_option linter.unusedSimpArgs false
namespace Go.Fw
open Go

/-- Orders of a region: a row of steps, and behind it the rows that may follow. -/
inductive OT where
  | mk (l : List Nat) (ts : List OT)

def OT.headIs : OT → Nat → Bool
  | .mk (i :: _) _, j => i == j
  | .mk [] _, _ => false

section
variable {P : Program} {ops : Array Oper} {md : Region.Mode} {nk : List Nat} {R : Act → World → Prop}

def okTr (md : Region.Mode) (ops : Array Oper) (nk : List Nat) : Nat → List Nat → List OT → Nat → Array Bool → Bool
  | 0, _, _, _, _ => false
  | d + 1, [], ts, n, listed => if ts.isEmpty then (Region.ready md ops listed).isEmpty else
      decide (0 < n) && !(Region.ready md ops listed).isEmpty && (Region.ready md ops listed).all (fun j => ts.any fun t => t.headIs j) &&
      ts.all (fun t => match t with | .mk (j :: l) ts' => okTr md ops nk d l ts' (n - 1) (listed.setIfInBounds j true) | .mk [] _ => false)
  | d + 1, i :: l, ts, n, listed => decide (0 < n) && (match ops[i]? with
      | none => false
      | some o => if quietK o.op then (Region.ready md ops listed).contains i && freeK md ops nk listed i else Region.ready md ops listed == [i]) &&
      okTr md ops nk d l ts (n - 1) (listed.setIfInBounds i true)

def wpTr (P : Program) (ops : Array Oper) (nk : List Nat) (R : Act → World → Prop) : Nat → List Nat → List OT → Act → World → Prop
  | 0, _, _ => fun _ _ => False
  | d + 1, l, ts => wpSeqK P ops nk (fun e a w => match e with
      | .normal => if ts.isEmpty then R a w else ∀ t ∈ ts, match t with | .mk l' ts' => wpTr P ops nk R d l' ts' a w
      | _ => False) (ordL ops l)

def NQ (R : Act → World → Prop) : Exit → Act → World → Prop
  | .normal, a, w => R a w
  | _, _, _ => False

theorem wpAnyK_end (n : Nat) (listed : Array Bool) (a : Act) (w : World) (h : Region.ready md ops listed = []) (hR : R a w) : wpAnyK P md ops nk (NQ R) n listed a w := by
  cases n with
  | zero => exact ⟨h, hR⟩
  | succ n => exact ⟨fun _ => hR, fun i hi => by rw [h] at hi; cases hi⟩

/-- One step, whatever it is. -/
theorem wpOp_of_step {Q Q' : Exit → Act → World → Prop} {i : Nat} {o : Oper} {l : List (Nat × Oper)} {a : Act} {w : World} {K : Act → World → Prop} (ho : ops[i]? = some o) (hQ : ∀ c a w, ¬ Q (.panic c) a w) (hQo : ∀ a w, ¬ Q .outgrown a w)
    (h : wpSeqK P ops nk Q ((i, o) :: l) a w) (hK : ∀ a' w', (nk.contains i = false → Kp No w w') → wpSeqK P ops nk Q l a' w' → K a' w') : wpOp P ops Q' i K a w := by
  simp only [wpSeqK] at h
  unfold wpOp
  simp only [ho]
  split
  · rename_i hw
    rw [if_pos hw] at h
    refine .inl ?_
    rcases h with ⟨v, hv, hr'⟩ | ⟨_, hr'⟩
    · exact wp_of_value (hv w (Kp.refl _ _)) (hK _ _ (fun _ => Kp.refl _ _) hr')
    · refine Oper.wp_mono (K := fun a' w' => (nk.contains i = false → Kp No w w') ∧ wpSeqK P ops nk Q l a' w') (fun a' w' h' => hK _ _ h'.1 h'.2) ?_
      unfold Oper.wp at hr' ⊢
      generalize (execOp a.eval o).run P w = r at *
      cases r with
      | ok n w' =>
        cases n with
        | enter f args =>
          refine Calls.mono (P := P) hr' ?_
          intro e w2 he
          cases e with
          | returned v => exact he
          | panicked c => exact absurd he (hQ _ _ _)
          | outgrown => obtain ⟨a, w, h⟩ := he; exact absurd h (hQo _ _)
        | _ => exact hr'
      | halt hh w' => cases hh <;> first | exact absurd hr' (hQ _ _ _) | exact hr'
  · rename_i hw
    rw [if_neg hw] at h
    exact hK _ _ (fun _ => Kp.refl _ _) h

theorem wpAnyK_of_tr (hs : Region.noSelect ops = true) : ∀ (d : Nat) (l : List Nat) (ts : List OT) (n d2 : Nat) (listed : Array Bool) (a : Act) (w : World), Closed md ops listed →
    okTr md ops nk d l ts n listed = true → wpTr P ops nk R d2 l ts a w → wpAnyK P md ops nk (NQ R) n listed a w
  | 0, _, _, _, _, _, _, _, _, hok, _ => by cases hok
  | d + 1, l, ts, n, 0, listed, a, w, _, _, h => h.elim
  | d + 1, [], ts, n, d2 + 1, listed, a, w, hcl, hok, h => by
    simp only [okTr] at hok
    simp only [wpTr, ordL, List.filterMap_nil, wpSeqK] at h
    split at hok
    · rename_i he
      rw [if_pos he] at h
      exact wpAnyK_end n listed a w (by simpa using hok) h
    · rename_i he
      rw [if_neg he] at h
      simp only [Bool.and_eq_true, decide_eq_true_eq, List.all_eq_true, List.any_eq_true] at hok
      obtain ⟨⟨⟨hn, hne⟩, hheads⟩, hts⟩ := hok
      obtain ⟨n, rfl⟩ : ∃ m, n = m + 1 := ⟨n - 1, by omega⟩
      have step : ∀ j ∈ Region.ready md ops listed, wpOp P ops (NQ R) j (fun a' w' => (nk.contains j = false → Kp No w w') ∧ wpAnyK P md ops nk (NQ R) n (listed.setIfInBounds j true) a' w') a w := by
        intro j hj
        obtain ⟨t, ht, htj⟩ := hheads j hj
        have h1 := h t ht
        have h2 := hts t ht
        obtain ⟨tl, tts⟩ := t
        cases tl with
        | nil => cases h2
        | cons i tl =>
          simp only [OT.headIs, beq_iff_eq] at htj
          subst htj
          obtain ⟨_, o, ho, _⟩ := mem_ready.1 hj
          cases d2 with
          | zero => exact h1.elim
          | succ d2 =>
            simp only [wpTr, ordL, List.filterMap_cons, ho, Option.map_some] at h1
            refine wpOp_of_step ho (fun _ _ _ h => h) (fun _ _ h => h) h1 fun a' w' hk hr => ⟨hk, ?_⟩
            refine wpAnyK_of_tr hs d tl tts n (d2 + 1) _ a' w' (ready_closed hcl hj) h2 ?_
            simp only [wpTr]
            exact hr
      exact ⟨fun h0 => (by rw [h0] at hne; cases hne), step⟩
  | d + 1, i :: l, ts, n, d2 + 1, listed, a, w, hcl, hok, h => by
    simp only [okTr, Bool.and_eq_true, decide_eq_true_eq] at hok
    obtain ⟨⟨hn, h1⟩, h2⟩ := hok
    obtain ⟨n, rfl⟩ : ∃ m, n = m + 1 := ⟨n - 1, by omega⟩
    cases ho : ops[i]? with
    | none => simp [ho] at h1
    | some o =>
      simp only [ho] at h1
      simp only [wpTr, ordL, List.filterMap_cons, ho, Option.map_some] at h
      have ih := fun a w (hr : i ∈ Region.ready md ops listed) hh => wpAnyK_of_tr hs d l ts n (d2 + 1) (listed.setIfInBounds i true) a w (ready_closed hcl hr) h2 (by simp only [wpTr]; exact hh)
      by_cases hq : quietK o.op = true
      · simp only [hq, if_true, Bool.and_eq_true] at h1
        simp only [wpSeqK] at h
        have hr : i ∈ Region.ready md ops listed := by simpa using h1.1
        by_cases hw : Region.wanted o (yielded ops a.tmps) = true
        · rw [if_pos hw] at h
          rcases h with ⟨v, hv, hr'⟩ | ⟨hn, _⟩
          · exact wpAnyK_first ho (Region.noSelect_spec hs) (fun c a w h => h.elim) _ listed a w hcl (freeK_spec ho h1.2) hr (.inl ⟨hw, fun w' hw' => hv w' hw'⟩) (ih _ _ hr hr')
          · rw [hq] at hn; cases hn
        · rw [if_neg hw] at h
          exact wpAnyK_first (v := undef) ho (Region.noSelect_spec hs) (fun c a w h => h.elim) _ listed a w hcl (freeK_spec ho h1.2) hr (.inr ⟨by simpa using hw, rfl⟩) (ih _ _ hr h)
      · simp only [hq] at h1
        have hr1 : Region.ready md ops listed = [i] := by simpa using h1
        have hr : i ∈ Region.ready md ops listed := by rw [hr1]; exact List.mem_singleton.2 rfl
        refine ⟨fun h0 => (by rw [hr1] at h0; cases h0), fun j hj => ?_⟩
        rw [hr1] at hj
        have hji : j = i := by simpa using hj
        subst hji
        exact wpOp_of_step ho (fun _ _ _ h => h) (fun _ _ h => h) h fun a' w' hk hr' => ⟨hk, ih _ _ hr hr'⟩

section
variable {Q : Exit → Act → World → Prop} {s : Sym}

def STr (P : Program) (ops : Array Oper) (nk : List Nat) (Q : Exit → Act → World → Prop) (d : Nat) (l : List Nat) (ts : List OT) (s : Sym) : Prop :=
  ∀ a w, Fits s a w → wpTr P ops nk (Q .normal) d l ts a w

def ForkQ (P : Program) (ops : Array Oper) (nk : List Nat) (Q : Exit → Act → World → Prop) (d : Nat) (ts : List OT) : Exit → Act → World → Prop
  | .normal, a, w => if ts.isEmpty then Q .normal a w else ∀ t ∈ ts, match t with | .mk l' ts' => wpTr P ops nk (Q .normal) d l' ts' a w
  | _, _, _ => False

theorem swp_drawT {id : Nat} {l : List Oper} (hm : P.follows .mixedOrders = true) (l0 : List Nat) (ts : List OT) (d : Nat) (nk : List Nat) (hs : Region.noSelect l.toArray = true)
    (hok : okTr .any l.toArray nk d l0 ts l.length (Array.replicate l.length false) = true) (h : STr P l.toArray nk Q d l0 ts s) : SWp P (.region id l.toArray true) Q s := by
  intro a w hf
  refine Code.wp_mono (Q := NQ (Q .normal)) (fun e a w h => by cases e <;> first | exact h | exact h.elim) ?_
  refine wp_region_any hm (wpAny_of_K (nk := nk) _ _ _ _ ?_)
  refine wpAnyK_of_tr hs d l0 ts _ d _ _ _ ?_ (by simpa using hok) (h a _ hf.drew)
  intro k ok hk hl'
  have hlt := (Array.getElem?_eq_some_iff.1 hk).1
  simp at hl' hlt
  simp [hlt] at hl'

theorem str_mk {d : Nat} {l : List Nat} {ts : List OT} {ls : List Oper} (h : SSeq P ls.toArray nk (ForkQ P ls.toArray nk Q d ts) (ordL ls.toArray l) s) : STr P ls.toArray nk Q (d + 1) l ts s := by
  intro a w hf
  have h1 := h a w hf
  simp only [wpTr]
  have he : (fun (e : Exit) (a : Act) (w : World) => match e with
      | .normal => if ts.isEmpty then Q .normal a w else ∀ t ∈ ts, match t with | .mk l' ts' => wpTr P ls.toArray nk (Q .normal) d l' ts' a w
      | _ => False) = ForkQ P ls.toArray nk Q d ts := by
    funext e a w
    cases e <;> rfl
  rw [he]
  exact h1

theorem sq_fork_end {d : Nat} (h : SQ Q .normal s) : SQ (ForkQ P ops nk Q d []) .normal s := h
theorem sq_fork2 {d : Nat} {l1 l2 : List Nat} {t1 t2 : List OT} (h1 : STr P ops nk Q d l1 t1 s) (h2 : STr P ops nk Q d l2 t2 s) : SQ (ForkQ P ops nk Q d [.mk l1 t1, .mk l2 t2]) .normal s := by
  intro a w hf
  show ∀ t ∈ [OT.mk l1 t1, OT.mk l2 t2], _
  intro t ht
  simp only [List.mem_cons, List.mem_nil_iff, or_false] at ht
  rcases ht with rfl | rfl
  · exact h1 a w hf
  · exact h2 a w hf
theorem sq_fork3 {d : Nat} {l1 l2 l3 : List Nat} {t1 t2 t3 : List OT} (h1 : STr P ops nk Q d l1 t1 s) (h2 : STr P ops nk Q d l2 t2 s) (h3 : STr P ops nk Q d l3 t3 s) : SQ (ForkQ P ops nk Q d [.mk l1 t1, .mk l2 t2, .mk l3 t3]) .normal s := by
  intro a w hf
  show ∀ t ∈ [OT.mk l1 t1, OT.mk l2 t2, OT.mk l3 t3], _
  intro t ht
  simp only [List.mem_cons, List.mem_nil_iff, or_false] at ht
  rcases ht with rfl | rfl | rfl
  · exact h1 a w hf
  · exact h2 a w hf
  · exact h3 a w hf
end
end
end Go.Fw

set_option linter.unusedVariables false
set_option linter.unusedSimpArgs false
namespace Go.Fw
open Go
theorem swp_cond_st {P : Program} {Q : Exit → Act → World → Prop} {s : Sym} {c : Operand} {x y : Code} (hc : evS s c = some (.sb true)) (ht : SWp P x Q s) : SWp P (.cond c x y) Q s :=
  swp_condS hc (fun _ => ht) (fun h => by cases h)
theorem swp_cond_sf {P : Program} {Q : Exit → Act → World → Prop} {s : Sym} {c : Operand} {x y : Code} (hc : evS s c = some (.sb false)) (ht : SWp P y Q s) : SWp P (.cond c x y) Q s :=
  swp_condS hc (fun h => by cases h) (fun _ => ht)

attribute [go_sem] evalOps evalOp guardV getO evS look evArgs evParts binV binB binN boolV isUndef getA takeC putL bldL Sym.put Sym.know Sym.addL Sym.addR Sym.rowSet Sym.rebase Sym.stored setBx setRw oldL oldR dok start argEnv den bxb lexL ordL undef toSV valOf den_toSV resVs resV subE List.zipIdx List.zipIdx_cons List.zipIdx_nil List.map_cons List.map_nil List.filterMap_cons List.filterMap_nil Option.bind_some Option.bind_none Option.map_some Option.map_none Option.isSome_some Option.isSome_none List.append_nil List.nil_append List.cons_append List.getElem?_cons_zero List.getElem?_cons_succ List.getElem?_nil List.length_cons List.length_nil List.drop_succ_cons List.drop_zero List.take_succ_cons List.take_zero List.take_nil List.drop_nil List.set_cons_zero List.set_cons_succ List.getElem?_toArray Nat.zero_add Nat.add_zero if_true if_false ite_true ite_false decide_true decide_false Bool.not_true Bool.not_false beq_self_eq_true Bool.true_and Bool.and_true Bool.false_and Bool.and_false eq_self and_self List.size_toArray Nat.lt_irrefl Value.cells zrep Nat.zero_mul Sym.reR
attribute [go_sem] fo_26_0 fo_26_1 fo_26_2 fo_26_3 fo_26_4 pl_26 fo_114_0 fo_114_1 pl_114 fo_35_0 fo_35_1 fo_35_2 fo_35_3 fo_35_4 fo_35_5 fo_35_6 fo_35_7 fo_35_8 pl_35 fo_32_0 fo_32_1 fo_32_2 fo_32_3 fo_32_4 fo_32_5 fo_32_6 pl_32 fo_29_0 fo_29_1 fo_29_2 pl_29 fo_40_0 fo_40_1 fo_40_2 fo_40_3 pl_40 fo_51_0 fo_51_1 fo_51_2 fo_51_3 fo_51_4 pl_51 fo_70_0 fo_70_1 fo_70_2 fo_70_3 fo_70_4 fo_70_5 fo_70_6 fo_70_7 fo_70_8 pl_70 fo_96_0 fo_96_1 fo_96_2 fo_96_3 fo_96_4 pl_96 fo_102_0 fo_102_1 fo_102_2 fo_102_3 fo_102_4 fo_102_5 fo_102_6 fo_102_7 fo_102_8 fo_102_9 fo_102_10 fo_102_11 pl_102 fo_104_0 fo_104_1 fo_104_2 fo_104_3 fo_104_4 pl_104 fo_125_0 fo_125_1 pl_125 fo_203_0 fo_203_1 fo_203_2 pl_203 fo_214_0 fo_214_1 pl_214 fo_220_0 fo_220_1 pl_220 fo_224_0 fo_224_1 pl_224 fo_231_0 fo_231_1 pl_231 fo_274_0 fo_274_1 pl_274 fo_94_0 fo_94_1 fo_94_2 fo_94_3 fo_94_4 fo_94_5 fo_94_6 fo_94_7 fo_94_8 fo_94_9 fo_94_10 fo_94_11 fo_94_12 pl_94 fo_99_0 fo_99_1 fo_99_2 fo_99_3 fo_99_4 fo_99_5 fo_99_6 pl_99 sz_26 sz_114 sz_35 sz_3 sz_4 sz_9 sz_22 sz_23 sz_24 sz_33 sz_32 sz_29 sz_40 sz_111 sz_5 sz_71 sz_21 sz_27 sz_30 sz_51 sz_63 sz_66 sz_70 sz_79 sz_80 sz_96 sz_100 sz_102 sz_104 sz_106 sz_108 sz_125 sz_136 sz_163 sz_164 sz_195 sz_203 sz_214 sz_218 sz_220 sz_224 sz_225 sz_229 sz_231 sz_246 sz_254 sz_260 sz_269 sz_272 sz_274 sz_275 sz_294 sz_298 sz_301 sz_49 sz_90 sz_94 sz_99 el_22 el_23 el_24 el_33 el_27 el_30 el_63 el_66 el_79 el_80 el_100 el_106 el_136 el_218 el_246 el_49 el_90 zero_26 zero_114 zero_35 zero_3 zero_4 zero_9 zero_22 zero_23 zero_24 zero_33 zero_32 zero_29 zero_40 zero_111 zero_5 zero_71 zero_21 zero_27 zero_30 zero_51 zero_63 zero_66 zero_70 zero_79 zero_80 zero_96 zero_100 zero_102 zero_104 zero_106 zero_108 zero_125 zero_136 zero_163 zero_164 zero_195 zero_203 zero_214 zero_218 zero_220 zero_224 zero_225 zero_229 zero_231 zero_246 zero_254 zero_269 zero_274 zero_275 zero_294 zero_298 zero_301 zero_49 zero_90 zero_94 zero_99 bool_26 bool_114 bool_35 bool_3 bool_4 bool_9 bool_22 bool_23 bool_24 bool_33 bool_32 bool_29 bool_40 bool_111 bool_5 bool_71 bool_21 bool_27 bool_30 bool_51 bool_63 bool_66 bool_70 bool_79 bool_80 bool_96 bool_100 bool_102 bool_104 bool_106 bool_108 bool_125 bool_136 bool_163 bool_164 bool_195 bool_203 bool_214 bool_218 bool_220 bool_224 bool_225 bool_229 bool_231 bool_246 bool_254 bool_260 bool_269 bool_272 bool_274 bool_275 bool_294 bool_298 bool_301 bool_49 bool_90 bool_94 bool_99 str_9 intk_3 intk_5 intk_71 intk_21 intk_108 intk_163 intk_294 intk_301 el_26 el_114 el_35 el_3 el_4 el_9 el_32 el_29 el_40 el_111 el_5 el_71 el_21 el_51 el_70 el_96 el_102 el_104 el_108 el_125 el_163 el_164 el_195 el_203 el_214 el_220 el_224 el_225 el_229 el_231 el_254 el_260 el_269 el_272 el_274 el_275 el_294 el_298 el_301 el_94 el_99

/-- Both sides compute to one. -/
theorem EV {α : Sort _} {a b : α} (h : a = b := by simp only [go_sem, Nat.reduceAdd, Nat.reduceEqDiff, Nat.reduceLT, Nat.reduceLeDiff, reduceIte, reduceCtorEq]; rfl) : a = b := h
theorem AP {α : Sort _} {a b : α} (h : a = b := by simp only [List.nil_append, List.append_nil, List.cons_append]; rfl) : a = b := h
theorem G0 {p q : Prop} (h : q) (f : q → p := by first
    | exact sq_fork_end
    | exact swp_seq
    | exact swp_skip
    | exact swp_ret
    | exact swp_exit
    | exact swp_block
    | exact swp_region
    | exact sq_then
    | exact sq_then_ret
    | exact sq_then_exit
    | exact sq_in
    | exact sq_in_ret
    | exact sq_in_exit
    | exact sq_in_exit_ne rfl
    | exact sq_only
    | exact sst_nil
    | exact sseq_eval tb_ok EV
    | exact sst_store tb_ok rfl rfl rfl rfl rfl rfl EV rfl EV (by rfl) (by simp) (by rfl)
    | exact swp_cond_t rfl
    | exact swp_cond_f rfl) : p := f h
theorem Gt {p q : Prop} (h : q) (f : q → p := by first
    | exact sq_fork_end
    | exact swp_skip
    | exact swp_ret
    | exact swp_exit
    | exact sq_then
    | exact sq_then_ret
    | exact sq_then_exit
    | exact sq_in
    | exact sq_in_ret
    | exact sq_in_exit
    | exact sq_in_exit_ne rfl
    | exact sq_only
    | exact sst_nil
    | exact sseq_eval tb_ok EV
    | exact sst_store tb_ok rfl rfl rfl rfl rfl rfl EV rfl EV (by rfl) (by simp) (by rfl)
    | exact swp_cond_t rfl
    | exact swp_cond_f rfl) : p := f h
theorem Gr {p q : Prop} (h : q) (f : q → p := by first
    | exact sq_fork_end
    | exact swp_skip
    | exact swp_ret
    | exact swp_exit
    | exact swp_block
    | exact sq_then
    | exact sq_then_ret
    | exact sq_then_exit
    | exact sq_in
    | exact sq_in_ret
    | exact sq_in_exit
    | exact sq_in_exit_ne rfl
    | exact sq_only
    | exact sst_nil
    | exact sseq_eval tb_ok EV
    | exact sst_store tb_ok rfl rfl rfl rfl rfl rfl EV rfl EV (by rfl) (by simp) (by rfl)
    | exact swp_cond_t rfl
    | exact swp_cond_f rfl) : p := f h
theorem Gc {p q : Prop} (h : q) (f : q → p := by first
    | exact sq_fork_end
    | exact swp_seq
    | exact swp_skip
    | exact swp_ret
    | exact swp_exit
    | exact swp_block
    | exact swp_region
    | exact sq_then
    | exact sq_then_ret
    | exact sq_then_exit
    | exact sq_in
    | exact sq_in_ret
    | exact sq_in_exit
    | exact sq_in_exit_ne rfl
    | exact sq_only
    | exact sst_nil
    | exact sseq_eval tb_ok EV
    | exact sst_store tb_ok rfl rfl rfl rfl rfl rfl EV rfl EV (by rfl) (by simp) (by rfl)
    | exact swp_cond_t rfl
    | exact swp_cond_f rfl
    | exact swp_cond_st rfl
    | exact swp_cond_sf rfl) : p := f h
theorem Gk {p q : Prop} (h : q) (f : q → p := by first
    | exact sq_fork_end
    | exact swp_seq
    | exact swp_skip
    | exact swp_ret
    | exact swp_exit
    | exact swp_block
    | exact swp_region
    | exact sq_then
    | exact sq_then_ret
    | exact sq_then_exit
    | exact sq_in
    | exact sq_in_ret
    | exact sq_in_exit
    | exact sq_in_exit_ne rfl
    | exact sq_only
    | exact sst_nil
    | exact sseq_eval tb_ok EV
    | exact sst_store tb_ok rfl rfl rfl rfl rfl rfl EV rfl EV (by rfl) (by simp) (by rfl)
    | exact swp_cond_t rfl
    | exact swp_cond_f rfl
    | exact fun h => sst_guard rfl rfl rfl (fun _ => h) (fun e => absurd e (by decide))
    | exact fun h => sst_guard rfl rfl rfl (fun e => absurd e (by decide)) (fun _ => h)
    | exact fun h => swp_if rfl (fun _ => h) (fun e => absurd e (by decide))
    | exact fun h => swp_if rfl (fun e => absurd e (by decide)) (fun _ => h)) : p := f h
/-- What is known of the slots. -/
theorem WKmk {s s' : Sym} {q : Prop} (h : q) (f : q → subE s'.env s.env := by first
    | (refine fun (_ : True) => ?_; simp only [go_sem, Nat.reduceAdd, Nat.reduceEqDiff, Nat.reduceLT, Nat.reduceLeDiff, reduceIte, reduceCtorEq]; done)
    | (refine fun h => ?_; simp only [go_sem, Nat.reduceAdd, Nat.reduceEqDiff, Nat.reduceLT, Nat.reduceLeDiff, reduceIte, reduceCtorEq]; exact h))
    (hR : s'.R.Sublist s.R := by first | exact List.Sublist.refl _ | simp [Sym.rebase, oldR])
    (h1 : s'.n = s.n := by rfl) (h2 : s'.base = s.base := by rfl) (h3 : s'.w = s.w := by rfl) (h4 : ∀ k, s.D k → s'.D k := by exact fun k h => h)
    (hL : ∃ L2, s.L = s'.L ++ L2 := by exact ⟨_, rfl⟩) (h5 : ∀ p ∈ s'.env, match p.2 with | .loc i _ => i < s'.L.length | _ => True := by simp) : Wk s s' :=
  ⟨h1, h2, h3, h4, hL, hR, f h, h5⟩
end Go.Fw

set_option linter.unusedVariables false
namespace Go.Fw
open Go

inductive Val where
  | mk (k n : Int) (t : ByteArray) (l : List Val) (d : List (ByteArray × Val))

namespace Val
def k : Val → Int | .mk k _ _ _ _ => k
def n : Val → Int | .mk _ n _ _ _ => n
def t : Val → ByteArray | .mk _ _ t _ _ => t
def l : Val → List Val | .mk _ _ _ l _ => l
def d : Val → List (ByteArray × Val) | .mk _ _ _ _ d => d
end Val

def cmpI (x y : Int) : Int := if x < y then -1 else if y < x then 1 else 0
abbrev cmpB (a b : List UInt8) : Int := Go.Lib.compareBytes a b

mutual
def cmpV : Val → Val → Int
  | .mk k n t l d, .mk k' n' t' l' d' =>
    if k ≠ k' then cmpI k k' else
    if k = 3 ∨ k = 9 ∨ k = 10 then cmpI n n' else
    if k = 4 ∨ k = 7 ∨ k = 8 then cmpB t.data.toList t'.data.toList else
    if k = 6 then cmpL l l' else
    if k = 5 then cmpD d d' else 0
def cmpL : List Val → List Val → Int
  | [], [] => 0
  | [], _ :: _ => -1
  | _ :: _, [] => 1
  | x :: xs, y :: ys => if cmpV x y ≠ 0 then cmpV x y else cmpL xs ys
def cmpD : List (ByteArray × Val) → List (ByteArray × Val) → Int
  | [], [] => 0
  | [], _ :: _ => -1
  | _ :: _, [] => 1
  | x :: xs, y :: ys => if cmpB x.1.data.toList y.1.data.toList ≠ 0 then cmpB x.1.data.toList y.1.data.toList else if cmpV x.2 y.2 ≠ 0 then cmpV x.2 y.2 else cmpD xs ys
end

/-! ### How a value lies in memory -/

def LIM : Nat := 140737488351232
theorem LIM_eq : LIM = 140737488351232 := rfl

def inI (n : Int) : Prop := -9223372036854775808 ≤ n ∧ n ≤ 9223372036854775807

/-- n elements of a size, from A on: element i's cells are C i. -/
def ElAt (S : Nat → Prop) (w : World) (A : Option Addr) (size n : Nat) (C : Nat → List Value) : Prop :=
  n = 0 ∨ ∃ b off, A = some ⟨b, off, none⟩ ∧ S b ∧ ∀ i, i < n → (C i).length = size ∧ RowAt w b (off + i * size) (C i)

inductive RepV (S : Nat → Prop) (w : World) : Val → List Value → Prop
  | mk {k n : Int} {t : ByteArray} {l : List Val} {d : List (ByteArray × Val)} {A A' : Option Addr} {c c' : Nat} (C C' C2 : Nat → List Value)
    (hk : inI k) (hn : inI n) (ht : t.size ≤ LIM) (hl : l.length * 80 ≤ LIM) (hd : d.length * 96 ≤ LIM) (hc : l.length ≤ c) (hc' : d.length ≤ c')
    (hA : ElAt S w A 5 l.length C) (hA' : ElAt S w A' 6 d.length C')
    (hl' : ∀ (i : Nat) (x : Val), l[i]? = some x → RepV S w x (C i))
    (hdn : ∀ (i : Nat) (f : ByteArray × Val), d[i]? = some f → C' i = .string f.1 :: C2 i ∧ f.1.size ≤ LIM)
    (hd' : ∀ (i : Nat) (f : ByteArray × Val), d[i]? = some f → RepV S w f.2 (C2 i)) :
    RepV S w (.mk k n t l d) [.int .i64 k, .int .i64 n, .string t, .slice A l.length c, .slice A' d.length c']

theorem RowAt.block_lt {w : World} {b off : Nat} {cs : List Value} (h : RowAt w b off cs) (h0 : 0 < cs.length) : b < w.heap.size := by
  have := h 0 cs[0] (by simp [h0])
  exact World.block_lt_of_cell? w _ this

theorem ElAt.to {S S' : Nat → Prop} {D : Nat → Prop} {w w' : World} {A : Option Addr} {size n : Nat} {C : Nat → List Value} (h : ElAt S w A size n C) (hs : 0 < size) (hk : Kp D w w')
    (hS : ∀ b, S b → b < w.heap.size → ¬ D b ∧ S' b) : ElAt S' w' A size n C := by
  rcases h with h | ⟨b, off, hA, hb, hi⟩
  · exact .inl h
  · rcases Nat.eq_zero_or_pos n with h0 | h0
    · exact .inl h0
    · have h1 := hi 0 h0
      have hlt := h1.2.block_lt (by rw [h1.1]; exact hs)
      have := hS b hb hlt
      exact .inr ⟨b, off, hA, this.2, fun i hin => ⟨(hi i hin).1, (hi i hin).2.kp hk this.1⟩⟩

theorem RepV.to {S S' : Nat → Prop} {D : Nat → Prop} {w w' : World} {v : Val} {cs : List Value} (h : RepV S w v cs) (hk : Kp D w w')
    (hS : ∀ b, S b → b < w.heap.size → ¬ D b ∧ S' b) : RepV S' w' v cs := by
  induction h with
  | mk C C' C2 hk' hn ht hl hd hc hc' hA hA' hl' hdn hd' ih1 ih2 =>
    exact .mk C C' C2 hk' hn ht hl hd hc hc' (hA.to (by omega) hk hS) (hA'.to (by omega) hk hS) ih1 hdn ih2

theorem RepV.kp {S : Nat → Prop} {w w' : World} {v : Val} {cs : List Value} (h : RepV S w v cs) (hk : Kp No w w') : RepV S w' v cs :=
  h.to hk fun b hb _ => ⟨id, hb⟩

/-- A slice of values. -/
def RepS (S : Nat → Prop) (w : World) (A : Option Addr) (n c : Nat) (l : List Val) : Prop :=
  n = l.length ∧ n * 80 ≤ LIM ∧ n ≤ c ∧ ∃ C, ElAt S w A 5 n C ∧ ∀ (i : Nat) (x : Val), l[i]? = some x → RepV S w x (C i)

/-- A slice of fields. -/
def RepD (S : Nat → Prop) (w : World) (A : Option Addr) (n c : Nat) (d : List (ByteArray × Val)) : Prop :=
  n = d.length ∧ n * 96 ≤ LIM ∧ n ≤ c ∧ ∃ C' C2 : Nat → List Value, ElAt S w A 6 n C' ∧ (∀ (i : Nat) (f : ByteArray × Val), d[i]? = some f → C' i = .string f.1 :: C2 i ∧ f.1.size ≤ LIM) ∧
    ∀ (i : Nat) (f : ByteArray × Val), d[i]? = some f → RepV S w f.2 (C2 i)

theorem RepS.to {S S' : Nat → Prop} {D : Nat → Prop} {w w' : World} {A : Option Addr} {n c : Nat} {l : List Val} (h : RepS S w A n c l) (hk : Kp D w w')
    (hS : ∀ b, S b → b < w.heap.size → ¬ D b ∧ S' b) : RepS S' w' A n c l :=
  let ⟨h1, h2, h3, C, h4, h5⟩ := h
  ⟨h1, h2, h3, C, h4.to (by omega) hk hS, fun i x hx => (h5 i x hx).to hk hS⟩
theorem RepD.to {S S' : Nat → Prop} {D : Nat → Prop} {w w' : World} {A : Option Addr} {n c : Nat} {l : List (ByteArray × Val)} (h : RepD S w A n c l) (hk : Kp D w w')
    (hS : ∀ b, S b → b < w.heap.size → ¬ D b ∧ S' b) : RepD S' w' A n c l :=
  let ⟨h1, h2, h3, C, C2, h4, h5, h6⟩ := h
  ⟨h1, h2, h3, C, C2, h4.to (by omega) hk hS, h5, fun i x hx => (h6 i x hx).to hk hS⟩
theorem RepS.kp {S : Nat → Prop} {w w' : World} {A : Option Addr} {n c : Nat} {l : List Val} (h : RepS S w A n c l) (hk : Kp No w w') : RepS S w' A n c l :=
  h.to hk fun b hb _ => ⟨id, hb⟩
theorem RepD.kp {S : Nat → Prop} {w w' : World} {A : Option Addr} {n c : Nat} {l : List (ByteArray × Val)} (h : RepD S w A n c l) (hk : Kp No w w') : RepD S w' A n c l :=
  h.to hk fun b hb _ => ⟨id, hb⟩

/-- The five cells of a value. -/
theorem RepV.parts {S : Nat → Prop} {w : World} {v : Val} {cs : List Value} (h : RepV S w v cs) :
    ∃ A c A' c', cs = [.int .i64 v.k, .int .i64 v.n, .string v.t, .slice A v.l.length c, .slice A' v.d.length c'] ∧ inI v.k ∧ inI v.n ∧ v.t.size ≤ LIM ∧ RepS S w A v.l.length c v.l ∧ RepD S w A' v.d.length c' v.d := by
  cases h with
  | mk C C' C2 hk' hn ht hl hd hc hc' hA hA' hl' hdn hd' =>
    exact ⟨_, _, _, _, rfl, hk', hn, ht, ⟨rfl, hl, hc, C, hA, hl'⟩, ⟨rfl, hd, hc', C', C2, hA', hdn, hd'⟩⟩

theorem RepV.of {S : Nat → Prop} {w : World} {k n : Int} {t : ByteArray} {l : List Val} {d : List (ByteArray × Val)} {A A' : Option Addr} {m m' c c' : Nat} (hk : inI k) (hn : inI n) (ht : t.size ≤ LIM)
    (hl : RepS S w A m c l) (hd : RepD S w A' m' c' d) : RepV S w (.mk k n t l d) [.int .i64 k, .int .i64 n, .string t, .slice A m c, .slice A' m' c'] := by
  obtain ⟨rfl, h2, h3, C, h4, h5⟩ := hl
  obtain ⟨rfl, g2, g3, C', C2, g4, g5, g6⟩ := hd
  exact .mk C C' C2 hk hn ht h2 g2 h3 g3 h4 g4 h5 g5 g6

theorem RepV.length {S : Nat → Prop} {w : World} {v : Val} {cs : List Value} (h : RepV S w v cs) : cs.length = 5 := by
  obtain ⟨A, c, A', c', rfl, _⟩ := h.parts; rfl

theorem RepS.nil (S : Nat → Prop) (w : World) (A : Option Addr) (c : Nat) : RepS S w A 0 c [] := ⟨rfl, by simp, by omega, fun _ => [], .inl rfl, fun i x h => by simp at h⟩
theorem RepD.nil (S : Nat → Prop) (w : World) (A : Option Addr) (c : Nat) : RepD S w A 0 c [] := ⟨rfl, by simp, by omega, fun _ => [], fun _ => [], .inl rfl, fun i x h => by simp at h, fun i x h => by simp at h⟩

/-- An element of a slice of values. -/
theorem RepS.get {S : Nat → Prop} {w : World} {A : Option Addr} {n c : Nat} {l : List Val} (h : RepS S w A n c l) {i : Nat} {x : Val} (hx : l[i]? = some x) :
    ∃ b off cs, A = some ⟨b, off, none⟩ ∧ S b ∧ i < n ∧ cs.length = 5 ∧ RowAt w b (off + i * 5) cs ∧ RepV S w x cs := by
  obtain ⟨h1, _, _, C, hE, hr⟩ := h
  have hlt : i < n := by rw [h1]; exact (List.getElem?_eq_some_iff.1 hx).1
  rcases hE with h0 | ⟨b, off, hA, hb, hi⟩
  · omega
  · exact ⟨b, off, C i, hA, hb, hlt, (hi i hlt).1, (hi i hlt).2, hr i x hx⟩

theorem RepD.get {S : Nat → Prop} {w : World} {A : Option Addr} {n c : Nat} {l : List (ByteArray × Val)} (h : RepD S w A n c l) {i : Nat} {f : ByteArray × Val} (hx : l[i]? = some f) :
    ∃ b off cs, A = some ⟨b, off, none⟩ ∧ S b ∧ i < n ∧ cs.length = 5 ∧ RowAt w b (off + i * 6) (.string f.1 :: cs) ∧ RepV S w f.2 cs ∧ f.1.size ≤ LIM := by
  obtain ⟨h1, _, _, C, C2, hE, hn, hr⟩ := h
  have hlt : i < n := by rw [h1]; exact (List.getElem?_eq_some_iff.1 hx).1
  rcases hE with h0 | ⟨b, off, hA, hb, hi⟩
  · omega
  · have h2 := hi i hlt
    have h3 := hn i f hx
    rw [h3.1] at h2
    exact ⟨b, off, C2 i, hA, hb, hlt, by simpa using h2.1, h2.2, hr i f hx, h3.2⟩
end Go.Fw
