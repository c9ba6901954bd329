/- The operations, one law each. Generic over the program. -/
import Derived.Test.YtpnjkjahfklfnaaFw2
set_option linter.unusedVariables false
set_option linter.unusedSimpArgs false
namespace Go.Proofs.Ytpnjkjahfklfnaa.Fw
open Go Go.RowKit

/-! ### Worlds -/
abbrev Ext (w w' : World) : Prop := Below w.heap.size w w'
/-- Block b alone is turned. -/
structure St (b : Nat) (w w' : World) : Prop where
  os : w'.os = w.os
  tape : w'.tape = w.tape
  output : w'.output = w.output
  size : w'.heap.size = w.heap.size
  block : ∀ k, k ≠ b → w'.heap[k]? = w.heap[k]?
/-- Block b is new. -/
structure New (w : World) (b : Nat) (o : Obj) (w' : World) : Prop where
  eq : b = w.heap.size
  ext : Ext w w'
  blk : w'.heap[b]? = some o
  size : w'.heap.size = w.heap.size + 1

theorem lt_of_blk {w : World} {b : Nat} {o : Obj} (h : w.heap[b]? = some o) : b < w.heap.size := (Array.getElem?_eq_some_iff.1 h).1
theorem Ext.blk {w w' : World} (e : Ext w w') {b : Nat} {o : Obj} (h : w.heap[b]? = some o) : w'.heap[b]? = some o := (e.block b (lt_of_blk h)).trans h
theorem St.blk {b : Nat} {w w' : World} (e : St b w w') {b' : Nat} {o : Obj} (h : w.heap[b']? = some o) (hne : b' ≠ b) : w'.heap[b']? = some o := (e.block b' hne).trans h
theorem below_ext {N : Nat} {w0 w w' : World} (h : Below N w0 w) (hN : N ≤ w.heap.size) (e : Ext w w') : Below N w0 w' := h.trans (e.mono hN)
theorem below_st {N : Nat} {w0 w w' : World} {b : Nat} (h : Below N w0 w) (hb : N ≤ b) (e : St b w w') : Below N w0 w' :=
  h.trans ⟨e.os, e.tape, e.output, Nat.le_of_eq e.size.symm, fun k hk => e.block k (Nat.ne_of_lt (Nat.lt_of_lt_of_le hk hb))⟩
theorem Drew.ext {w w' : World} (h : Drew w w') : Ext w w' := by
  subst h; exact ⟨rfl, rfl, rfl, Nat.le_refl _, fun _ _ => rfl⟩
theorem new_alloc (w : World) (o : Obj) : New w w.heap.size o (w.alloc o) :=
  ⟨rfl, (Below.refl _ _).alloc (Nat.le_refl _) o, heap_alloc_new w o, by simp⟩

section
variable {P : Program} {n : Nat} {fr : Fr} {w : World} {ty : TypeId}

/-! ### Plain ones -/
theorem dv_move {x : Operand} {v : Value} (h : EV n fr x v) : DV P n (.move x) ty fr w v := fun _ _ _ _ => by
  unfold EV at h; simp [execOp, h]
theorem dv_assign {x : Operand} {v : Value} (h : EV n fr x v) : DV P n (.assign x) ty fr w v := fun _ _ _ _ => by
  unfold EV at h; simp [execOp, h]
theorem dv_pick {c x y : Operand} {b : Bool} {v u : Value} (hc : EV n fr c (.bool b)) (hx : EV n fr x v) (hy : EV n fr y u) : DV P n (.pick c x y) ty fr w (if b then v else u) := fun _ _ _ _ => by
  unfold EV at hc hx hy
  simp [execOp, hc, hx, hy, asBool]
theorem dv_pick_t {c x y : Operand} {v : Value} (hc : EV n fr c (.bool true)) (hx : EV n fr x v) : DV P n (.pick c x y) ty fr w v := fun _ _ _ _ => by
  unfold EV at hc hx
  simp [execOp, hc, hx, asBool]
theorem dv_pick_f {c x y : Operand} {v : Value} (hc : EV n fr c (.bool false)) (hy : EV n fr y v) : DV P n (.pick c x y) ty fr w v := fun _ _ _ _ => by
  unfold EV at hc hy
  simp [execOp, hc, hy, asBool]
theorem dv_extract {x : Operand} {vs : Array Value} {i : Nat} {v : Value} (hx : EV n fr x (.tuple vs)) (hi : vs[i]? = some v) : DV P n (.extract x i) ty fr w v := fun _ _ _ _ => by
  unfold EV at hx
  simp [execOp, hx, Instr.extract, hi]
theorem dv_nilCheck {x : Operand} {a : Addr} (hx : EV n fr x (.pointer (some a))) : DV P n (.nilCheck x) ty fr w (.pointer (some a)) := fun _ _ _ _ => by
  unfold EV at hx
  simp [execOp, hx]
theorem dv_not {x : Operand} {b : Bool} {t : TypeId} (hx : EV n fr x (.bool b)) : DV P n (.unOp .not t x) ty fr w (.bool (!b)) := fun _ _ _ _ => by
  unfold EV at hx
  simp [execOp, hx, Op.unary]
theorem dv_notd {x : Operand} {p : Prop} [Decidable p] {t : TypeId} (hx : EV n fr x (.bool (decide p))) : DV P n (.unOp .not t x) ty fr w (.bool (decide (¬ p))) := fun _ _ _ _ => by
  unfold EV at hx
  simp [execOp, hx, Op.unary]
theorem dv_neg {x : Operand} {k : IntKind} {a z : Int} {t : TypeId} (hx : EV n fr x (.int k a)) (hz : k.wrap (0 - a) = z) : DV P n (.unOp .neg t x) ty fr w (.int k z) := fun _ _ _ _ => by
  unfold EV at hx
  subst hz
  simp [execOp, hx, Op.unary, Op.intArith]

/-! ### Whole numbers -/
theorem dv_add {x y : Operand} {k : IntKind} {a b z : Int} {t t' : TypeId} (hx : EV n fr x (.int k a)) (hy : EV n fr y (.int k b)) (hz : k.wrap (a + b) = z) : DV P n (.binOp .add t x y t') ty fr w (.int k z) := fun _ _ _ _ => by
  unfold EV at hx hy; subst hz
  simp [execOp, hx, hy, eqGuard, binOp, Op.intArith]
theorem dv_sub {x y : Operand} {k : IntKind} {a b z : Int} {t t' : TypeId} (hx : EV n fr x (.int k a)) (hy : EV n fr y (.int k b)) (hz : k.wrap (a - b) = z) : DV P n (.binOp .sub t x y t') ty fr w (.int k z) := fun _ _ _ _ => by
  unfold EV at hx hy; subst hz
  simp [execOp, hx, hy, eqGuard, binOp, Op.intArith]
theorem dv_mul {x y : Operand} {k : IntKind} {a b z : Int} {t t' : TypeId} (hx : EV n fr x (.int k a)) (hy : EV n fr y (.int k b)) (hz : k.wrap (a * b) = z) : DV P n (.binOp .mul t x y t') ty fr w (.int k z) := fun _ _ _ _ => by
  unfold EV at hx hy; subst hz
  simp [execOp, hx, hy, eqGuard, binOp, Op.intArith]
theorem dv_quo {x y : Operand} {k : IntKind} {a b z : Int} {t t' : TypeId} (hx : EV n fr x (.int k a)) (hy : EV n fr y (.int k b)) (hb : b ≠ 0) (hz : k.wrap (a.tdiv b) = z) : DV P n (.binOp .quo t x y t') ty fr w (.int k z) := fun _ _ _ _ => by
  unfold EV at hx hy; subst hz
  simp [execOp, hx, hy, eqGuard, binOp, Op.intDiv, hb]
theorem dv_rem {x y : Operand} {k : IntKind} {a b z : Int} {t t' : TypeId} (hx : EV n fr x (.int k a)) (hy : EV n fr y (.int k b)) (hb : b ≠ 0) (hz : a.tmod b = z) : DV P n (.binOp .rem t x y t') ty fr w (.int k z) := fun _ _ _ _ => by
  unfold EV at hx hy; subst hz
  simp [execOp, hx, hy, eqGuard, binOp, Op.intDiv, hb]
theorem dv_lss {x y : Operand} {k : IntKind} {a b : Int} {t t' : TypeId} (hx : EV n fr x (.int k a)) (hy : EV n fr y (.int k b)) : DV P n (.binOp .lss t x y t') ty fr w (.bool (decide (a < b))) := fun _ _ _ _ => by
  unfold EV at hx hy
  simp [execOp, hx, hy, eqGuard, binOp, Op.intCmp]
theorem dv_leq {x y : Operand} {k : IntKind} {a b : Int} {t t' : TypeId} (hx : EV n fr x (.int k a)) (hy : EV n fr y (.int k b)) : DV P n (.binOp .leq t x y t') ty fr w (.bool (decide (a ≤ b))) := fun _ _ _ _ => by
  unfold EV at hx hy
  simp [execOp, hx, hy, eqGuard, binOp, Op.intCmp]
theorem dv_gtr {x y : Operand} {k : IntKind} {a b : Int} {t t' : TypeId} (hx : EV n fr x (.int k a)) (hy : EV n fr y (.int k b)) : DV P n (.binOp .gtr t x y t') ty fr w (.bool (decide (b < a))) := fun _ _ _ _ => by
  unfold EV at hx hy
  simp [execOp, hx, hy, eqGuard, binOp, Op.intCmp]
theorem dv_geq {x y : Operand} {k : IntKind} {a b : Int} {t t' : TypeId} (hx : EV n fr x (.int k a)) (hy : EV n fr y (.int k b)) : DV P n (.binOp .geq t x y t') ty fr w (.bool (decide (b ≤ a))) := fun _ _ _ _ => by
  unfold EV at hx hy
  simp [execOp, hx, hy, eqGuard, binOp, Op.intCmp]
theorem dv_eql {x y : Operand} {k : IntKind} {a b : Int} {t t' : TypeId} (hx : EV n fr x (.int k a)) (hy : EV n fr y (.int k b)) : DV P n (.binOp .eql t x y t') ty fr w (.bool (decide (a = b))) := fun _ _ _ _ => by
  unfold EV at hx hy
  simp [execOp, hx, hy, eqGuard, binOp, Op.intCmp]
  by_cases h : a = b <;> simp [h]
theorem dv_neq {x y : Operand} {k : IntKind} {a b : Int} {t t' : TypeId} (hx : EV n fr x (.int k a)) (hy : EV n fr y (.int k b)) : DV P n (.binOp .neq t x y t') ty fr w (.bool (decide (a ≠ b))) := fun _ _ _ _ => by
  unfold EV at hx hy
  simp [execOp, hx, hy, eqGuard, binOp, Op.intCmp]
  by_cases h : a = b <;> simp [h, bne]
theorem dv_eqlb {x y : Operand} {a b : Bool} {t t' : TypeId} (ht : P.underlying t = some .bool) (hx : EV n fr x (.bool a)) (hy : EV n fr y (.bool b)) : DV P n (.binOp .eql t x y t') ty fr w (.bool (a == b)) := fun _ _ _ _ => by
  unfold EV at hx hy
  simp [execOp, hx, hy, eqGuard, run_eql_bool w t a b ht]
theorem dv_neqb {x y : Operand} {a b : Bool} {t t' : TypeId} (ht : P.underlying t = some .bool) (hx : EV n fr x (.bool a)) (hy : EV n fr y (.bool b)) : DV P n (.binOp .neq t x y t') ty fr w (.bool (a != b)) := fun _ _ _ _ => by
  unfold EV at hx hy
  simp [execOp, hx, hy, eqGuard, run_neq_bool w t a b ht, bne]
theorem dv_shl {x y : Operand} {k k' : IntKind} {a b z : Int} {t t' : TypeId} (hx : EV n fr x (.int k a)) (hy : EV n fr y (.int k' b)) (hb : 0 ≤ b) (hz : k.wrap (a * 2 ^ (min b.toNat k.bits)) = z) : DV P n (.binOp .shl t x y t') ty fr w (.int k z) := fun _ _ _ _ => by
  unfold EV at hx hy; subst hz
  simp [execOp, hx, hy, eqGuard, binOp, Op.shift, Int.not_lt.2 hb]
theorem dv_shr {x y : Operand} {k k' : IntKind} {a b z : Int} {t t' : TypeId} (hx : EV n fr x (.int k a)) (hy : EV n fr y (.int k' b)) (hb : 0 ≤ b) (hz : a.fdiv (2 ^ (min b.toNat k.bits)) = z) : DV P n (.binOp .shr t x y t') ty fr w (.int k z) := fun _ _ _ _ => by
  unfold EV at hx hy; subst hz
  simp [execOp, hx, hy, eqGuard, binOp, Op.shift, Int.not_lt.2 hb]
/-- What the bit operations say, as a word. -/
def bitV (k : IntKind) (op : BinOp) (x y : Int) : Int :=
  let a := BitVec.ofInt k.bits x
  let b := BitVec.ofInt k.bits y
  match op with
  | .and => k.wrap (a &&& b).toNat
  | .or => k.wrap (a ||| b).toNat
  | .xor => k.wrap (a ^^^ b).toNat
  | _ => 0
theorem dv_and {x y : Operand} {k : IntKind} {a b z : Int} {t t' : TypeId} (hx : EV n fr x (.int k a)) (hy : EV n fr y (.int k b)) (hz : bitV k .and a b = z) : DV P n (.binOp .and t x y t') ty fr w (.int k z) := fun _ _ _ _ => by
  unfold EV at hx hy; subst hz
  simp [execOp, hx, hy, eqGuard, binOp, Op.intBits, bitV]
theorem dv_or {x y : Operand} {k : IntKind} {a b z : Int} {t t' : TypeId} (hx : EV n fr x (.int k a)) (hy : EV n fr y (.int k b)) (hz : bitV k .or a b = z) : DV P n (.binOp .or t x y t') ty fr w (.int k z) := fun _ _ _ _ => by
  unfold EV at hx hy; subst hz
  simp [execOp, hx, hy, eqGuard, binOp, Op.intBits, bitV]
theorem dv_xor {x : Operand} {k : IntKind} {a z : Int} {t : TypeId} (hx : EV n fr x (.int k a)) (hz : bitV k .xor (if k.signed then -1 else k.max) a = z) : DV P n (.unOp .xor t x) ty fr w (.int k z) := fun _ _ _ _ => by
  unfold EV at hx; subst hz
  simp [execOp, hx, Op.unary, Op.intBits, bitV]
theorem dv_conv {x : Operand} {k k' : IntKind} {a z : Int} {t t' : TypeId} {d : TypeDesc} (h1 : P.underlying t = some d) (ht : P.underlying t' = some (.int k')) (hx : EV n fr x (.int k a)) (hz : k'.wrap a = z) : DV P n (.convert t t' x) ty fr w (.int k' z) := fun _ _ _ _ => by
  unfold EV at hx; subst hz
  cases d <;> simp [execOp, hx, convert, underlying, h1, ht, Conv.intToInt]

def mn (a b : Int) : Int := if b < a then b else a
def mx (a b : Int) : Int := if b > a then b else a
theorem dv_min {x y : Operand} {k k' : IntKind} {a b : Int} {tys : Array TypeId} (hx : EV n fr x (.int k a)) (hy : EV n fr y (.int k' b)) : DV P n (.call { callee := .builtin .min, args := #[x, y], argTypes := tys }) ty fr w (.int k (mn a b)) := fun _ _ _ _ => by
  unfold EV at hx hy
  simp [execOp, resolve, invoke, builtin, hx, hy, run_min_int2, mn]
theorem dv_max {x y : Operand} {k k' : IntKind} {a b : Int} {tys : Array TypeId} (hx : EV n fr x (.int k a)) (hy : EV n fr y (.int k' b)) : DV P n (.call { callee := .builtin .max, args := #[x, y], argTypes := tys }) ty fr w (.int k (mx a b)) := fun _ _ _ _ => by
  unfold EV at hx hy
  simp [execOp, resolve, invoke, builtin, hx, hy, run_max_int2, mx]

/-! ### Lengths, places, slices -/
theorem dv_len {x : Operand} {ad : Option Addr} {l c : Nat} {t e : TypeId} (ht : P.underlying t = some (.slice e)) (hx : EV n fr x (.slice ad l c)) :
    DV P n (.call { callee := .builtin .len, args := #[x], argTypes := #[t] }) ty fr w (.int .i64 l) := fun _ _ _ _ => by
  unfold EV at hx
  simp [execOp, resolve, invoke, builtin, hx, Builtin.len_, underlying, ht, goInt]
theorem dv_lens {x : Operand} {s : ByteArray} {t : TypeId} (ht : P.underlying t = some .string) (hx : EV n fr x (.string s)) :
    DV P n (.call { callee := .builtin .len, args := #[x], argTypes := #[t] }) ty fr w (.int .i64 s.size) := fun _ _ _ _ => by
  unfold EV at hx
  simp [execOp, resolve, invoke, builtin, hx, Builtin.len_, underlying, ht, goInt]
def fieldOffB (P : Program) (s i : Nat) : Option Nat :=
  match P.underlying s with
  | some (.struct fs) => match fs[i]? with
    | some f => match P.info? f.type with
      | some inf => if inf.size = 0 then none else some f.offset
      | none => none
    | none => none
  | _ => none
theorem dv_fieldAddr {s i : Nat} {x : Operand} {a a' : Addr} {off : Nat} (hf : fieldOffB P s i = some off) (hx : EV n fr x (.pointer (some a))) (ha : a.add off = a') :
    DV P n (.fieldAddr s x i) ty fr w (.pointer (some a')) := fun _ _ _ _ => by
  unfold EV at hx
  subst ha
  unfold fieldOffB at hf
  split at hf
  · rename_i fs hs
    split at hf
    · rename_i fl hfl
      split at hf
      · rename_i inf hin
        split at hf
        · cases hf
        · rename_i hne
          obtain rfl : fl.offset = off := by simpa using hf
          simp [execOp, hx, Instr.fieldAt, underlying, hs, hfl, Instr.sureAddr, fieldPlace, sizeOf, typeInfo, hin, hne]
      · cases hf
    · cases hf
  · cases hf
def sizeB (P : Program) (t : Nat) : Option Nat := (P.info? t).map (·.size)
theorem dv_indexAddr {t e : TypeId} {x i : Operand} {a a' : Addr} {l c sz : Nat} {k : IntKind} {j : Int} (ht : P.underlying t = some (.slice e)) (hs : sizeB P e = some sz)
    (hx : EV n fr x (.slice (some a) l c)) (hi : EV n fr i (.int k j)) (h0 : 0 ≤ j) (h1 : j < l) (ha : a.add (j.toNat * sz) = a') : DV P n (.indexAddr t x i) ty fr w (.pointer (some a')) := fun _ _ _ _ => by
  unfold EV at hx hi
  subst ha
  unfold sizeB at hs
  cases hin : P.info? e with
  | none => simp [hin] at hs
  | some inf =>
    obtain rfl : inf.size = sz := by simpa [hin] using hs
    simp [execOp, hx, hi, Instr.indexAt, asIntOf, underlying, ht, h0, h1, sizeOf, typeInfo, hin]
theorem dv_slice_h {t e : TypeId} {x h : Operand} {A : Option Addr} {l c sz : Nat} {k : IntKind} {j : Int} (ht : P.underlying t = some (.slice e)) (hs : sizeB P e = some sz)
    (hx : EV n fr x (.slice A l c)) (hh : EV n fr h (.int k j)) (h0 : 0 ≤ j) (h1 : j ≤ c) : DV P n (.slice t x none (some h) none) ty fr w (.slice A j.toNat c) := fun _ _ _ _ => by
  unfold EV at hx hh
  unfold sizeB at hs
  cases hin : P.info? e with
  | none => simp [hin] at hs
  | some inf =>
    obtain rfl : inf.size = sz := by simpa [hin] using hs
    simp [execOp, hx, hh, Instr.sliceAt, underlying, ht, Instr.slice, Instr.sliceBounds, Instr.sliceBound, asIntOf, h0, h1, sizeOf, typeInfo, hin]
    intro _
    cases A <;> simp [Addr.add]
theorem dv_index_s {t : TypeId} {x i : Operand} {s : ByteArray} {k : IntKind} {j z : Int} (ht : P.underlying t = some .string)
    (hx : EV n fr x (.string s)) (hi : EV n fr i (.int k j)) (h0 : 0 ≤ j) (h1 : j.toNat < s.size) (hz : ((s[j.toNat]'h1).toNat : Int) = z) : DV P n (.index t x i) ty fr w (.int .u8 z) := fun _ _ _ _ => by
  unfold EV at hx hi
  subst hz
  simp [execOp, hx, hi, Instr.index, asIntOf, underlying, ht, h0, h1]

/-! ### Loads -/
def aggB (P : Program) (t : Nat) : Option Bool := (P.underlying t).map fun | .struct _ | .array _ _ => true | _ => false
theorem run_isAgg {t : Nat} {b : Bool} (h : aggB P t = some b) : (isAgg t).run P w = .ok b w := by
  unfold aggB at h
  cases hu : P.underlying t with
  | none => simp [hu] at h
  | some d =>
    simp only [hu, Option.map_some, Option.some.injEq] at h
    subst h
    cases d <;> simp [isAgg, underlying, hu]
theorem run_sizeOf {t sz : Nat} (h : sizeB P t = some sz) : (sizeOf t).run P w = .ok sz w := by
  unfold sizeB at h
  cases hin : P.info? t with
  | none => simp [hin] at h
  | some inf =>
    obtain rfl : inf.size = sz := by simpa [hin] using h
    simp [sizeOf, typeInfo, hin]
theorem dv_load {t : TypeId} {x : Operand} {a : Addr} {v : Value} (ht : aggB P t = some false) (hx : EV n fr x (.pointer (some a))) (hc : w.cell? a = some v) : DV P n (.load t x) ty fr w v := fun _ _ _ _ => by
  unfold EV at hx
  simp [execOp, hx, Instr.loadAt, Instr.sureAddr, loadVar, run_isAgg ht, hc]
/-- A cell of a block. -/
theorem dv_load1 {t : TypeId} {x : Operand} {b o T : Nat} {cs : Array Value} {fz : Nat × Nat} {v : Value} (ht : aggB P t = some false) (hx : EV n fr x (.pointer (some ⟨b, o, none⟩))) (hb : w.heap[b]? = some (.cells cs T fz))
    (hc : cs[o]? = some v) : DV P n (.load t x) ty fr w v :=
  dv_load ht hx (by rw [cell_of_row w b o cs T fz hb]; exact hc)
/-- m cells from o on. -/
def rdC (cs : List Value) : Nat → Nat → Option (List Value)
  | 0, 0 => some []
  | 0, m + 1 => match cs with
    | [] => none
    | c :: r => (rdC r 0 m).map (c :: ·)
  | o + 1, m => match cs with
    | [] => if m = 0 then some [] else none
    | _ :: r => rdC r o m
theorem rdC_get : ∀ (cs : List Value) (o m : Nat) (l : List Value), rdC cs o m = some l → l.length = m ∧ ∀ j, j < m → cs[o + j]? = l[j]? ∧ l[j]? ≠ none := by
  intro cs
  induction cs with
  | nil =>
    intro o m l h
    cases o <;> cases m <;> simp [rdC] at h <;> subst h <;> simp
  | cons c r ih =>
    intro o m l h
    cases o with
    | zero =>
      cases m with
      | zero => simp [rdC] at h; subst h; simp
      | succ m =>
        simp only [rdC, Option.map_eq_some_iff] at h
        obtain ⟨l', h1, rfl⟩ := h
        obtain ⟨h2, h3⟩ := ih 0 m l' h1
        refine ⟨by simp [h2], fun j hj => ?_⟩
        cases j with
        | zero => simp
        | succ j =>
          have := h3 j (by omega)
          simp only [Nat.zero_add] at this
          simpa using this
    | succ o =>
      simp only [rdC] at h
      obtain ⟨h2, h3⟩ := ih o m l h
      refine ⟨h2, fun j hj => ?_⟩
      have := h3 j hj
      rw [show o + 1 + j = (o + j) + 1 by omega]
      simpa using this
theorem loadVar_cells {t : TypeId} {b o m T : Nat} {cs l : List Value} {fz : Nat × Nat} (ht : aggB P t = some true) (hs : sizeB P t = some m)
    (hb : w.heap[b]? = some (.cells cs.toArray T fz)) (hc : rdC cs o m = some l) : (loadVar t ⟨b, o, none⟩).run P w = .ok (.agg l.toArray) w := by
  obtain ⟨hl, hg⟩ := rdC_get cs o m l hc
  have hld : (loadCells ⟨b, o, none⟩ l.length).run P w = .ok l.toArray w := by
    refine run_loadCells_list _ _ l fun j v hj => ?_
    have hjl : j < l.length := (List.getElem?_eq_some_iff.1 hj).1
    have h1 := (hg j (by omega)).1
    rw [hj] at h1
    have : (⟨b, o, none⟩ : Addr).add j = ⟨b, o + j, none⟩ := by unfold Addr.add; split <;> simp_all
    rw [this, cell_of_row w b (o + j) cs.toArray T fz hb]
    simpa using h1
  rw [hl] at hld
  simp [loadVar, run_isAgg ht, run_sizeOf hs, hld]
theorem dv_loads {t : TypeId} {x : Operand} {b o m T : Nat} {cs l : List Value} {fz : Nat × Nat} (ht : aggB P t = some true) (hs : sizeB P t = some m) (hx : EV n fr x (.pointer (some ⟨b, o, none⟩)))
    (hb : w.heap[b]? = some (.cells cs.toArray T fz)) (hc : rdC cs o m = some l) : DV P n (.load t x) ty fr w (.agg l.toArray) := fun _ _ _ _ => by
  unfold EV at hx
  have := loadVar_cells (w := w) ht hs hb hc
  simp [execOp, hx, Instr.loadAt, Instr.sureAddr, this]
/-- A result that lies in a cell of its own. -/
theorem rv_cells {a : Nat} {t : TypeId} {b m T : Nat} {cs l : List Value} {fz : Nat × Nat} (ht : aggB P t = some true) (hs : sizeB P t = some m) (hn : Nat.blt a n = true) (hx : fr a = .pointer (some ⟨b, 0, none⟩))
    (hb : w.heap[b]? = some (.cells cs.toArray T fz)) (hc : rdC cs 0 m = some l) : RV P n fr w (.cell a t) (.agg l.toArray) := by
  have := loadVar_cells (w := w) ht hs hb hc
  show (do loadVar t (← asAddr ((actOf n fr).tmps.getD a undef)) : Sem Value).run P w = _
  rw [actOf_getD n fr a hn, hx]
  simp [asAddr, this]

/-! ### What makes memory -/
theorem oe_box {T : TypeId} {x : Operand} {v : Value} {cs : Array Value} {K : Value → World → Prop} (hx : EV n fr x v) (hc : v.cells = cs)
    (h : ∀ b w', New w b (.cells cs T) w' → K (.pointer (some ⟨b, 0, none⟩)) w') : OE P n (.box T x) ty fr w K :=
  OE.of_run (v := .pointer (some ⟨w.heap.size, 0, none⟩)) (w' := w.alloc (.cells cs T)) (fun _ _ _ _ => by
    unfold EV at hx
    simp [execOp, hx, Instr.box, newVar, newRow, hc]) (h _ _ (new_alloc w _))
def zeroB (P : Program) (t : Nat) : Option (Array Value) := ((P.info? t).bind (·.zero)).map (·.cells)
theorem oe_alloc {T : TypeId} {cs : Array Value} {K : Value → World → Prop} (hz : zeroB P T = some cs)
    (h : ∀ b w', New w b (.cells cs T) w' → K (.pointer (some ⟨b, 0, none⟩)) w') : OE P n (.alloc T) ty fr w K :=
  OE.of_run (v := .pointer (some ⟨w.heap.size, 0, none⟩)) (w' := w.alloc (.cells cs T)) (fun _ _ _ _ => by
    unfold zeroB at hz
    cases hi : P.info? T with
    | none => simp [hi] at hz
    | some inf =>
      cases hzz : inf.zero with
      | none => simp [hi, hzz] at hz
      | some z =>
        have : z.cells = cs := by simpa [hi, hzz] using hz
        simp [execOp, Instr.alloc, zeroValue, typeInfo, hi, hzz, newVar, newRow, this]) (h _ _ (new_alloc w _))

/-! ### Stores -/
def stC (cs : List Value) : Nat → List Value → Option (List Value)
  | _, [] => some cs
  | 0, v :: vs => match cs with
    | [] => none
    | _ :: r => (stC r 0 vs).map (v :: ·)
  | o + 1, v :: vs => match cs with
    | [] => none
    | c :: r => (stC r o (v :: vs)).map (c :: ·)
theorem stC_nil (cs : List Value) (o : Nat) : stC cs o [] = some cs := by cases o <;> simp [stC]
theorem stC_step : ∀ (cs : List Value) (o : Nat) (v : Value) (vs l : List Value), stC cs o (v :: vs) = some l → o < cs.length ∧ stC (cs.set o v) (o + 1) vs = some l := by
  intro cs
  induction cs with
  | nil => intro o v vs l h; cases o <;> simp [stC] at h
  | cons c r ih =>
    intro o v vs l h
    cases o with
    | zero =>
      simp only [stC, Option.map_eq_some_iff] at h
      obtain ⟨l', h1, rfl⟩ := h
      refine ⟨by simp, ?_⟩
      cases vs with
      | nil => rw [stC_nil] at h1; simp at h1; subst h1; simp [stC_nil]
      | cons u us => simp [stC, h1]
    | succ o =>
      simp only [stC, Option.map_eq_some_iff] at h
      obtain ⟨l', h1, rfl⟩ := h
      obtain ⟨h2, h3⟩ := ih o v vs l' h1
      refine ⟨by simpa using h2, ?_⟩
      cases vs with
      | nil => rw [stC_nil] at h3 ⊢; simpa using h3
      | cons u us => simp [stC, h3]
theorem st_setCell {w : World} {b o T : Nat} {cs : Array Value} {v : Value} (hb : w.heap[b]? = some (.cells cs T)) : St b w (w.setCell ⟨b, o, none⟩ v) :=
  ⟨rfl, rfl, rfl, by simp, fun k hk => heap_setCell_other w ⟨b, o, none⟩ k v hk⟩
theorem St.refl (b : Nat) (w : World) : St b w w := ⟨rfl, rfl, rfl, rfl, fun _ _ => rfl⟩
theorem St.trans {b : Nat} {w w1 w2 : World} (h : St b w w1) (h2 : St b w1 w2) : St b w w2 :=
  ⟨h2.os.trans h.os, h2.tape.trans h.tape, h2.output.trans h.output, h2.size.trans h.size, fun k hk => (h2.block k hk).trans (h.block k hk)⟩
theorem run_storeCells : ∀ (vs : List Value) (i : Nat) (w : World) (b o T : Nat) (cs l : List Value), (∀ v ∈ vs, v.oneCell' = true) → w.heap[b]? = some (.cells cs.toArray T) → stC cs (o + i) vs = some l →
    ∃ w', (storeCells ⟨b, o, none⟩ vs i).run P w = .ok () w' ∧ St b w w' ∧ w'.heap[b]? = some (.cells l.toArray T) := by
  intro vs
  induction vs with
  | nil =>
    intro i w b o T cs l _ hb h
    rw [stC_nil] at h
    obtain rfl : cs = l := by simpa using h
    exact ⟨w, rfl, St.refl _ _, hb⟩
  | cons v vs ih =>
    intro i w b o T cs l h1 hb h
    obtain ⟨hlt, h2⟩ := stC_step cs (o + i) v vs l h
    have ha : (⟨b, o, none⟩ : Addr).add i = ⟨b, o + i, none⟩ := by unfold Addr.add; split <;> simp_all
    have hcell : w.cell? ⟨b, o + i, none⟩ = some cs[o + i] := by rw [cell_of_row w b (o + i) cs.toArray T (0, 0) hb]; simp [hlt]
    have hfz : w.frozen? ⟨b, o + i, none⟩ = false := frozen_of_row w b (o + i) cs.toArray T hb
    have hb' : (w.setCell ⟨b, o + i, none⟩ v).heap[b]? = some (.cells (cs.set (o + i) v).toArray T) := by
      rw [heap_setCell_same w b (o + i) cs.toArray T v hb]
      simp
    obtain ⟨w', hr, hst, hbl⟩ := ih (i + 1) (w.setCell ⟨b, o + i, none⟩ v) b o T (cs.set (o + i) v) l (fun u hu => h1 u (List.mem_cons_of_mem _ hu)) hb' (by rw [← Nat.add_assoc]; exact h2)
    refine ⟨w', ?_, (st_setCell hb).trans hst, hbl⟩
    simp only [storeCells, Sem.run_bind, ha, run_store P w _ v .plain (h1 v (by simp)), hcell, hfz]
    simpa using hr
theorem oe_store {t : TypeId} {x y : Operand} {v : Value} {b o T m : Nat} {cs l vs : List Value} {K : Value → World → Prop} (hx : EV n fr x (.pointer (some ⟨b, o, none⟩))) (hy : EV n fr y v)
    (hs : sizeB P t = some m) (hv : v.cells = vs.toArray) (hm : vs.length = m) (h1 : vs.all (·.oneCell') = true) (hb : w.heap[b]? = some (.cells cs.toArray T)) (hl : stC cs o vs = some l)
    (h : ∀ w', St b w w' → w'.heap[b]? = some (.cells l.toArray T) → K undef w') : OE P n (.store t x y) ty fr w K := by
  obtain ⟨w', hr, hst, hbl⟩ := run_storeCells (P := P) vs 0 w b o T cs l (fun u hu => List.all_eq_true.1 h1 u hu) hb (by simpa using hl)
  refine OE.of_skip (w' := w') (fun _ _ _ _ => ?_) (h w' hst hbl)
  unfold EV at hx hy
  subst hm
  simp [execOp, hx, hy, Instr.storeAt, Instr.sureAddr, storeVar, run_sizeOf hs, hv, hr]

/-! ### Calls -/
def Ct (P : Program) (f : FuncId) (args : List Value) (w : World) (R : Value → World → Prop) : Prop :=
  Calls P f args.toArray w fun e w' => ∃ v, e = .returned v ∧ R v w'
theorem Ct.mono {f : FuncId} {args : List Value} {R R' : Value → World → Prop} (h : Ct P f args w R) (hr : ∀ v w', R v w' → R' v w') : Ct P f args w R' :=
  Calls.mono h fun e w' ⟨v, he, hv⟩ => ⟨v, he, hr v w' hv⟩
theorem ct_run {f : Nat} {fn : Func} {c : Code} {args : List Value} {R : Value → World → Prop} (hf : P.funcs[f]? = some fn) (hb : fn.body = some c) (hn : fn.ntmps = n) (ha : Nat.ble args.length n = true)
    (h : RunK P f n (fun e w' => ∃ v, e = .returned v ∧ R v w') [.code c] (fr0 args) w) : Ct P f args w R := calls_run hf hb hn ha h
def callOk (P : Program) (g : Nat) : Bool :=
  match P.funcs[g]? with
  | some fn => fn.name != "runtime.NumGoroutine" && fn.body.isSome
  | none => false
theorem oe_callf {g : Nat} {args : Array Operand} {tys : Array TypeId} {vs : List Value} {R : Value → World → Prop} {K : Value → World → Prop} (hg : callOk P g = true) (ha : args.map (actOf n fr).eval = vs.toArray)
    (h : Ct P g vs w R) (hK : ∀ v w', R v w' → K v w') : OE P n (.call { callee := .value (.func g), args := args, argTypes := tys }) ty fr w K := by
  intro dst pos af gd Kk Q hk
  have hf : ∃ fn, P.funcs[g]? = some fn ∧ fn.name ≠ "runtime.NumGoroutine" ∧ fn.body ≠ none := by
    unfold callOk at hg
    split at hg
    · rename_i fn hfn
      refine ⟨fn, hfn, ?_, ?_⟩
      · simp only [Bool.and_eq_true, bne_iff_ne] at hg; exact hg.1
      · simp only [Bool.and_eq_true] at hg; intro hbd; rw [hbd] at hg; exact absurd hg.2 (by simp)
    · cases hg
  obtain ⟨fn, hfn, hnm, hbd⟩ := hf
  have hrun : (execOp (actOf n fr).eval ⟨dst, .call { callee := .value (.func g), args := args, argTypes := tys }, ty, pos, af, gd⟩).run P w = .ok (.enter g vs.toArray) w := by
    have hev : (actOf n fr).eval (.func g) = .func (.func g) #[] #[] := rfl
    simp [execOp, resolve, hev, Deferred.ofValue, invoke, callFunc, hfn, hnm, hbd, ha]
  unfold Oper.wp
  rw [hrun]
  show Calls P g vs.toArray w _
  refine Calls.mono h fun e w' ⟨v, he, hv⟩ => ?_
  subst he
  show Kk ((actOf n fr).put dst v) w'
  rw [actOf_put]
  exact hk v w' (hK v w' hv)
theorem ar0 : (#[] : Array Operand).map (actOf n fr).eval = ([] : List Value).toArray := by simp
theorem ar1 {a : Operand} {v : Value} (h : EV n fr a v) : (#[a] : Array Operand).map (actOf n fr).eval = [v].toArray := by unfold EV at h; simp [h]
theorem ar2 {a b : Operand} {v u : Value} (h : EV n fr a v) (h2 : EV n fr b u) : (#[a, b] : Array Operand).map (actOf n fr).eval = [v, u].toArray := by unfold EV at h h2; simp [h, h2]
theorem ar3 {a b c : Operand} {v u x : Value} (h : EV n fr a v) (h2 : EV n fr b u) (h3 : EV n fr c x) : (#[a, b, c] : Array Operand).map (actOf n fr).eval = [v, u, x].toArray := by unfold EV at h h2 h3; simp [h, h2, h3]
theorem ar4 {a b c d : Operand} {v u x y : Value} (h : EV n fr a v) (h2 : EV n fr b u) (h3 : EV n fr c x) (h4 : EV n fr d y) : (#[a, b, c, d] : Array Operand).map (actOf n fr).eval = [v, u, x, y].toArray := by unfold EV at h h2 h3 h4; simp [h, h2, h3, h4]
end
end Go.Proofs.Ytpnjkjahfklfnaa.Fw
