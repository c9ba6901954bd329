/- A region that draws its order, all of whose operations leave what was: one proof for each operation, not one for each order. Generic over the program. -/
import Derived.Test.YtpnjkjahfklfnaaFw12
set_option linter.unusedVariables false
set_option linter.unusedSimpArgs false
namespace Go.Proofs.Ytpnjkjahfklfnaa.Fw
open Go Go.RowKit
abbrev Post := Value → World → Prop
def dstOf (ops : Array Oper) (i : Nat) : Nat := ((ops[i]?).bind (·.dst)).getD 0
/-- The operations write no slot t. -/
def notDst (ops : Array Oper) (t : Nat) : Bool := ops.toList.all fun o => match o.dst with | some d => !Nat.beq d t | none => true
/-- No guards; each writes a slot of its own; each waits for earlier ones alone. -/
def parOk (ops : Array Oper) : Bool :=
  (List.range ops.size).all fun i => match ops[i]? with
    | some o => o.guard.isNone && o.dst.isSome && o.after.toList.all (fun e => !Region.binds .any e || Nat.blt e.on i) && (List.range ops.size).all (fun j => Nat.beq i j || !Nat.beq (dstOf ops i) (dstOf ops j))
    | none => false
def isDep (o : Oper) (j : Nat) : Bool := o.after.toList.any fun e => Region.binds .any e && Nat.beq e.on j
/-- Whoever writes slot t waits for operation i. -/
def notYet (ops : Array Oper) (i t : Nat) : Bool := ops.toList.all fun o => match o.dst with | some d => !Nat.beq d t || isDep o i | none => true
def parAll (S : Nat → Oper → Post → Prop) : Nat → List Oper → List Post → Prop
  | i, o :: os, p :: ps => S i o p ∧ parAll S (i + 1) os ps
  | _, [], [] => True
  | _, _, _ => False
theorem parAll_get {S : Nat → Oper → Post → Prop} : ∀ {i : Nat} {os : List Oper} {ps : List Post}, parAll S i os ps → ∀ {j : Nat} {o : Oper}, os[j]? = some o → ∃ p, ps[j]? = some p ∧ S (i + j) o p
  | i, o :: os, p :: ps, h, 0, o', ho => by
    obtain rfl : o = o' := by simpa using ho
    exact ⟨p, rfl, h.1⟩
  | i, o :: os, p :: ps, h, j + 1, o', ho => by
    obtain ⟨q, h1, h2⟩ := parAll_get h.2 (j := j) (o := o') (by simpa using ho)
    exact ⟨q, by simpa using h1, by rw [show i + (j + 1) = i + 1 + j by omega]; exact h2⟩
  | _, [], [], _, j, o, ho => by simp at ho
  | _, [], _ :: _, h, _, _, _ => h.elim
  | _, _ :: _, [], h, _, _, _ => h.elim
theorem parAll_mk {S : Nat → Oper → Post → Prop} : ∀ {i : Nat} {os : List Oper} {ps : List Post}, os.length = ps.length → (∀ j o p, os[j]? = some o → ps[j]? = some p → S (i + j) o p) → parAll S i os ps
  | i, o :: os, p :: ps, hl, h => ⟨h 0 o p rfl rfl, parAll_mk (by simpa using hl) fun j o' p' ho hp => by rw [show i + 1 + j = i + (j + 1) by omega]; exact h (j + 1) o' p' (by simpa using ho) (by simpa using hp)⟩
  | _, [], [], _, _ => trivial
  | _, [], _ :: _, hl, _ => by simp at hl
  | _, _ :: _, [], hl, _ => by simp at hl
def perAll : List Post → Prop
  | [] => True
  | p :: ps => (∀ v w w', Ext w w' → p v w → p v w') ∧ perAll ps
theorem perAll_get : ∀ {ps : List Post}, perAll ps → ∀ {j : Nat} {p : Post}, ps[j]? = some p → ∀ v w w', Ext w w' → p v w → p v w'
  | p :: ps, h, 0, q, hq => by
    obtain rfl : p = q := by simpa using hq
    exact h.1
  | p :: ps, h, j + 1, q, hq => perAll_get h.2 (by simpa using hq)
  | [], _, j, q, hq => by simp at hq
section
variable {P : Program} {f n : Nat} {R : Ending → World → Prop} {k : List Item} {fr : Fr} {w : World} {ops : Array Oper}
/-- What stands when some operations are done. -/
structure ParInv (ops : Array Oper) (Ps : List Post) (fr : Fr) (w : World) (listed : Array Bool) (fr' : Fr) (w' : World) : Prop where
  size : listed.size = ops.size
  ext : Ext w w'
  fixed : ∀ t, (∀ j o, ops[j]? = some o → o.dst = some t → listed.getD j true = false) → fr' t = fr t
  shut : ∀ j o, ops[j]? = some o → listed.getD j true = true → ∀ i, isDep o i = true → listed.getD i false = true
  done : ∀ j p, Ps[j]? = some p → listed.getD j true = true → p (fr' (dstOf ops j)) w'
theorem parOk_at (h : parOk ops = true) {i : Nat} {o : Oper} (ho : ops[i]? = some o) :
    o.guard = none ∧ (∃ d, o.dst = some d ∧ dstOf ops i = d) ∧ (∀ e ∈ o.after, Region.binds .any e = true → e.on < i) ∧ ∀ j, j < ops.size → j ≠ i → dstOf ops j ≠ dstOf ops i := by
  have hi := (Array.getElem?_eq_some_iff.1 ho).1
  have h1 := List.all_eq_true.1 h i (by simpa using hi)
  simp only [ho, Bool.and_eq_true, Option.isNone_iff_eq_none, Option.isSome_iff_exists, List.all_eq_true, Bool.or_eq_true, Bool.not_eq_true', List.mem_range, Array.mem_toList_iff] at h1
  obtain ⟨⟨⟨h2, d, h3⟩, h4⟩, h5⟩ := h1
  refine ⟨h2, ⟨d, h3, by simp [dstOf, ho, h3]⟩, fun e he hb => ?_, fun j hj hne heq => ?_⟩
  · rcases h4 e he with h | h
    · rw [hb] at h; cases h
    · simpa using h
  · rcases h5 j hj with h | h
    · exact hne (Nat.eq_of_beq_eq_true h).symm
    · rw [heq] at h
      simp at h
theorem rk_par {id : Nat} (Ps : List Post) (hm : P.follows .mixedOrders = true) (hok : parOk ops = true) (hper : perAll Ps)
    (hstep : parAll (fun i o p => ∀ fr' w', Ext w w' → (∀ t, notYet ops i t = true → fr' t = fr t) → (∀ j q, Ps[j]? = some q → isDep o j = true → q (fr' (dstOf ops j)) w') →
      OE P n o.op o.type fr' w' fun v w'' => Ext w' w'' ∧ p v w'') 0 ops.toList Ps)
    (hk : ∀ fr' w', Ext w w' → (∀ t, notDst ops t = true → fr' t = fr t) → parAll (fun i o p => p (fr' (dstOf ops i)) w') 0 ops.toList Ps → RunK P f n R k fr' w') :
    RunK P f n R (.code (.region id ops true) :: k) fr w := by
  have hfix : ∀ {listed : Array Bool} {fr' : Fr} {w' : World}, ParInv ops Ps fr w listed fr' w' → ∀ i, listed.getD i false = false → ∀ t, notYet ops i t = true → fr' t = fr t := by
    intro listed fr' w' hI i hl t ht
    refine hI.fixed t fun j o ho hd => ?_
    have h1 := List.all_eq_true.1 ht o (by have := Array.mem_of_getElem? ho; simpa using this)
    rw [hd] at h1
    simp only [Bool.or_eq_true, Bool.not_eq_true'] at h1
    rcases h1 with h1 | h1
    · simp at h1
    · cases hj : listed.getD j true with
      | false => rfl
      | true => rw [hI.shut j o ho hj i h1] at hl; cases hl
  have hlen : ops.toList.length = Ps.length := by
    clear hk hfix
    generalize ops.toList = os at hstep
    generalize 0 = i at hstep
    generalize hPs : Ps = Qs at hstep
    have : ∀ (S : Nat → Oper → Post → Prop) (i : Nat) (os : List Oper) (ps : List Post), parAll S i os ps → os.length = ps.length := by
      intro S i os
      induction os generalizing i with
      | nil => intro ps h; cases ps with
        | nil => rfl
        | cons p ps => exact h.elim
      | cons o os ih => intro ps h; cases ps with
        | nil => exact h.elim
        | cons p ps => simp [ih _ _ h.2]
    have h2 := this _ _ _ _ hstep
    rw [h2]
  have main : ∀ (fuel : Nat) (listed : Array Bool) (fr' : Fr) (w' : World), ParInv ops Ps fr w listed fr' w' → (listed.toList.count false ≤ fuel) → AW P f n R k ops (fun _ => True) [] fuel listed fr' w' := by
    have fin : ∀ (listed : Array Bool) (fr' : Fr) (w' : World), ParInv ops Ps fr w listed fr' w' → Region.ready .any ops listed = [] → RunK P f n R k fr' w' := by
      intro listed fr' w' hI hr
      have hall : ∀ i, i < ops.size → listed.getD i true = true := by
        intro i
        induction i using Nat.strongRecOn with
        | _ i ih =>
          intro hi
          cases hl : listed.getD i true with
          | true => rfl
          | false =>
            exfalso
            have ho : ops[i]? = some ops[i] := Array.getElem?_eq_getElem hi
            have : i ∈ Region.ready .any ops listed := mem_ready.2 ⟨hl, _, ho, fun e he hb => by
              have h1 := (parOk_at hok ho).2.2.1 e he hb
              have h2 := ih e.on h1 (by omega)
              have h3 : e.on < listed.size := by rw [hI.size]; omega
              simpa [h3] using h2⟩
            rw [hr] at this
            cases this
      refine hk fr' w' hI.ext (fun t ht => hI.fixed t fun j o ho hd => by
        exfalso
        have h4 := List.all_eq_true.1 ht o (by have := Array.mem_of_getElem? ho; simpa using this)
        rw [hd] at h4
        simp at h4) (parAll_mk hlen fun j o p ho hp => ?_)
      have hj : j < ops.size := by have := (List.getElem?_eq_some_iff.1 ho).1; simpa using this
      rw [Nat.zero_add]
      exact hI.done j p hp (hall j hj)
    intro fuel
    induction fuel with
    | zero =>
      intro listed fr' w' hI hc
      refine aw_done ?_ (fin listed fr' w' hI ?_)
      all_goals
        rw [List.eq_nil_iff_forall_not_mem]
        intro i hi
        obtain ⟨h1, o, ho, _⟩ := mem_ready.1 hi
        have hlt : i < listed.size := by rw [hI.size]; exact (Array.getElem?_eq_some_iff.1 ho).1
        have h2 : listed[i] = false := by simpa [hlt] using h1
        have : 0 < listed.toList.count false := List.count_pos_iff.2 (by rw [← h2]; simp)
        omega
    | succ fuel ih =>
      intro listed fr' w' hI hc
      by_cases hr : Region.ready .any ops listed = []
      · exact aw_done hr (fin listed fr' w' hI hr)
      · refine wpAnyJ_all (rs := Region.ready .any ops listed) rfl hr ?_
        intro i hi
        obtain ⟨h1, o, ho, hd⟩ := mem_ready.1 hi
        obtain ⟨hg, ⟨d, hdst, hdo⟩, hlt, hne⟩ := parOk_at hok ho
        obtain ⟨p, hp, hs⟩ := parAll_get hstep (j := i) (o := o) (by simpa using ho)
        have hil : i < listed.size := by rw [hI.size]; exact (Array.getElem?_eq_some_iff.1 ho).1
        rw [Nat.zero_add] at hs
        have hif : listed.getD i false = false := by simpa [hil] using h1
        have hs' := hs fr' w' hI.ext (hfix hI i hif) fun j q hq hdep => by
          simp only [isDep, List.any_eq_true, Bool.and_eq_true, Array.mem_toList_iff] at hdep
          obtain ⟨e, he, hb, hj⟩ := hdep
          obtain rfl : e.on = j := Nat.eq_of_beq_eq_true hj
          refine hI.done _ q hq ?_
          have h2 := hd e he hb
          have h3 := hlt e he hb
          have h4 : e.on < listed.size := by omega
          simpa [h4] using h2
        obtain ⟨dst, op, ty, pos, af, g⟩ := o
        subst hg
        simp only at hdst
        subst hdst
        refine wpOp_oe i ho .none (K := fun fr2 w2 => (i ∈ ([] : List Nat) ∨ True) ∧ AW P f n R k ops (fun _ => True) [] fuel (listed.setIfInBounds i true) fr2 w2) (fun fr2 w2 hh => hh) (hs'.mono fun v w2 ⟨he, hpv⟩ => ⟨.inr trivial, ih _ _ _ ⟨by simp [hI.size], hI.ext.trans (he.mono hI.ext.size), fun t ht => ?_, fun j o' ho' hj i' hdep => ?_, fun j q hq hj => ?_⟩ ?_⟩)
        · have h2 := hI.fixed t fun j o' ho' hd' => by
            have h5 := ht j o' ho' hd'
            by_cases hji : i = j
            · subst hji; simp [hil] at h5
            · rwa [getD_set_ne true hji] at h5
          have h3 : Nat.beq t d = false := by
            rw [← Bool.not_eq_true]
            intro hb
            have := Nat.eq_of_beq_eq_true hb
            subst this
            have h5 := ht i _ ho rfl
            simp [hil] at h5
          show upd fr' d v t = fr t
          simp only [upd, h3, cond_false]
          exact h2
        · by_cases hii : i = i'
          · subst hii; simp [hil]
          · rw [getD_set_ne false hii]
            by_cases hji : i = j
            · subst hji
              rw [ho] at ho'
              injection ho' with ho'
              subst ho'
              simp only [isDep, List.any_eq_true, Bool.and_eq_true, Array.mem_toList_iff] at hdep
              obtain ⟨e, he', hb, hj'⟩ := hdep
              obtain rfl : e.on = i' := Nat.eq_of_beq_eq_true hj'
              exact hd e he' hb
            · rw [getD_set_ne true hji] at hj
              exact hI.shut j o' ho' hj i' hdep
        · show q (upd fr' d v (dstOf ops j)) w2
          by_cases hji : j = i
          · subst hji
            rw [hp] at hq
            injection hq with hq
            subst hq
            have : Nat.beq (dstOf ops j) d = true := by rw [hdo]; simp
            simp only [upd, this, cond_true]
            exact hpv
          · have hjl : listed.getD j true = true := by
              by_cases hjs : j < listed.size
              · simpa [hjs, Array.getElem_setIfInBounds, Ne.symm hji] using hj
              · simp [hjs]
            have hjs : j < ops.size := by
              have := (List.getElem?_eq_some_iff.1 hq).1
              simp at hlen
              omega
            have hbeq : Nat.beq (dstOf ops j) d = false := by
              rw [← Bool.not_eq_true]
              intro hb
              exact hne j hjs hji (by rw [Nat.eq_of_beq_eq_true hb, hdo])
            simp only [upd, hbeq, cond_false]
            exact perAll_get hper hq _ _ _ he (hI.done j q hq hjl)
        · have h2 : listed[i] = false := by simpa [hil] using h1
          have h3 : (listed.setIfInBounds i true).toList.count false + 1 = listed.toList.count false := by
            have e : listed.toList.getD i true = false := by simpa [hil] using h1
            have hl2 : i < listed.toList.length := by simpa using hil
            rw [Array.toList_setIfInBounds, List.count_set hl2]
            have h5 : listed.toList[i] = false := by simpa using h2
            have hpos : 0 < listed.toList.count false := List.count_pos_iff.2 (by rw [← h5]; exact List.getElem_mem hl2)
            rw [h5]
            have e1 : ((false == false) = true) := rfl
            have e2 : ¬ ((true == false) = true) := by decide
            rw [if_pos e1, if_neg e2]
            omega
          omega
  refine rk_any (fun _ => True) [] hm fun w1 hdr => ?_
  have hper' := fun {j p} => @perAll_get Ps hper j p
  refine main ops.size _ fr w1 ⟨by simp, hdr.ext, fun t _ => rfl, fun j o ho hj => ?_, fun j p hp hj => ?_⟩ ?_
  · exfalso
    have hjs := (Array.getElem?_eq_some_iff.1 ho).1
    simp [hjs] at hj
  · exfalso
    have hjs : j < ops.size := by
      have := (List.getElem?_eq_some_iff.1 hp).1
      simp at hlen
      omega
    simp [hjs] at hj
  · have := List.count_le_length (a := false) (l := (Array.replicate ops.size false).toList)
    simp
end
/-! ### .. one of them a store -/
/-- No guards; each but the store writes a slot of its own; each waits for earlier ones alone. -/
def stOk (ops : Array Oper) (s : Nat) : Bool :=
  Nat.blt s ops.size && (List.range ops.size).all fun i => match ops[i]? with
    | some o => o.guard.isNone && (if i = s then o.dst.isNone else o.dst.isSome) && o.after.toList.all (fun e => !Region.binds .any e || Nat.blt e.on i) && (List.range ops.size).all (fun j => Nat.beq i j || Nat.beq i s || Nat.beq j s || !Nat.beq (dstOf ops i) (dstOf ops j))
    | none => false
def stAll (S : Nat → Oper → Value → Prop) : Nat → List Oper → List Value → Prop
  | i, o :: os, p :: ps => S i o p ∧ stAll S (i + 1) os ps
  | _, [], [] => True
  | _, _, _ => False
theorem stAll_get {S : Nat → Oper → Value → Prop} : ∀ {i : Nat} {os : List Oper} {ps : List Value}, stAll S i os ps → ∀ {j : Nat} {o : Oper}, os[j]? = some o → ∃ p, ps[j]? = some p ∧ S (i + j) o p
  | i, o :: os, p :: ps, h, 0, o', ho => by
    obtain rfl : o = o' := by simpa using ho
    exact ⟨p, rfl, h.1⟩
  | i, o :: os, p :: ps, h, j + 1, o', ho => by
    obtain ⟨q, h1, h2⟩ := stAll_get h.2 (j := j) (o := o') (by simpa using ho)
    exact ⟨q, by simpa using h1, by rw [show i + (j + 1) = i + 1 + j by omega]; exact h2⟩
  | _, [], [], _, j, o, ho => by simp at ho
  | _, [], _ :: _, h, _, _, _ => h.elim
  | _, _ :: _, [], h, _, _, _ => h.elim
theorem stAll_mk {S : Nat → Oper → Value → Prop} : ∀ {i : Nat} {os : List Oper} {ps : List Value}, os.length = ps.length → (∀ j o p, os[j]? = some o → ps[j]? = some p → S (i + j) o p) → stAll S i os ps
  | i, o :: os, p :: ps, hl, h => ⟨h 0 o p rfl rfl, stAll_mk (by simpa using hl) fun j o' p' ho hp => by rw [show i + 1 + j = i + (j + 1) by omega]; exact h (j + 1) o' p' (by simpa using ho) (by simpa using hp)⟩
  | _, [], [], _, _ => trivial
  | _, [], _ :: _, hl, _ => by simp at hl
  | _, _ :: _, [], hl, _ => by simp at hl
theorem stAll_len (S : Nat → Oper → Value → Prop) (i : Nat) (os : List Oper) (ps : List Value) (h : stAll S i os ps) : os.length = ps.length := by
  induction os generalizing i ps with
  | nil => cases ps with
    | nil => rfl
    | cons p ps => exact h.elim
  | cons o os ih => cases ps with
    | nil => exact h.elim
    | cons p ps => simp [ih _ _ h.2]
section
variable {P : Program} {f n : Nat} {R : Ending → World → Prop} {k : List Item} {fr : Fr} {w : World} {ops : Array Oper}
structure StInv (ops : Array Oper) (s : Nat) (Vs : List Value) (K : World → Prop) (fr : Fr) (w1 : World) (listed : Array Bool) (fr' : Fr) (w' : World) : Prop where
  size : listed.size = ops.size
  fixed : ∀ t, (∀ j o, ops[j]? = some o → o.dst = some t → listed.getD j true = false) → fr' t = fr t
  shut : ∀ j o, ops[j]? = some o → listed.getD j true = true → ∀ i, isDep o i = true → listed.getD i false = true
  done : ∀ j v, Vs[j]? = some v → j ≠ s → listed.getD j true = true → fr' (dstOf ops j) = v
  before : listed.getD s true = false → w' = w1
  after : listed.getD s true = true → K w'
theorem stOk_at {s : Nat} (h : stOk ops s = true) {i : Nat} {o : Oper} (ho : ops[i]? = some o) :
    s < ops.size ∧ o.guard = none ∧ (i = s → o.dst = none) ∧ (i ≠ s → ∃ d, o.dst = some d ∧ dstOf ops i = d) ∧ (∀ e ∈ o.after, Region.binds .any e = true → e.on < i) ∧ (i ≠ s → ∀ j, j < ops.size → j ≠ i → j ≠ s → dstOf ops j ≠ dstOf ops i) := by
  have hi := (Array.getElem?_eq_some_iff.1 ho).1
  simp only [stOk, Bool.and_eq_true] at h
  obtain ⟨hs, h⟩ := h
  have h1 := List.all_eq_true.1 h i (by simpa using hi)
  simp only [ho, Bool.and_eq_true, Option.isNone_iff_eq_none, List.all_eq_true, Bool.or_eq_true, Bool.not_eq_true', List.mem_range, Array.mem_toList_iff] at h1
  obtain ⟨⟨⟨h2, h3⟩, h4⟩, h5⟩ := h1
  refine ⟨by simpa using hs, h2, fun he => ?_, fun he => ?_, fun e he hb => ?_, fun his j hj hne hjs heq => ?_⟩
  · rw [if_pos he] at h3; simpa using h3
  · rw [if_neg he, Option.isSome_iff_exists] at h3
    obtain ⟨d, h3⟩ := h3
    exact ⟨d, h3, by simp [dstOf, ho, h3]⟩
  · rcases h4 e he with h | h
    · rw [hb] at h; cases h
    · simpa using h
  · rcases h5 j hj with ((h | h) | h) | h
    · exact hne (Nat.eq_of_beq_eq_true h).symm
    · exact his (Nat.eq_of_beq_eq_true h)
    · exact hjs (Nat.eq_of_beq_eq_true h)
    · rw [heq] at h
      simp at h
theorem rk_st {id : Nat} (s : Nat) (Vs : List Value) (K : World → Prop) (hm : P.follows .mixedOrders = true) (hok : stOk ops s = true)
    (hstep : ∀ w1, Drew w w1 → stAll (fun i o v => ∀ fr' w', (i = s ∨ ((ops[s]?).map (isDep · i)).getD false = true → w' = w1) → (∀ t, notYet ops i t = true → fr' t = fr t) → (∀ j q, j ≠ s → Vs[j]? = some q → isDep o j = true → fr' (dstOf ops j) = q) →
      OE P n o.op o.type fr' w' fun u w'' => if i = s then K w'' else u = v ∧ w'' = w') 0 ops.toList Vs)
    (hk : ∀ fr' w', K w' → (∀ t, notDst ops t = true → fr' t = fr t) → stAll (fun i o v => i = s ∨ fr' (dstOf ops i) = v) 0 ops.toList Vs → RunK P f n R k fr' w') :
    RunK P f n R (.code (.region id ops true) :: k) fr w := by
  refine rk_any (fun _ => True) [] hm fun w1 hdr => ?_
  have hst := hstep w1 hdr
  have hlen := stAll_len _ _ _ _ hst
  have hfix : ∀ {listed : Array Bool} {fr' : Fr} {w' : World}, StInv ops s Vs K fr w1 listed fr' w' → ∀ i, listed.getD i false = false → ∀ t, notYet ops i t = true → fr' t = fr t := by
    intro listed fr' w' hI i hl t ht
    refine hI.fixed t fun j o ho hd => ?_
    have h1 := List.all_eq_true.1 ht o (by have := Array.mem_of_getElem? ho; simpa using this)
    rw [hd] at h1
    simp only [Bool.or_eq_true, Bool.not_eq_true'] at h1
    rcases h1 with h1 | h1
    · simp at h1
    · cases hj : listed.getD j true with
      | false => rfl
      | true => rw [hI.shut j o ho hj i h1] at hl; cases hl
  have hlen' : ops.size = Vs.length := by simpa using hlen
  have main : ∀ (fuel : Nat) (listed : Array Bool) (fr' : Fr) (w' : World), StInv ops s Vs K fr w1 listed fr' w' → (listed.toList.count false ≤ fuel) → AW P f n R k ops (fun _ => True) [] fuel listed fr' w' := by
    have fin : ∀ (listed : Array Bool) (fr' : Fr) (w' : World), StInv ops s Vs K fr w1 listed fr' w' → Region.ready .any ops listed = [] → RunK P f n R k fr' w' := by
      intro listed fr' w' hI hr
      have hall : ∀ i, i < ops.size → listed.getD i true = true := by
        intro i
        induction i using Nat.strongRecOn with
        | _ i ih =>
          intro hi
          cases hl : listed.getD i true with
          | true => rfl
          | false =>
            exfalso
            have ho : ops[i]? = some ops[i] := Array.getElem?_eq_getElem hi
            have : i ∈ Region.ready .any ops listed := mem_ready.2 ⟨hl, _, ho, fun e he hb => by
              have h1 := (stOk_at hok ho).2.2.2.2.1 e he hb
              have h2 := ih e.on h1 (by omega)
              have h3 : e.on < listed.size := by rw [hI.size]; omega
              simpa [h3] using h2⟩
            rw [hr] at this
            cases this
      have hss : listed.getD s true = true := by
        by_cases h : s < ops.size
        · exact hall s h
        · have : ¬ s < listed.size := by rw [hI.size]; exact h
          simp [this]
      refine hk fr' w' (hI.after hss) (fun t ht => hI.fixed t fun j o ho hd => by
        exfalso
        have h4 := List.all_eq_true.1 ht o (by have := Array.mem_of_getElem? ho; simpa using this)
        rw [hd] at h4
        simp at h4) (stAll_mk hlen fun j o v ho hp => ?_)
      have hj : j < ops.size := by have := (List.getElem?_eq_some_iff.1 ho).1; simpa using this
      rw [Nat.zero_add]
      by_cases hjs : j = s
      · exact .inl hjs
      · exact .inr (hI.done j v hp hjs (hall j hj))
    intro fuel
    induction fuel with
    | zero =>
      intro listed fr' w' hI hc
      refine aw_done ?_ (fin listed fr' w' hI ?_)
      all_goals
        rw [List.eq_nil_iff_forall_not_mem]
        intro i hi
        obtain ⟨h1, o, ho, _⟩ := mem_ready.1 hi
        have hlt : i < listed.size := by rw [hI.size]; exact (Array.getElem?_eq_some_iff.1 ho).1
        have h2 : listed[i] = false := by simpa [hlt] using h1
        have : 0 < listed.toList.count false := List.count_pos_iff.2 (by rw [← h2]; simp)
        omega
    | succ fuel ih =>
      intro listed fr' w' hI hc
      by_cases hr : Region.ready .any ops listed = []
      · exact aw_done hr (fin listed fr' w' hI hr)
      · refine wpAnyJ_all (rs := Region.ready .any ops listed) rfl hr ?_
        intro i hi
        obtain ⟨h1, o, ho, hd⟩ := mem_ready.1 hi
        obtain ⟨hsz, hg, hds, hdn, hlt, hne⟩ := stOk_at hok ho
        obtain ⟨v, hp, hs⟩ := stAll_get hst (j := i) (o := o) (by simpa using ho)
        rw [Nat.zero_add] at hs
        have hil : i < listed.size := by rw [hI.size]; exact (Array.getElem?_eq_some_iff.1 ho).1
        have hslt : s < listed.size := by rw [hI.size]; exact hsz
        have hcount : ∀ b : Bool, (listed.setIfInBounds i true).toList.count false ≤ fuel := by
          intro _
          have h2 : listed[i] = false := by simpa [hil] using h1
          have hl2 : i < listed.toList.length := by simpa using hil
          have h5 : listed.toList[i] = false := by simpa using h2
          have hpos : 0 < listed.toList.count false := List.count_pos_iff.2 (by rw [← h5]; exact List.getElem_mem hl2)
          rw [Array.toList_setIfInBounds, List.count_set hl2, h5]
          have e1 : ((false == false) = true) := rfl
          have e2 : ¬ ((true == false) = true) := by decide
          rw [if_pos e1, if_neg e2]
          omega
        have hdeps : ∀ j, isDep o j = true → listed.getD j false = true ∧ j < i := fun j hdep => by
          simp only [isDep, List.any_eq_true, Bool.and_eq_true, Array.mem_toList_iff] at hdep
          obtain ⟨e, he, hb, hj⟩ := hdep
          obtain rfl : e.on = j := Nat.eq_of_beq_eq_true hj
          exact ⟨hd e he hb, hlt e he hb⟩
        have hs' := hs fr' w' (fun hor => by
          refine hI.before ?_
          rcases hor with rfl | hor
          · exact h1
          · cases hls : listed.getD s true with
            | false => rfl
            | true =>
              exfalso
              have ho2 : ops[s]? = some ops[s] := Array.getElem?_eq_getElem hsz
              rw [ho2] at hor
              have h6 := hI.shut s _ ho2 hls i (by simpa using hor)
              simp [hil] at h6 h1
              rw [h6] at h1
              cases h1) (hfix hI i (by simpa [hil] using h1)) (fun j q hjs hq hdep => by
          obtain ⟨h6, h7⟩ := hdeps j hdep
          have hjl : j < listed.size := by omega
          exact hI.done j q hq hjs (by simpa [hjl] using h6))
        have hset : ∀ j, listed.getD j true = true → (listed.setIfInBounds i true).getD j true = true := fun j hj => by
          by_cases hji : i = j
          · subst hji; simp [hil]
          · rw [getD_set_ne true hji]; exact hj
        have hsetf : ∀ j, listed.getD j false = true → (listed.setIfInBounds i true).getD j false = true := fun j hj => by
          by_cases hji : i = j
          · subst hji; simp [hil]
          · rw [getD_set_ne false hji]; exact hj
        obtain ⟨dst, op, ty, pos, af, g⟩ := o
        subst hg
        by_cases his : i = s
        · subst his
          obtain rfl := hds rfl
          refine wpOp_oe i ho .none (K := fun fr2 w2 => (i ∈ ([] : List Nat) ∨ True) ∧ AW P f n R k ops (fun _ => True) [] fuel (listed.setIfInBounds i true) fr2 w2) (fun fr2 w2 hh => hh) (hs'.mono fun u w2 hK => ⟨.inr trivial, ih _ _ _ ⟨by simp [hI.size], fun t ht => hI.fixed t fun j o' ho' hd' => ?_, fun j o' ho' hj i' hdep => by
            by_cases hji : i = j
            · subst hji
              rw [ho] at ho'
              injection ho' with ho'
              subst ho'
              exact hsetf _ (hdeps i' hdep).1
            · rw [getD_set_ne true hji] at hj
              exact hsetf _ (hI.shut j o' ho' hj i' hdep), fun j q hq hji hj => ?_, fun hf => ?_, fun _ => by simpa using hK⟩ (hcount true)⟩)
          · have h5 := ht j o' ho' hd'
            by_cases hji : i = j
            · subst hji
              rw [ho] at ho'
              exact absurd hd' (by rw [← Option.some.inj ho']; simp)
            · rwa [getD_set_ne true hji] at h5
          · rw [getD_set_ne true (Ne.symm hji)] at hj
            exact hI.done j q hq hji hj
          · simp [hil] at hf
        · obtain ⟨d, hdst, hdo⟩ := hdn his
          simp only at hdst
          subst hdst
          refine wpOp_oe i ho .none (K := fun fr2 w2 => (i ∈ ([] : List Nat) ∨ True) ∧ AW P f n R k ops (fun _ => True) [] fuel (listed.setIfInBounds i true) fr2 w2) (fun fr2 w2 hh => hh) (hs'.mono fun u w2 hu => ⟨.inr trivial, ?_⟩)
          rw [if_neg his] at hu
          obtain ⟨rfl, rfl⟩ := hu
          refine ih _ _ _ ⟨by simp [hI.size], fun t ht => ?_, fun j o' ho' hj i' hdep => by
            by_cases hji : i = j
            · subst hji
              rw [ho] at ho'
              injection ho' with ho'
              subst ho'
              exact hsetf _ (hdeps i' hdep).1
            · rw [getD_set_ne true hji] at hj
              exact hsetf _ (hI.shut j o' ho' hj i' hdep), fun j q hq hjs hj => ?_, fun hf => ?_, fun ht => ?_⟩ (hcount true)
          · have h2 := hI.fixed t fun j o' ho' hd' => by
              have h5 := ht j o' ho' hd'
              by_cases hji : i = j
              · subst hji; simp [hil] at h5
              · rwa [getD_set_ne true hji] at h5
            have h3 : Nat.beq t d = false := by
              rw [← Bool.not_eq_true]
              intro hb
              have := Nat.eq_of_beq_eq_true hb
              subst this
              have h5 := ht i _ ho rfl
              simp [hil] at h5
            show upd fr' d u t = fr t
            simp only [upd, h3, cond_false]
            exact h2
          · show upd fr' d u (dstOf ops j) = q
            by_cases hji : j = i
            · subst hji
              rw [hp] at hq
              injection hq with hq
              subst hq
              have : Nat.beq (dstOf ops j) d = true := by rw [hdo]; simp
              simp only [upd, this, cond_true]
            · rw [getD_set_ne true (Ne.symm hji)] at hj
              have hjz : j < ops.size := by
                have := (List.getElem?_eq_some_iff.1 hq).1
                omega
              have hbeq : Nat.beq (dstOf ops j) d = false := by
                rw [← Bool.not_eq_true]
                intro hb
                exact hne his j hjz hji hjs (by rw [Nat.eq_of_beq_eq_true hb, hdo])
              simp only [upd, hbeq, cond_false]
              exact hI.done j q hq hjs hj
          · rw [getD_set_ne true his] at hf
            exact hI.before hf
          · rw [getD_set_ne true his] at ht
            exact hI.after ht
  refine main ops.size _ fr w1 ⟨by simp, fun t _ => rfl, fun j o ho hj => ?_, fun j v hv hjs hj => ?_, fun _ => rfl, fun hs => ?_⟩ ?_
  · exfalso
    have hjs := (Array.getElem?_eq_some_iff.1 ho).1
    simp [hjs] at hj
  · exfalso
    have hjs : j < ops.size := by
      have := (List.getElem?_eq_some_iff.1 hv).1
      omega
    simp [hjs] at hj
  · exfalso
    have hsz : s < ops.size := by
      have h0 : stOk ops s = true := hok
      simp only [stOk, Bool.and_eq_true] at h0
      simpa using h0.1
    simp [hsz] at hs
  · have := List.count_le_length (a := false) (l := (Array.replicate ops.size false).toList)
    simp
end
end Go.Proofs.Ytpnjkjahfklfnaa.Fw
