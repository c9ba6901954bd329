/- A region that draws its order, with new blocks that are stored to once. Generic over the program. -/
import Derived.Test.YtpnjkjahfklfnaaFw13
set_option linter.unusedVariables false
set_option linter.unusedSimpArgs false
namespace Go.Proofs.Ytpnjkjahfklfnaa.Fw
open Go Go.RowKit
/-- A new block: made by operation a, with the cells cs of type T; what operation xi yields is stored to it by operation s. -/
structure Al where
  a : Nat
  s : Nat
  xi : Nat
  T : Nat
  cs : Array Value
def isSt (As : List Al) (i : Nat) : Bool := As.any fun e => Nat.beq e.s i
def isAl (As : List Al) (i : Nat) : Bool := As.any fun e => Nat.beq e.a i
def parOk2 (ops : Array Oper) (As : List Al) : Bool :=
  ((List.range ops.size).all fun i => match ops[i]? with
    | some o => o.guard.isNone && (if isSt As i then o.dst.isNone && !isAl As i else o.dst.isSome) && o.after.toList.all (fun e => !Region.binds .any e || Nat.blt e.on i) &&
        (List.range ops.size).all (fun j => Nat.beq i j || isSt As i || isSt As j || !Nat.beq (dstOf ops i) (dstOf ops j))
    | none => false) &&
  As.all fun e => Nat.blt e.a ops.size && Nat.blt e.xi ops.size && !isSt As e.xi && !isAl As e.xi && (match ops[e.s]? with | some o => isDep o e.a && isDep o e.xi | none => false) &&
    As.all fun e' => (Nat.beq e.a e'.a && Nat.beq e.s e'.s && Nat.beq e.xi e'.xi && Nat.beq e.T e'.T) || (!Nat.beq e.a e'.a && !Nat.beq e.s e'.s)
def alAll (S : Al → Prop) : List Al → Prop
  | [] => True
  | e :: es => S e ∧ alAll S es
theorem alAll_get {S : Al → Prop} : ∀ {es : List Al}, alAll S es → ∀ e ∈ es, S e
  | e :: es, h, x, hx => by
    rcases List.mem_cons.1 hx with rfl | hx
    · exact h.1
    · exact alAll_get h.2 x hx
  | [], _, x, hx => by cases hx
theorem alAll_mk {S : Al → Prop} : ∀ {es : List Al}, (∀ e ∈ es, S e) → alAll S es
  | [], _ => trivial
  | e :: es, h => ⟨h e (by simp), alAll_mk fun x hx => h x (List.mem_cons_of_mem _ hx)⟩
/-- Facts that stand when new blocks are made, and when a block of the types TS is stored to. -/
def perAll2 (TS : List Nat) : List Post → Prop
  | [] => True
  | p :: ps => ((∀ v w w', Ext w w' → p v w → p v w') ∧ (∀ v w w' b cs T fz, St b w w' → w.heap[b]? = some (.cells cs T fz) → T ∈ TS → p v w → p v w')) ∧ perAll2 TS ps
theorem perAll2_get {TS : List Nat} : ∀ {ps : List Post}, perAll2 TS ps → ∀ {j : Nat} {p : Post}, ps[j]? = some p → (∀ v w w', Ext w w' → p v w → p v w') ∧ (∀ v w w' b cs T fz, St b w w' → w.heap[b]? = some (.cells cs T fz) → T ∈ TS → p v w → p v w')
  | p :: ps, h, 0, q, hq => by
    obtain rfl : p = q := by simpa using hq
    exact h.1
  | p :: ps, h, j + 1, q, hq => perAll2_get h.2 (by simpa using hq)
  | [], _, j, q, hq => by simp at hq
theorem ts_ne {T T' : Nat} {TS : List Nat} (h : T ∈ TS) (hd : TS.contains T' = false) : T ≠ T' := fun he => by
  subst he
  have : TS.contains T = true := by simpa using h
  rw [hd] at this
  cases this
theorem nst {As : List Al} {i : Nat} (h : isSt As i = false) : ¬ isSt As i = true := by rw [h]; decide
theorem St.blkT {b b2 T T2 : Nat} {w w' : World} {cs cs2 : Array Value} {fz fz2 : Nat × Nat} (e : St b w w') (hb : w.heap[b]? = some (.cells cs T fz)) (h : w.heap[b2]? = some (.cells cs2 T2 fz2)) (hT : T ≠ T2) : w'.heap[b2]? = some (.cells cs2 T2 fz2) := by
  refine e.blk h fun he => ?_
  subst he
  rw [hb] at h
  injection h with h
  injection h with _ h _
  exact hT h
section
variable {P : Program} {f n : Nat} {R : Ending → World → Prop} {k : List Item} {fr : Fr} {w : World} {ops : Array Oper}
def Mem (ops : Array Oper) (w : World) (listed : Array Bool) (fr' : Fr) (w' : World) (e : Al) : Prop :=
  ∃ b, fr' (dstOf ops e.a) = .pointer (some ⟨b, 0, none⟩) ∧ w.heap.size ≤ b ∧ ((listed.getD e.s true = false ∧ w'.heap[b]? = some (.cells e.cs e.T)) ∨ (listed.getD e.s true = true ∧ w'.heap[b]? = some (.cells (fr' (dstOf ops e.xi)).cells e.T)))
structure ParInv2 (ops : Array Oper) (Ps : List Post) (As : List Al) (fr : Fr) (w : World) (listed : Array Bool) (fr' : Fr) (w' : World) : Prop where
  size : listed.size = ops.size
  ext : Ext w w'
  fixed : ∀ t, (∀ j o, ops[j]? = some o → o.dst = some t → listed.getD j true = false) → fr' t = fr t
  shut : ∀ j o, ops[j]? = some o → listed.getD j true = true → ∀ i, isDep o i = true → listed.getD i false = true
  done : ∀ j p, Ps[j]? = some p → isSt As j = false → listed.getD j true = true → p (fr' (dstOf ops j)) w'
  mem : ∀ e ∈ As, listed.getD e.a true = true → Mem ops w listed fr' w' e
  dist : ∀ e ∈ As, ∀ e' ∈ As, e.a ≠ e'.a → listed.getD e.a true = true → listed.getD e'.a true = true → fr' (dstOf ops e.a) ≠ fr' (dstOf ops e'.a)
theorem parOk2_at {As : List Al} (h : parOk2 ops As = true) {i : Nat} {o : Oper} (ho : ops[i]? = some o) :
    o.guard = none ∧ (isSt As i = true → o.dst = none ∧ isAl As i = false) ∧ (isSt As i = false → ∃ d, o.dst = some d ∧ dstOf ops i = d) ∧ (∀ e ∈ o.after, Region.binds .any e = true → e.on < i) ∧
    (isSt As i = false → ∀ j, j < ops.size → j ≠ i → isSt As j = false → dstOf ops j ≠ dstOf ops i) := by
  have hi := (Array.getElem?_eq_some_iff.1 ho).1
  simp only [parOk2, Bool.and_eq_true] at h
  have h1 := List.all_eq_true.1 h.1 i (by simpa using hi)
  simp only [ho, Bool.and_eq_true, Option.isNone_iff_eq_none, List.all_eq_true, Bool.or_eq_true, Bool.not_eq_true', List.mem_range, Array.mem_toList_iff] at h1
  obtain ⟨⟨⟨h2, h3⟩, h4⟩, h5⟩ := h1
  refine ⟨h2, fun he => ?_, fun he => ?_, fun e he hb => ?_, fun his j hj hne hjs heq => ?_⟩
  · rw [if_pos he] at h3
    simpa using h3
  · rw [if_neg (by rw [he]; decide), Option.isSome_iff_exists] at h3
    obtain ⟨d, h3⟩ := h3
    exact ⟨d, h3, by simp [dstOf, ho, h3]⟩
  · rcases h4 e he with h | h
    · rw [hb] at h; cases h
    · simpa using h
  · rcases h5 j hj with ((h | h) | h) | h
    · exact hne (Nat.eq_of_beq_eq_true h).symm
    · rw [his] at h; cases h
    · rw [hjs] at h; cases h
    · rw [heq] at h
      simp at h
theorem parOk2_al {As : List Al} (h : parOk2 ops As = true) {e : Al} (he : e ∈ As) :
    e.a < ops.size ∧ e.xi < ops.size ∧ isSt As e.xi = false ∧ isAl As e.xi = false ∧ (∃ o, ops[e.s]? = some o ∧ isDep o e.a = true ∧ isDep o e.xi = true) ∧ ∀ e' ∈ As, (e.a = e'.a ∧ e.s = e'.s ∧ e.xi = e'.xi ∧ e.T = e'.T) ∨ (e.a ≠ e'.a ∧ e.s ≠ e'.s) := by
  simp only [parOk2, Bool.and_eq_true] at h
  have h1 := List.all_eq_true.1 h.2 e he
  simp only [Bool.and_eq_true, Bool.not_eq_true', List.all_eq_true, Bool.or_eq_true] at h1
  obtain ⟨⟨⟨⟨⟨h2, h3⟩, h4⟩, h5⟩, h6⟩, h7⟩ := h1
  refine ⟨by simpa using h2, by simpa using h3, h4, h5, ?_, fun e' he' => ?_⟩
  · cases ho : ops[e.s]? with
    | none => rw [ho] at h6; cases h6
    | some o => rw [ho] at h6; exact ⟨o, rfl, by simpa using h6⟩
  · rcases h7 e' he' with h8 | h8
    · exact .inl ⟨Nat.eq_of_beq_eq_true h8.1.1.1, Nat.eq_of_beq_eq_true h8.1.1.2, Nat.eq_of_beq_eq_true h8.1.2, Nat.eq_of_beq_eq_true h8.2⟩
    · exact .inr ⟨fun hh => by rw [hh] at h8; simp at h8, fun hh => by rw [hh] at h8; simp at h8⟩
theorem isSt_mem {As : List Al} {e : Al} (he : e ∈ As) : isSt As e.s = true := List.any_eq_true.2 ⟨e, he, by simp⟩
theorem isAl_mem {As : List Al} {e : Al} (he : e ∈ As) : isAl As e.a = true := List.any_eq_true.2 ⟨e, he, by simp⟩
theorem rk_par2 {id : Nat} (Ps : List Post) (As : List Al) (TS : List Nat) (hm : P.follows .mixedOrders = true) (hok : parOk2 ops As = true) (hTS : As.all (fun e => TS.contains e.T) = true) (hnd : ∀ e ∈ As, ∀ e' ∈ As, e.a = e'.a → e = e') (hper : perAll2 TS Ps)
    (hstep : parAll (fun i o p => (isSt As i = true ∨ isAl As i = true ∧ ∀ v w, p v w) ∨ isAl As i = false ∧ ∀ fr' w', Ext w w' → (∀ t, notYet ops i t = true → fr' t = fr t) → (∀ j q, isSt As j = false → Ps[j]? = some q → isDep o j = true → q (fr' (dstOf ops j)) w') →
      OE P n o.op o.type fr' w' fun v w'' => Ext w' w'' ∧ p v w'') 0 ops.toList Ps)
    (hal : alAll (fun e => (∃ o, ops[e.a]? = some o ∧ ∀ fr' w', OE P n o.op o.type fr' w' fun v w'' => ∃ b, v = .pointer (some ⟨b, 0, none⟩) ∧ New w' b (.cells e.cs e.T) w'') ∧
      (∃ o, ops[e.s]? = some o ∧ ∀ fr' w' b, Ext w w' → (∀ t, notYet ops e.s t = true → fr' t = fr t) → (∀ j q, isSt As j = false → Ps[j]? = some q → isDep o j = true → q (fr' (dstOf ops j)) w') → fr' (dstOf ops e.a) = .pointer (some ⟨b, 0, none⟩) → w'.heap[b]? = some (.cells e.cs e.T) →
        OE P n o.op o.type fr' w' fun _ w'' => St b w' w'' ∧ w''.heap[b]? = some (.cells (fr' (dstOf ops e.xi)).cells e.T))) As)
    (hk : ∀ fr' w', Ext w w' → (∀ t, notDst ops t = true → fr' t = fr t) → parAll (fun i o p => isSt As i = true ∨ p (fr' (dstOf ops i)) w') 0 ops.toList Ps →
      alAll (fun e => ∃ b, fr' (dstOf ops e.a) = .pointer (some ⟨b, 0, none⟩) ∧ w.heap.size ≤ b ∧ w'.heap[b]? = some (.cells (fr' (dstOf ops e.xi)).cells e.T)) As →
      (∀ e ∈ As, ∀ e' ∈ As, e.a ≠ e'.a → fr' (dstOf ops e.a) ≠ fr' (dstOf ops e'.a)) → RunK P f n R k fr' w') :
    RunK P f n R (.code (.region id ops true) :: k) fr w := by
  have hfix : ∀ {listed : Array Bool} {fr' : Fr} {w' : World}, ParInv2 ops Ps As fr w listed fr' w' → ∀ i, listed.getD i false = false → ∀ t, notYet ops i t = true → fr' t = fr t := by
    intro listed fr' w' hI i hl t ht
    refine hI.fixed t fun j o ho hd => ?_
    have h1 := List.all_eq_true.1 ht o (by have := Array.mem_of_getElem? ho; simpa using this)
    rw [hd] at h1
    simp only [Bool.or_eq_true, Bool.not_eq_true'] at h1
    rcases h1 with h1 | h1
    · simp at h1
    · cases hj : listed.getD j true with
      | false => rfl
      | true => rw [hI.shut j o ho hj i h1] at hl; cases hl
  have hlen : ops.toList.length = Ps.length := by
    have : ∀ (S : Nat → Oper → Post → Prop) (i : Nat) (os : List Oper) (ps : List Post), parAll S i os ps → os.length = ps.length := by
      intro S i os
      induction os generalizing i with
      | nil => intro ps h; cases ps with
        | nil => rfl
        | cons p ps => exact h.elim
      | cons o os ih => intro ps h; cases ps with
        | nil => exact h.elim
        | cons p ps => simp [ih _ _ h.2]
    exact this _ _ _ _ hstep
  have hlen' : ops.size = Ps.length := by simpa using hlen
  have hdstlt : ∀ {i : Nat}, i < ops.size → True := fun _ => trivial
  have main : ∀ (fuel : Nat) (listed : Array Bool) (fr' : Fr) (w' : World), ParInv2 ops Ps As fr w listed fr' w' → (listed.toList.count false ≤ fuel) → AW P f n R k ops (fun _ => True) [] fuel listed fr' w' := by
    have fin : ∀ (listed : Array Bool) (fr' : Fr) (w' : World), ParInv2 ops Ps As fr w listed fr' w' → Region.ready .any ops listed = [] → RunK P f n R k fr' w' := by
      intro listed fr' w' hI hr
      have hall : ∀ i, i < ops.size → listed.getD i true = true := by
        intro i
        induction i using Nat.strongRecOn with
        | _ i ih =>
          intro hi
          cases hl : listed.getD i true with
          | true => rfl
          | false =>
            exfalso
            have ho : ops[i]? = some ops[i] := Array.getElem?_eq_getElem hi
            have : i ∈ Region.ready .any ops listed := mem_ready.2 ⟨hl, _, ho, fun e he hb => by
              have h1 := (parOk2_at hok ho).2.2.2.1 e he hb
              have h2 := ih e.on h1 (by omega)
              have h3 : e.on < listed.size := by rw [hI.size]; omega
              simpa [h3] using h2⟩
            rw [hr] at this
            cases this
      have halt : ∀ i, listed.getD i true = true := fun i => by
        by_cases h : i < ops.size
        · exact hall i h
        · have : ¬ i < listed.size := by rw [hI.size]; exact h
          simp [this]
      refine hk fr' w' hI.ext (fun t ht => hI.fixed t fun j o ho hd => by
        exfalso
        have h4 := List.all_eq_true.1 ht o (by have := Array.mem_of_getElem? ho; simpa using this)
        rw [hd] at h4
        simp at h4) (parAll_mk hlen fun j o p ho hp => ?_) (alAll_mk fun e he => ?_) (fun e he e' he' hne => hI.dist e he e' he' hne (halt _) (halt _))
      · rw [Nat.zero_add]
        cases hs : isSt As j with
        | true => exact .inl rfl
        | false => exact .inr (hI.done j p hp hs (halt j))
      · obtain ⟨b, h1, h2, h3⟩ := hI.mem e he (halt _)
        refine ⟨b, h1, h2, ?_⟩
        rcases h3 with h3 | h3
        · rw [halt] at h3; cases h3.1
        · exact h3.2
    intro fuel
    induction fuel with
    | zero =>
      intro listed fr' w' hI hc
      refine aw_done ?_ (fin listed fr' w' hI ?_)
      all_goals
        rw [List.eq_nil_iff_forall_not_mem]
        intro i hi
        obtain ⟨h1, o, ho, _⟩ := mem_ready.1 hi
        have hlt : i < listed.size := by rw [hI.size]; exact (Array.getElem?_eq_some_iff.1 ho).1
        have h2 : listed[i] = false := by simpa [hlt] using h1
        have : 0 < listed.toList.count false := List.count_pos_iff.2 (by rw [← h2]; simp)
        omega
    | succ fuel ih =>
      intro listed fr' w' hI hc
      by_cases hr : Region.ready .any ops listed = []
      · exact aw_done hr (fin listed fr' w' hI hr)
      · refine wpAnyJ_all (rs := Region.ready .any ops listed) rfl hr ?_
        intro i hi
        obtain ⟨h1, o, ho, hd⟩ := mem_ready.1 hi
        obtain ⟨hg, hds, hdn, hlt, hne⟩ := parOk2_at hok ho
        obtain ⟨p, hp, hs⟩ := parAll_get hstep (j := i) (o := o) (by simpa using ho)
        rw [Nat.zero_add] at hs
        have hisz : i < ops.size := (Array.getElem?_eq_some_iff.1 ho).1
        have hil : i < listed.size := by rw [hI.size]; exact hisz
        have hif : listed.getD i false = false := by simpa [hil] using h1
        have hcount : (listed.setIfInBounds i true).toList.count false ≤ fuel := by
          have h2 : listed[i] = false := by simpa [hil] using h1
          have hl2 : i < listed.toList.length := by simpa using hil
          have h5 : listed.toList[i] = false := by simpa using h2
          have hpos : 0 < listed.toList.count false := List.count_pos_iff.2 (by rw [← h5]; exact List.getElem_mem hl2)
          rw [Array.toList_setIfInBounds, List.count_set hl2, h5]
          have e1 : ((false == false) = true) := rfl
          have e2 : ¬ ((true == false) = true) := by decide
          rw [if_pos e1, if_neg e2]
          omega
        have hdeps : ∀ j, isDep o j = true → listed.getD j false = true ∧ j < i := fun j hdep => by
          simp only [isDep, List.any_eq_true, Bool.and_eq_true, Array.mem_toList_iff] at hdep
          obtain ⟨e, he, hb, hj⟩ := hdep
          obtain rfl : e.on = j := Nat.eq_of_beq_eq_true hj
          exact ⟨hd e he hb, hlt e he hb⟩
        have hdq : ∀ j q, isSt As j = false → Ps[j]? = some q → isDep o j = true → q (fr' (dstOf ops j)) w' := fun j q hjs hq hdep => by
          obtain ⟨h6, h7⟩ := hdeps j hdep
          have hjl : j < listed.size := by omega
          exact hI.done j q hq hjs (by simpa [hjl] using h6)
        have hset : ∀ j, listed.getD j true = true → (listed.setIfInBounds i true).getD j true = true := fun j hj => by
          by_cases hji : i = j
          · subst hji; simp [hil]
          · rw [getD_set_ne true hji]; exact hj
        have hsetf : ∀ j, listed.getD j false = true → (listed.setIfInBounds i true).getD j false = true := fun j hj => by
          by_cases hji : i = j
          · subst hji; simp [hil]
          · rw [getD_set_ne false hji]; exact hj
        have hshut : ∀ j o', ops[j]? = some o' → (listed.setIfInBounds i true).getD j true = true → ∀ i', isDep o' i' = true → (listed.setIfInBounds i true).getD i' false = true := fun j o' ho' hj i' hdep => by
          by_cases hji : i = j
          · subst hji
            rw [ho] at ho'
            injection ho' with ho'
            subst ho'
            exact hsetf _ (hdeps i' hdep).1
          · rw [getD_set_ne true hji] at hj
            exact hsetf _ (hI.shut j o' ho' hj i' hdep)
        have htf : ∀ j, j < ops.size → listed.getD j false = listed.getD j true := fun j hj => by
          have : j < listed.size := by rw [hI.size]; exact hj
          simp [this]
        have hfixed2 : ∀ (fr2 : Fr), (∀ t, o.dst ≠ some t → fr2 t = fr' t) → ∀ t, (∀ j o', ops[j]? = some o' → o'.dst = some t → (listed.setIfInBounds i true).getD j true = false) → fr2 t = fr t := by
          intro fr2 h2 t ht
          have hnt : o.dst ≠ some t := fun hh => by
            have h5 := ht i o ho hh
            simp [hil] at h5
          rw [h2 t hnt]
          refine hI.fixed t fun j o' ho' hd' => ?_
          have h5 := ht j o' ho' hd'
          by_cases hji : i = j
          · subst hji; simp [hil] at h5
          · rwa [getD_set_ne true hji] at h5
        -- what is not a store
        have plain : ∀ (v : Value) (w2 : World) (d : Nat), isSt As i = false → o.dst = some d → dstOf ops i = d → Ext w' w2 → p v w2 →
            (∀ e ∈ As, e.a = i → ∃ b, v = .pointer (some ⟨b, 0, none⟩) ∧ w.heap.size ≤ b ∧ w'.heap.size ≤ b ∧ w2.heap[b]? = some (.cells e.cs e.T)) →
            AW P f n R k ops (fun _ => True) [] fuel (listed.setIfInBounds i true) (upd fr' d v) w2 := by
          intro v w2 d his hdst hdo he hpv hnew
          have hupd : ∀ t, t ≠ d → upd fr' d v t = fr' t := fun t ht => by
            have : Nat.beq t d = false := by rw [← Bool.not_eq_true]; exact fun hb => ht (Nat.eq_of_beq_eq_true hb)
            simp only [upd, this, cond_false]
          have hupe : upd fr' d v d = v := by
            have : Nat.beq d d = true := by simp
            simp only [upd, this, cond_true]
          have hdj : ∀ j, j < ops.size → j ≠ i → isSt As j = false → dstOf ops j ≠ d := fun j hj hji hjs => by rw [← hdo]; exact hne his j hj hji hjs
          refine ih _ _ _ ⟨by simp [hI.size], hI.ext.trans (he.mono hI.ext.size), hfixed2 _ (fun t ht => hupd t fun hh => ht (by rw [hdst, hh])), hshut, fun j q hq hjs hj => ?_, fun e hee hea => ?_, fun e hee e' hee' hne' h3 h4 => ?_⟩ hcount
          · by_cases hji : j = i
            · subst hji
              rw [hp] at hq
              injection hq with hq
              subst hq
              rw [hdo, hupe]
              exact hpv
            · rw [getD_set_ne true (Ne.symm hji)] at hj
              have hjz : j < ops.size := by
                have := (List.getElem?_eq_some_iff.1 hq).1
                omega
              rw [hupd _ (hdj j hjz hji hjs)]
              exact (perAll2_get hper hq).1 _ _ _ he (hI.done j q hq hjs hj)
          · obtain ⟨ha, hxz, hxs, hxa, ⟨os, hos, hda, hdx⟩, _⟩ := parOk2_al hok hee
            have hesi : e.s ≠ i := fun hh => by rw [← hh, isSt_mem hee] at his; cases his
            have hsl : (listed.setIfInBounds i true).getD e.s true = listed.getD e.s true := getD_set_ne true (Ne.symm hesi)
            by_cases hai : e.a = i
            · obtain ⟨b, hb1, hb2, hb3, hb4⟩ := hnew e hee hai
              refine ⟨b, by rw [hai, hdo, hupe]; exact hb1, hb2, .inl ⟨?_, hb4⟩⟩
              rw [hsl]
              cases hls : listed.getD e.s true with
              | false => rfl
              | true =>
                have := hI.shut e.s os hos hls e.a hda
                rw [hai, hif] at this
                cases this
            · rw [getD_set_ne true (Ne.symm hai)] at hea
              obtain ⟨b, hb1, hb2, hb3⟩ := hI.mem e hee hea
              have has : isSt As e.a = false := by
                cases hh : isSt As e.a with
                | false => rfl
                | true =>
                  have hoa : ops[e.a]? = some ops[e.a] := Array.getElem?_eq_getElem ha
                  have := ((parOk2_at hok hoa).2.1 hh).2
                  rw [isAl_mem hee] at this
                  cases this
              refine ⟨b, by rw [hupd _ (hdj _ ha hai has)]; exact hb1, hb2, ?_⟩
              rcases hb3 with hb3 | hb3
              · exact .inl ⟨by rw [hsl]; exact hb3.1, he.blk hb3.2⟩
              · refine .inr ⟨by rw [hsl]; exact hb3.1, ?_⟩
                have hxi : e.xi ≠ i := fun hh => by
                  have := hI.shut e.s os hos hb3.1 e.xi hdx
                  rw [hh, hif] at this
                  cases this
                rw [hupd _ (hdj _ hxz hxi hxs)]
                exact he.blk hb3.2
          · have old : ∀ e ∈ As, e.a ≠ i → (listed.setIfInBounds i true).getD e.a true = true → ∃ b, upd fr' d v (dstOf ops e.a) = .pointer (some ⟨b, 0, none⟩) ∧ fr' (dstOf ops e.a) = .pointer (some ⟨b, 0, none⟩) ∧ b < w'.heap.size := by
              intro e hee hai hea
              obtain ⟨ha, _, _, _, _, _⟩ := parOk2_al hok hee
              rw [getD_set_ne true (Ne.symm hai)] at hea
              obtain ⟨b, hb1, hb2, hb3⟩ := hI.mem e hee hea
              have has : isSt As e.a = false := by
                cases hh : isSt As e.a with
                | false => rfl
                | true =>
                  have hoa : ops[e.a]? = some ops[e.a] := Array.getElem?_eq_getElem ha
                  have := ((parOk2_at hok hoa).2.1 hh).2
                  rw [isAl_mem hee] at this
                  cases this
              refine ⟨b, by rw [hupd _ (hdj _ ha hai has)]; exact hb1, hb1, ?_⟩
              rcases hb3 with hb3 | hb3
              · exact lt_of_blk hb3.2
              · exact lt_of_blk hb3.2
            by_cases hai : e.a = i
            · have hai' : e'.a ≠ i := fun hh => hne' (by rw [hai, hh])
              obtain ⟨b, hb1, hb2, hb3, hb4⟩ := hnew e hee hai
              obtain ⟨b', hb1', _, hb2'⟩ := old e' hee' hai' h4
              rw [hb1', hai, hdo, hupe, hb1]
              intro hh
              injection hh with hh
              injection hh with hh
              injection hh with hh
              omega
            · by_cases hai' : e'.a = i
              · obtain ⟨b, hb1, hb2, hb3, hb4⟩ := hnew e' hee' hai'
                obtain ⟨b', hb1', _, hb2'⟩ := old e hee hai h3
                rw [hb1', hai', hdo, hupe, hb1]
                intro hh
                injection hh with hh
                injection hh with hh
                injection hh with hh
                omega
              · obtain ⟨b, hb1, hb1o, _⟩ := old e hee hai h3
                obtain ⟨b', hb1', hb1o', _⟩ := old e' hee' hai' h4
                rw [getD_set_ne true (Ne.symm hai)] at h3
                rw [getD_set_ne true (Ne.symm hai')] at h4
                have := hI.dist e hee e' hee' hne' h3 h4
                rw [hb1, hb1', ← hb1o, ← hb1o']
                exact this
        have wrap : ∀ {Q : Value → World → Prop}, OE P n o.op o.type fr' w' Q → (∀ v w2, Q v w2 → AW P f n R k ops (fun _ => True) [] fuel (listed.setIfInBounds i true) (putO fr' o.dst v) w2) →
            wpOp P ops (NQ P f n R k) i (fun a' w' => (i ∈ ([] : List Nat) ∨ True) ∧ wpAnyJ P .any ops (NQ P f n R k) (fun _ => True) [] fuel (listed.setIfInBounds i true) a' w') (actOf n fr') w' := by
          intro Q hQ hk2
          obtain ⟨dst, op, ty, pos, af, g⟩ := o
          subst hg
          exact wpOp_oe i ho .none (K := fun fr2 w2 => (i ∈ ([] : List Nat) ∨ True) ∧ AW P f n R k ops (fun _ => True) [] fuel (listed.setIfInBounds i true) fr2 w2) (fun fr2 w2 hh => hh) (hQ.mono fun v w2 hv => ⟨.inr trivial, hk2 v w2 hv⟩)
        cases his : isSt As i with
        | true =>
          obtain ⟨e, hee, hei⟩ := List.any_eq_true.1 his
          obtain rfl : e.s = i := Nat.eq_of_beq_eq_true hei
          obtain ⟨ha, hxz, hxs, hxa, ⟨os, hos, hda, hdx⟩, hpair⟩ := parOk2_al hok hee
          rw [ho] at hos
          injection hos with hos
          subst hos
          have hal2 := (alAll_get hal e hee).2
          obtain ⟨o2, ho2, hst⟩ := hal2
          rw [ho] at ho2
          injection ho2 with ho2
          subst ho2
          have hla : listed.getD e.a true = true := by rw [← htf _ ha]; exact (hdeps _ hda).1
          obtain ⟨b, hb1, hb2, hb3⟩ := hI.mem e hee hla
          have hb4 : w'.heap[b]? = some (.cells e.cs e.T) := by
            rcases hb3 with hb3 | hb3
            · exact hb3.2
            · rw [h1] at hb3; cases hb3.1
          refine wrap (hst fr' w' b hI.ext (hfix hI _ hif) hdq hb1 hb4) fun v w2 ⟨hS, hB⟩ => ?_
          rw [(hds his).1]
          show AW P f n R k ops (fun _ => True) [] fuel (listed.setIfInBounds e.s true) fr' w2
          have hTe : e.T ∈ TS := by
            have := List.all_eq_true.1 hTS e hee
            simpa using this
          refine ih _ _ _ ⟨by simp [hI.size], below_st hI.ext hb2 hS, hfixed2 _ (fun t _ => rfl), hshut, fun j q hq hjs hj => ?_, fun e' hee' hea => ?_, fun e1 he1 e2 he2 hne' h3 h4 => ?_⟩ hcount
          · have hji : e.s ≠ j := fun hh => by rw [← hh, his] at hjs; cases hjs
            rw [getD_set_ne true hji] at hj
            exact (perAll2_get hper hq).2 _ _ _ b _ _ _ hS hb4 hTe (hI.done j q hq hjs hj)
          · have hea' : listed.getD e'.a true = true := by
              by_cases hh : e.s = e'.a
              · exfalso
                have := (hds his).2
                rw [hh, isAl_mem hee'] at this
                cases this
              · rwa [getD_set_ne true hh] at hea
            obtain ⟨b', hb1', hb2', hb3'⟩ := hI.mem e' hee' hea'
            rcases hpair e' hee' with ⟨q1, q2, q3, q4⟩ | ⟨q1, q2⟩
            · refine ⟨b, by rw [← q1]; exact hb1, hb2, .inr ⟨by rw [← q2]; simp [hil], by rw [← q3, ← q4]; exact hB⟩⟩
            · have hbb : b' ≠ b := fun hh => by
                have := hI.dist e hee e' hee' q1 hla hea'
                rw [hb1, hb1', hh] at this
                exact this rfl
              have hsl : (listed.setIfInBounds e.s true).getD e'.s true = listed.getD e'.s true := getD_set_ne true q2
              refine ⟨b', hb1', hb2', ?_⟩
              rcases hb3' with hb3' | hb3'
              · exact .inl ⟨by rw [hsl]; exact hb3'.1, hS.blk hb3'.2 hbb⟩
              · exact .inr ⟨by rw [hsl]; exact hb3'.1, hS.blk hb3'.2 hbb⟩
          · have q : ∀ e1 ∈ As, (listed.setIfInBounds e.s true).getD e1.a true = true → listed.getD e1.a true = true := fun e1 he1 h => by
              by_cases hh : e.s = e1.a
              · exfalso
                have := (hds his).2
                rw [hh, isAl_mem he1] at this
                cases this
              · rwa [getD_set_ne true hh] at h
            exact hI.dist e1 he1 e2 he2 hne' (q e1 he1 h3) (q e2 he2 h4)
        | false =>
          obtain ⟨d, hdst, hdo⟩ := hdn his
          rcases hs with (hs | hs) | hs
          · rw [his] at hs; cases hs
          · obtain ⟨e, hee, hei⟩ := List.any_eq_true.1 hs.1
            obtain rfl : e.a = i := Nat.eq_of_beq_eq_true hei
            obtain ⟨o2, ho2, hst⟩ := (alAll_get hal e hee).1
            rw [ho] at ho2
            injection ho2 with ho2
            subst ho2
            refine wrap (hst fr' w') fun v w2 ⟨b, hv, hN⟩ => ?_
            rw [hdst]
            show AW P f n R k ops (fun _ => True) [] fuel (listed.setIfInBounds e.a true) (upd fr' d v) w2
            refine plain v w2 d his hdst hdo hN.ext (hs.2 _ _) fun e' hee' hea' => ⟨b, hv, ?_, ?_, ?_⟩
            · rw [hN.eq]; exact hI.ext.size
            · rw [hN.eq]; exact Nat.le_refl _
            · rw [hnd e' hee' e hee hea']; exact hN.blk
          · refine wrap (hs.2 fr' w' hI.ext (hfix hI _ hif) hdq) fun v w2 ⟨he, hpv⟩ => ?_
            rw [hdst]
            show AW P f n R k ops (fun _ => True) [] fuel (listed.setIfInBounds i true) (upd fr' d v) w2
            refine plain v w2 d his hdst hdo he hpv fun e' hee' hea' => ?_
            have := isAl_mem hee'
            rw [hea', hs.1] at this
            cases this
  refine rk_any (fun _ => True) [] hm fun w1 hdr => ?_
  refine main ops.size _ fr w1 ⟨by simp, hdr.ext, fun t _ => rfl, fun j o ho hj => ?_, fun j p hp _ hj => ?_, fun e he hj => ?_, fun e he e' he' _ hj => ?_⟩ ?_
  · exfalso
    have hjs := (Array.getElem?_eq_some_iff.1 ho).1
    simp [hjs] at hj
  · exfalso
    have hjs : j < ops.size := by
      have := (List.getElem?_eq_some_iff.1 hp).1
      omega
    simp [hjs] at hj
  · exfalso
    have hjs := (parOk2_al hok he).1
    simp [hjs] at hj
  · exfalso
    have hjs := (parOk2_al hok he).1
    simp [hjs] at hj
  · have := List.count_le_length (a := false) (l := (Array.replicate ops.size false).toList)
    simp
end
end Go.Proofs.Ytpnjkjahfklfnaa.Fw
