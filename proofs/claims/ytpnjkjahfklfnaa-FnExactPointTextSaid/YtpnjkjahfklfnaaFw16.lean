/- A region that draws its order, two stores into one place among its operations. Generic over the program. -/
import Derived.Test.YtpnjkjahfklfnaaFw13
set_option linter.unusedVariables false
set_option linter.unusedSimpArgs false
namespace Go.Proofs.Ytpnjkjahfklfnaa.Fw
open Go Go.RowKit
/-- No guards; each but the two stores writes a slot of its own; each waits for earlier ones alone; the second store waits for the first. -/
def st2Ok (ops : Array Oper) (s s2 : Nat) : Bool :=
  Nat.blt s ops.size && Nat.blt s2 ops.size && !Nat.beq s s2 && ((ops[s2]?).map (isDep · s)).getD false && (List.range ops.size).all fun i => match ops[i]? with
    | some o => o.guard.isNone && (if i = s ∨ i = s2 then o.dst.isNone else o.dst.isSome) && o.after.toList.all (fun e => !Region.binds .any e || Nat.blt e.on i) && (List.range ops.size).all (fun j => Nat.beq i j || Nat.beq i s || Nat.beq j s || Nat.beq i s2 || Nat.beq j s2 || !Nat.beq (dstOf ops i) (dstOf ops j))
    | none => false
section
variable {P : Program} {f n : Nat} {R : Ending → World → Prop} {k : List Item} {fr : Fr} {w : World} {ops : Array Oper}
structure St2Inv (ops : Array Oper) (s s2 : Nat) (Vs : List Value) (K1 K : World → Prop) (fr : Fr) (w1 : World) (listed : Array Bool) (fr' : Fr) (w' : World) : Prop where
  size : listed.size = ops.size
  fixed : ∀ t, (∀ j o, ops[j]? = some o → o.dst = some t → listed.getD j true = false) → fr' t = fr t
  shut : ∀ j o, ops[j]? = some o → listed.getD j true = true → ∀ i, isDep o i = true → listed.getD i false = true
  done : ∀ j v, Vs[j]? = some v → j ≠ s → j ≠ s2 → listed.getD j true = true → fr' (dstOf ops j) = v
  before : listed.getD s true = false → w' = w1
  mid : listed.getD s true = true → listed.getD s2 true = false → K1 w'
  after : listed.getD s2 true = true → K w'
theorem st2Ok_at {s s2 : Nat} (h : st2Ok ops s s2 = true) {i : Nat} {o : Oper} (ho : ops[i]? = some o) :
    (s < ops.size ∧ s2 < ops.size ∧ s ≠ s2 ∧ ((ops[s2]?).map (isDep · s)).getD false = true) ∧ o.guard = none ∧ (i = s ∨ i = s2 → o.dst = none) ∧ (¬ (i = s ∨ i = s2) → ∃ d, o.dst = some d ∧ dstOf ops i = d) ∧ (∀ e ∈ o.after, Region.binds .any e = true → e.on < i) ∧ (¬ (i = s ∨ i = s2) → ∀ j, j < ops.size → j ≠ i → ¬ (j = s ∨ j = s2) → dstOf ops j ≠ dstOf ops i) := by
  have hi := (Array.getElem?_eq_some_iff.1 ho).1
  simp only [st2Ok, Bool.and_eq_true] at h
  obtain ⟨⟨⟨⟨hs, hs2⟩, hss⟩, hdd⟩, h⟩ := h
  have h1 := List.all_eq_true.1 h i (by simpa using hi)
  simp only [ho, Bool.and_eq_true, Option.isNone_iff_eq_none, List.all_eq_true, Bool.or_eq_true, Bool.not_eq_true', List.mem_range, Array.mem_toList_iff] at h1
  obtain ⟨⟨⟨h2, h3⟩, h4⟩, h5⟩ := h1
  refine ⟨⟨by simpa using hs, by simpa using hs2, by intro he; subst he; simp at hss, hdd⟩, h2, fun he => ?_, fun he => ?_, fun e he hb => ?_, fun his j hj hne hjs heq => ?_⟩
  · rw [if_pos he] at h3; simpa using h3
  · rw [if_neg he, Option.isSome_iff_exists] at h3
    obtain ⟨d, h3⟩ := h3
    exact ⟨d, h3, by simp [dstOf, ho, h3]⟩
  · rcases h4 e he with h | h
    · rw [hb] at h; cases h
    · simpa using h
  · rcases h5 j hj with ((((h | h) | h) | h) | h) | h
    · exact hne (Nat.eq_of_beq_eq_true h).symm
    · exact his (.inl (Nat.eq_of_beq_eq_true h))
    · exact hjs (.inl (Nat.eq_of_beq_eq_true h))
    · exact his (.inr (Nat.eq_of_beq_eq_true h))
    · exact hjs (.inr (Nat.eq_of_beq_eq_true h))
    · rw [heq] at h
      simp at h
theorem rk_st2 {id : Nat} (s s2 : Nat) (Vs : List Value) (K1 K : World → Prop) (hm : P.follows .mixedOrders = true) (hok : st2Ok ops s s2 = true)
    (hstep : ∀ w1, Drew w w1 → stAll (fun i o v => ∀ fr' w', (i = s ∨ ((ops[s]?).map (isDep · i)).getD false = true → w' = w1) → (i = s2 → K1 w') → (∀ t, notYet ops i t = true → fr' t = fr t) → (∀ j q, ¬ (j = s ∨ j = s2) → Vs[j]? = some q → isDep o j = true → fr' (dstOf ops j) = q) →
      OE P n o.op o.type fr' w' fun u w'' => if i = s then K1 w'' else if i = s2 then K w'' else u = v ∧ w'' = w') 0 ops.toList Vs)
    (hk : ∀ fr' w', K w' → (∀ t, notDst ops t = true → fr' t = fr t) → stAll (fun i o v => (i = s ∨ i = s2) ∨ fr' (dstOf ops i) = v) 0 ops.toList Vs → RunK P f n R k fr' w') :
    RunK P f n R (.code (.region id ops true) :: k) fr w := by
  refine rk_any (fun _ => True) [] hm fun w1 hdr => ?_
  have hst := hstep w1 hdr
  have hlen := stAll_len _ _ _ _ hst
  have hfix : ∀ {listed : Array Bool} {fr' : Fr} {w' : World}, St2Inv ops s s2 Vs K1 K fr w1 listed fr' w' → ∀ i, listed.getD i false = false → ∀ t, notYet ops i t = true → fr' t = fr t := by
    intro listed fr' w' hI i hl t ht
    refine hI.fixed t fun j o ho hd => ?_
    have h1 := List.all_eq_true.1 ht o (by have := Array.mem_of_getElem? ho; simpa using this)
    rw [hd] at h1
    simp only [Bool.or_eq_true, Bool.not_eq_true'] at h1
    rcases h1 with h1 | h1
    · simp at h1
    · cases hj : listed.getD j true with
      | false => rfl
      | true => rw [hI.shut j o ho hj i h1] at hl; cases hl
  have hlen' : ops.size = Vs.length := by simpa using hlen
  have main : ∀ (fuel : Nat) (listed : Array Bool) (fr' : Fr) (w' : World), St2Inv ops s s2 Vs K1 K fr w1 listed fr' w' → (listed.toList.count false ≤ fuel) → AW P f n R k ops (fun _ => True) [] fuel listed fr' w' := by
    have fin : ∀ (listed : Array Bool) (fr' : Fr) (w' : World), St2Inv ops s s2 Vs K1 K fr w1 listed fr' w' → Region.ready .any ops listed = [] → RunK P f n R k fr' w' := by
      intro listed fr' w' hI hr
      have hall : ∀ i, i < ops.size → listed.getD i true = true := by
        intro i
        induction i using Nat.strongRecOn with
        | _ i ih =>
          intro hi
          cases hl : listed.getD i true with
          | true => rfl
          | false =>
            exfalso
            have ho : ops[i]? = some ops[i] := Array.getElem?_eq_getElem hi
            have : i ∈ Region.ready .any ops listed := mem_ready.2 ⟨hl, _, ho, fun e he hb => by
              have h1 := (st2Ok_at hok ho).2.2.2.2.1 e he hb
              have h2 := ih e.on h1 (by omega)
              have h3 : e.on < listed.size := by rw [hI.size]; omega
              simpa [h3] using h2⟩
            rw [hr] at this
            cases this
      have hss : listed.getD s2 true = true := by
        by_cases h : s2 < ops.size
        · exact hall s2 h
        · have : ¬ s2 < listed.size := by rw [hI.size]; exact h
          simp [this]
      refine hk fr' w' (hI.after hss) (fun t ht => hI.fixed t fun j o ho hd => by
        exfalso
        have h4 := List.all_eq_true.1 ht o (by have := Array.mem_of_getElem? ho; simpa using this)
        rw [hd] at h4
        simp at h4) (stAll_mk hlen fun j o v ho hp => ?_)
      have hj : j < ops.size := by have := (List.getElem?_eq_some_iff.1 ho).1; simpa using this
      rw [Nat.zero_add]
      by_cases hjs : j = s ∨ j = s2
      · exact .inl hjs
      · exact .inr (hI.done j v hp (fun h => hjs (.inl h)) (fun h => hjs (.inr h)) (hall j hj))
    intro fuel
    induction fuel with
    | zero =>
      intro listed fr' w' hI hc
      refine aw_done ?_ (fin listed fr' w' hI ?_)
      all_goals
        rw [List.eq_nil_iff_forall_not_mem]
        intro i hi
        obtain ⟨h1, o, ho, _⟩ := mem_ready.1 hi
        have hlt : i < listed.size := by rw [hI.size]; exact (Array.getElem?_eq_some_iff.1 ho).1
        have h2 : listed[i] = false := by simpa [hlt] using h1
        have : 0 < listed.toList.count false := List.count_pos_iff.2 (by rw [← h2]; simp)
        omega
    | succ fuel ih =>
      intro listed fr' w' hI hc
      by_cases hr : Region.ready .any ops listed = []
      · exact aw_done hr (fin listed fr' w' hI hr)
      · refine wpAnyJ_all (rs := Region.ready .any ops listed) rfl hr ?_
        intro i hi
        obtain ⟨h1, o, ho, hd⟩ := mem_ready.1 hi
        obtain ⟨⟨hsz, hsz2, hss, hdd⟩, hg, hds, hdn, hlt, hne⟩ := st2Ok_at hok ho
        obtain ⟨v, hp, hs⟩ := stAll_get hst (j := i) (o := o) (by simpa using ho)
        rw [Nat.zero_add] at hs
        have hil : i < listed.size := by rw [hI.size]; exact (Array.getElem?_eq_some_iff.1 ho).1
        have hslt : s < listed.size := by rw [hI.size]; exact hsz
        have hslt2 : s2 < listed.size := by rw [hI.size]; exact hsz2
        have hcount : ∀ b : Bool, (listed.setIfInBounds i true).toList.count false ≤ fuel := by
          intro _
          have h2 : listed[i] = false := by simpa [hil] using h1
          have hl2 : i < listed.toList.length := by simpa using hil
          have h5 : listed.toList[i] = false := by simpa using h2
          have hpos : 0 < listed.toList.count false := List.count_pos_iff.2 (by rw [← h5]; exact List.getElem_mem hl2)
          rw [Array.toList_setIfInBounds, List.count_set hl2, h5]
          have e1 : ((false == false) = true) := rfl
          have e2 : ¬ ((true == false) = true) := by decide
          rw [if_pos e1, if_neg e2]
          omega
        have hdeps : ∀ j, isDep o j = true → listed.getD j false = true ∧ j < i := fun j hdep => by
          simp only [isDep, List.any_eq_true, Bool.and_eq_true, Array.mem_toList_iff] at hdep
          obtain ⟨e, he, hb, hj⟩ := hdep
          obtain rfl : e.on = j := Nat.eq_of_beq_eq_true hj
          exact ⟨hd e he hb, hlt e he hb⟩
        have hs' := hs fr' w' (fun hor => by
          refine hI.before ?_
          rcases hor with rfl | hor
          · exact h1
          · cases hls : listed.getD s true with
            | false => rfl
            | true =>
              exfalso
              have ho2 : ops[s]? = some ops[s] := Array.getElem?_eq_getElem hsz
              rw [ho2] at hor
              have h6 := hI.shut s _ ho2 hls i (by simpa using hor)
              simp [hil] at h6 h1
              rw [h6] at h1
              cases h1) (fun h => by
          subst h
          refine hI.mid ?_ (by simpa [hil] using h1)
          rw [ho] at hdd
          have h7 := (hdeps s (by simpa using hdd)).1
          simpa [hslt] using h7) (hfix hI i (by simpa [hil] using h1)) (fun j q hjs hq hdep => by
          obtain ⟨h6, h7⟩ := hdeps j hdep
          have hjl : j < listed.size := by omega
          exact hI.done j q hq (fun h => hjs (.inl h)) (fun h => hjs (.inr h)) (by simpa [hjl] using h6))
        have hset : ∀ j, listed.getD j true = true → (listed.setIfInBounds i true).getD j true = true := fun j hj => by
          by_cases hji : i = j
          · subst hji; simp [hil]
          · rw [getD_set_ne true hji]; exact hj
        have hsetf : ∀ j, listed.getD j false = true → (listed.setIfInBounds i true).getD j false = true := fun j hj => by
          by_cases hji : i = j
          · subst hji; simp [hil]
          · rw [getD_set_ne false hji]; exact hj
        obtain ⟨dst, op, ty, pos, af, g⟩ := o
        subst hg
        by_cases his : i = s
        · subst his
          obtain rfl := hds (.inl rfl)
          refine wpOp_oe i ho .none (K := fun fr2 w2 => (i ∈ ([] : List Nat) ∨ True) ∧ AW P f n R k ops (fun _ => True) [] fuel (listed.setIfInBounds i true) fr2 w2) (fun fr2 w2 hh => hh) (hs'.mono fun u w2 hK => ⟨.inr trivial, ih _ _ _ ⟨by simp [hI.size], fun t ht => hI.fixed t fun j o' ho' hd' => ?_, fun j o' ho' hj i' hdep => by
            by_cases hji : i = j
            · subst hji
              rw [ho] at ho'
              injection ho' with ho'
              subst ho'
              exact hsetf _ (hdeps i' hdep).1
            · rw [getD_set_ne true hji] at hj
              exact hsetf _ (hI.shut j o' ho' hj i' hdep), fun j q hq hja hjb hj => ?_, fun hf => ?_, fun ha hb => ?_, fun ht => ?_⟩ (hcount true)⟩)
          · have h5 := ht j o' ho' hd'
            by_cases hji : i = j
            · subst hji
              rw [ho] at ho'
              exact absurd hd' (by rw [← Option.some.inj ho']; simp)
            · rwa [getD_set_ne true hji] at h5
          · rw [getD_set_ne true (Ne.symm hja)] at hj
            exact hI.done j q hq hja hjb hj
          · simp [hil] at hf
          · simpa using hK
          · exfalso
            rw [getD_set_ne true hss] at ht
            have ho2 : ops[s2]? = some ops[s2] := Array.getElem?_eq_getElem hsz2
            rw [ho2] at hdd
            have h6 := hI.shut s2 _ ho2 ht i (by simpa using hdd)
            simp [hil] at h6 h1
            rw [h6] at h1
            cases h1
        by_cases his2 : i = s2
        · subst his2
          obtain rfl := hds (.inr rfl)
          refine wpOp_oe i ho .none (K := fun fr2 w2 => (i ∈ ([] : List Nat) ∨ True) ∧ AW P f n R k ops (fun _ => True) [] fuel (listed.setIfInBounds i true) fr2 w2) (fun fr2 w2 hh => hh) (hs'.mono fun u w2 hK => ⟨.inr trivial, ih _ _ _ ⟨by simp [hI.size], fun t ht => hI.fixed t fun j o' ho' hd' => ?_, fun j o' ho' hj i' hdep => by
            by_cases hji : i = j
            · subst hji
              rw [ho] at ho'
              injection ho' with ho'
              subst ho'
              exact hsetf _ (hdeps i' hdep).1
            · rw [getD_set_ne true hji] at hj
              exact hsetf _ (hI.shut j o' ho' hj i' hdep), fun j q hq hja hjb hj => ?_, fun hf => ?_, fun ha hb => ?_, fun ht => ?_⟩ (hcount true)⟩)
          · have h5 := ht j o' ho' hd'
            by_cases hji : i = j
            · subst hji
              rw [ho] at ho'
              exact absurd hd' (by rw [← Option.some.inj ho']; simp)
            · rwa [getD_set_ne true hji] at h5
          · rw [getD_set_ne true (Ne.symm hjb)] at hj
            exact hI.done j q hq hja hjb hj
          · exfalso
            rw [getD_set_ne true (Ne.symm hss)] at hf
            rw [ho] at hdd
            have h7 := (hdeps s (by simpa using hdd)).1
            simp [hslt] at hf h7
            rw [hf] at h7
            cases h7
          · simp [hil] at hb
          · rw [if_neg his, if_pos rfl] at hK
            exact hK
        · obtain ⟨d, hdst, hdo⟩ := hdn (fun h => h.elim his his2)
          simp only at hdst
          subst hdst
          refine wpOp_oe i ho .none (K := fun fr2 w2 => (i ∈ ([] : List Nat) ∨ True) ∧ AW P f n R k ops (fun _ => True) [] fuel (listed.setIfInBounds i true) fr2 w2) (fun fr2 w2 hh => hh) (hs'.mono fun u w2 hu => ⟨.inr trivial, ?_⟩)
          rw [if_neg his, if_neg his2] at hu
          obtain ⟨rfl, rfl⟩ := hu
          refine ih _ _ _ ⟨by simp [hI.size], fun t ht => ?_, fun j o' ho' hj i' hdep => by
            by_cases hji : i = j
            · subst hji
              rw [ho] at ho'
              injection ho' with ho'
              subst ho'
              exact hsetf _ (hdeps i' hdep).1
            · rw [getD_set_ne true hji] at hj
              exact hsetf _ (hI.shut j o' ho' hj i' hdep), fun j q hq hja hjb hj => ?_, fun hf => ?_, fun ha hb => ?_, fun ht => ?_⟩ (hcount true)
          · have h2 := hI.fixed t fun j o' ho' hd' => by
              have h5 := ht j o' ho' hd'
              by_cases hji : i = j
              · subst hji; simp [hil] at h5
              · rwa [getD_set_ne true hji] at h5
            have h3 : Nat.beq t d = false := by
              rw [← Bool.not_eq_true]
              intro hb
              have := Nat.eq_of_beq_eq_true hb
              subst this
              have h5 := ht i _ ho rfl
              simp [hil] at h5
            show upd fr' d u t = fr t
            simp only [upd, h3, cond_false]
            exact h2
          · show upd fr' d u (dstOf ops j) = q
            by_cases hji : j = i
            · subst hji
              rw [hp] at hq
              injection hq with hq
              subst hq
              have : Nat.beq (dstOf ops j) d = true := by rw [hdo]; simp
              simp only [upd, this, cond_true]
            · rw [getD_set_ne true (Ne.symm hji)] at hj
              have hjz : j < ops.size := by
                have := (List.getElem?_eq_some_iff.1 hq).1
                omega
              have hbeq : Nat.beq (dstOf ops j) d = false := by
                rw [← Bool.not_eq_true]
                intro hb
                exact hne (fun h => h.elim his his2) j hjz hji (fun h => h.elim hja hjb) (by rw [Nat.eq_of_beq_eq_true hb, hdo])
              simp only [upd, hbeq, cond_false]
              exact hI.done j q hq hja hjb hj
          · rw [getD_set_ne true his] at hf
            exact hI.before hf
          · rw [getD_set_ne true his] at ha
            rw [getD_set_ne true his2] at hb
            exact hI.mid ha hb
          · rw [getD_set_ne true his2] at ht
            exact hI.after ht
  refine main ops.size _ fr w1 ⟨by simp, fun t _ => rfl, fun j o ho hj => ?_, fun j v hv _ _ hj => ?_, fun _ => rfl, fun hs _ => ?_, fun hs => ?_⟩ ?_
  · exfalso
    have hjs := (Array.getElem?_eq_some_iff.1 ho).1
    simp [hjs] at hj
  · exfalso
    have hjs : j < ops.size := by
      have := (List.getElem?_eq_some_iff.1 hv).1
      omega
    simp [hjs] at hj
  · exfalso
    have hsz : s < ops.size := by
      have h0 : st2Ok ops s s2 = true := hok
      simp only [st2Ok, Bool.and_eq_true] at h0
      simpa using h0.1.1.1.1
    simp [hsz] at hs
  · exfalso
    have hsz : s2 < ops.size := by
      have h0 : st2Ok ops s s2 = true := hok
      simp only [st2Ok, Bool.and_eq_true] at h0
      simpa using h0.1.1.1.2
    simp [hsz] at hs
  · have := List.count_le_length (a := false) (l := (Array.replicate ops.size false).toList)
    simp
end
end Go.Proofs.Ytpnjkjahfklfnaa.Fw
