/- The operations of a region, in order and in a drawn order. Generic over the program. -/
import Derived.Test.YtpnjkjahfklfnaaFw1
set_option linter.unusedVariables false
set_option linter.unusedSimpArgs false
namespace Go.Proofs.Ytpnjkjahfklfnaa.Fw
open Go

/-! ### A region in the text's order -/
def NQ (P : Program) (f n : Nat) (R : Ending → World → Prop) (k : List Item) : Exit → Act → World → Prop :=
  fun e a w => e = .normal ∧ ∃ fr, a = actOf n fr ∧ RunK P f n R k fr w
def LW (P : Program) (f n : Nat) (R : Ending → World → Prop) (k : List Item) (ops : Array Oper) (l : List Oper) (fr : Fr) (w : World) : Prop :=
  wpList P ops (NQ P f n R k) l (actOf n fr) w

section
variable {P : Program} {f n : Nat} {R : Ending → World → Prop} {k : List Item} {fr : Fr} {w : World} {ops : Array Oper} {rest : List Oper}

theorem rk_code {c : Code} (h : c.wp P (NQ P f n R k) (actOf n fr) w) : RunK P f n R (.code c :: k) fr w := by
  intro b cs hb hk
  obtain ⟨e, a', w', ⟨he, fr', ha, hr⟩, harr⟩ := h b k cs
  subst he; subst ha
  obtain ⟨e2, w2, frm, hR, hc, hf, hl⟩ := hr b cs hb hk
  exact ⟨e2, w2, frm, hR, Comes.of_steps harr hc, hf, hl⟩

theorem rk_reg {id : Nat} {l : List Oper} (h : LW P f n R k l.toArray l fr w) : RunK P f n R (.code (.region id l.toArray false) :: k) fr w :=
  rk_code (wp_region_lit h)

theorem lw_nil (h : RunK P f n R k fr w) : LW P f n R k ops [] fr w := wpList_nil ⟨rfl, fr, rfl, h⟩

/-- The operation yields a value and leaves the world. -/
def DV (P : Program) (n : Nat) (op : Op) (ty : TypeId) (fr : Fr) (w : World) (v : Value) : Prop :=
  ∀ dst pos af g, (execOp (actOf n fr).eval ⟨dst, op, ty, pos, af, g⟩).run P w = .ok (.value v) w
/-- The operation yields a value and turns the world. -/
def OE (P : Program) (n : Nat) (op : Op) (ty : TypeId) (fr : Fr) (w : World) (K : Value → World → Prop) : Prop :=
  ∀ dst pos af g (Kk : Act → World → Prop) (Q : Exit → Act → World → Prop), (∀ v w', K v w' → Kk (actOf n (putO fr dst v)) w') →
    (⟨dst, op, ty, pos, af, g⟩ : Oper).wp P (actOf n fr) w Kk Q

theorem OE.of_run {op : Op} {ty : TypeId} {K : Value → World → Prop} {v : Value} {w' : World}
    (h : ∀ dst pos af g, (execOp (actOf n fr).eval ⟨dst, op, ty, pos, af, g⟩).run P w = .ok (.value v) w') (hK : K v w') : OE P n op ty fr w K := by
  intro dst pos af g Kk Q hk
  unfold Oper.wp
  rw [h]
  show Kk ((actOf n fr).put dst v) w'
  rw [actOf_put]
  exact hk v w' hK
theorem OE.of_skip {op : Op} {ty : TypeId} {K : Value → World → Prop} {w' : World}
    (h : ∀ dst pos af g, (execOp (actOf n fr).eval ⟨dst, op, ty, pos, af, g⟩).run P w = .ok .skip w') (hK : K undef w') : OE P n op ty fr w K := by
  intro dst pos af g Kk Q hk
  unfold Oper.wp
  rw [h]
  show Kk ((actOf n fr).put dst undef) w'
  rw [actOf_put]
  exact hk undef w' hK
theorem DV.oe {op : Op} {ty : TypeId} {v : Value} {K : Value → World → Prop} (h : DV P n op ty fr w v) (hK : K v w) : OE P n op ty fr w K :=
  OE.of_run h hK
theorem OE.mono {op : Op} {ty : TypeId} {K K' : Value → World → Prop} (h : OE P n op ty fr w K) (hK : ∀ v w', K v w' → K' v w') : OE P n op ty fr w K' :=
  fun dst pos af g Kk Q hk => h dst pos af g Kk Q fun v w' hv => hk v w' (hK v w' hv)

/-- An operation without a guard. -/
theorem lw_v {dst : Option Tmp} {op : Op} {ty : TypeId} {pos : String} {af : Array Edge} (v : Value) (h : DV P n op ty fr w v)
    (hk : LW P f n R k ops rest (putO fr dst v) w) : LW P f n R k ops (⟨dst, op, ty, pos, af, none⟩ :: rest) fr w :=
  wpList_plain rfl fun Kk hK => by
    unfold Oper.wp
    rw [h]
    show Kk ((actOf n fr).put dst v) w
    rw [actOf_put]
    exact hK _ _ hk
theorem lw_e {dst : Option Tmp} {op : Op} {ty : TypeId} {pos : String} {af : Array Edge}
    (h : OE P n op ty fr w fun v w' => LW P f n R k ops rest (putO fr dst v) w') : LW P f n R k ops (⟨dst, op, ty, pos, af, none⟩ :: rest) fr w :=
  wpList_plain rfl fun Kk hK => h dst pos af none Kk _ fun v w' hv => hK _ _ hv

theorem yielded_act {g d : Nat} {v : Bool} (hd : (ops[g]?).bind (·.dst) = some d) (hn : Nat.blt d n = true) (hv : fr d = .bool v) :
    yielded ops (actOf n fr).tmps g = some v := by
  have h' : d < n := by simpa using hn
  unfold yielded
  rw [hd]
  simp [actOf, h', hv]
/-- Its guard says yes. -/
theorem lw_vy {dst : Option Tmp} {op : Op} {ty : TypeId} {pos : String} {af : Array Edge} {g d : Nat} {b : Bool} (v : Value)
    (hd : (ops[g]?).bind (·.dst) = some d) (hn : Nat.blt d n = true) (hv : fr d = .bool b) (h : DV P n op ty fr w v)
    (hk : LW P f n R k ops rest (putO fr dst v) w) : LW P f n R k ops (⟨dst, op, ty, pos, af, some (g, b)⟩ :: rest) fr w :=
  wpList_step fun Kk hK => by
    have hy := yielded_act (ops := ops) hd hn hv
    simp only [Region.wanted, hy, beq_self_eq_true, if_true]
    unfold Oper.wp
    rw [h]
    show Kk ((actOf n fr).put dst v) w
    rw [actOf_put]
    exact hK _ _ hk
theorem lw_ey {dst : Option Tmp} {op : Op} {ty : TypeId} {pos : String} {af : Array Edge} {g d : Nat} {b : Bool}
    (hd : (ops[g]?).bind (·.dst) = some d) (hn : Nat.blt d n = true) (hv : fr d = .bool b)
    (h : OE P n op ty fr w fun v w' => LW P f n R k ops rest (putO fr dst v) w') : LW P f n R k ops (⟨dst, op, ty, pos, af, some (g, b)⟩ :: rest) fr w :=
  wpList_step fun Kk hK => by
    have hy := yielded_act (ops := ops) hd hn hv
    simp only [Region.wanted, hy, beq_self_eq_true, if_true]
    exact h dst pos af _ Kk _ fun v w' hv => hK _ _ hv
/-- Its guard says no. -/
theorem lw_no {dst : Option Tmp} {op : Op} {ty : TypeId} {pos : String} {af : Array Edge} {g d : Nat} {b : Bool}
    (hd : (ops[g]?).bind (·.dst) = some d) (hn : Nat.blt d n = true) (hv : fr d = .bool (!b))
    (hk : LW P f n R k ops rest (putO fr dst undef) w) : LW P f n R k ops (⟨dst, op, ty, pos, af, some (g, b)⟩ :: rest) fr w :=
  wpList_step fun Kk hK => by
    have hy := yielded_act (ops := ops) hd hn hv
    have : (some (!b) == some b) = false := by cases b <;> rfl
    simp only [Region.wanted, hy, this, Bool.false_eq_true, if_false]
    rw [actOf_put]
    exact hK _ _ hk
/-- Its guard was passed over. -/
theorem yielded_undef {g d : Nat} (hd : (ops[g]?).bind (·.dst) = some d) (hv : fr d = undef) :
    yielded ops (actOf n fr).tmps g = none := by
  unfold yielded
  rw [hd]
  by_cases h' : d < n
  · simp [actOf, h', hv, undef]
  · simp [actOf, h']
theorem lw_nou {dst : Option Tmp} {op : Op} {ty : TypeId} {pos : String} {af : Array Edge} {g d : Nat} {b : Bool}
    (hd : (ops[g]?).bind (·.dst) = some d) (hv : fr d = undef)
    (hk : LW P f n R k ops rest (putO fr dst undef) w) : LW P f n R k ops (⟨dst, op, ty, pos, af, some (g, b)⟩ :: rest) fr w :=
  wpList_step fun Kk hK => by
    have hy := yielded_undef (n := n) (ops := ops) hd hv
    have : ((none : Option Bool) == some b) = false := by cases b <;> rfl
    simp only [Region.wanted, hy, this, Bool.false_eq_true, if_false]
    rw [actOf_put]
    exact hK _ _ hk
end

/-! ### A region in a drawn order -/
section
variable {P : Program} {ops : Array Oper} {Q : Exit → Act → World → Prop} {md : Region.Mode} {S : World → Prop} {fin : List Nat}

/-- Whatever order is picked; behind each operation that is not of the last ones, 'S' holds. -/
def wpAnyJ (P : Program) (md : Region.Mode) (ops : Array Oper) (Q : Exit → Act → World → Prop) (S : World → Prop) (fin : List Nat) : Nat → Array Bool → Act → World → Prop
  | 0, listed, a, w => Region.ready md ops listed = [] ∧ Q .normal a w
  | fuel + 1, listed, a, w =>
    (Region.ready md ops listed = [] → Q .normal a w) ∧
    ∀ i ∈ Region.ready md ops listed, wpOp P ops Q i (fun a' w' => (i ∈ fin ∨ S w') ∧ wpAnyJ P md ops Q S fin fuel (listed.setIfInBounds i true) a' w') a w

theorem wpAny_of_J : ∀ (fuel : Nat) (listed : Array Bool) (a : Act) (w : World), wpAnyJ P md ops Q S fin fuel listed a w → wpAny P md ops Q fuel listed a w
  | 0, _, _, _, h => h
  | fuel + 1, _, _, _, h => ⟨h.1, fun i hi => wpOp_mono (fun a' w' h' => wpAny_of_J fuel _ a' w' h'.2) (h.2 i hi)⟩

/-- Every one of the last operations waits for number i. -/
def finOk (md : Region.Mode) (ops : Array Oper) (fin : List Nat) (i : Nat) : Bool :=
  fin.all fun j => j == i || ((ops[j]?).map fun o => o.after.any fun e => Region.binds md e && e.on == i).getD true

theorem wpAnyJ_first {G : World → Prop} {i : Nat} {oi : Oper} {v : Value} (hi : ops[i]? = some oi) (hsel : ∀ (j : Nat) (o : Oper) cs b, ops[j]? = some o → o.op ≠ .select cs b)
    (hQ : ∀ c a w, Q (.panic c) (a.put oi.dst v) w → Q (.panic c) a w)
    (hF : i ∈ fin ∨ ∀ j oj, ops[j]? = some oj → j ≠ i → (∀ e ∈ oj.after, Region.binds md e = true → e.on ≠ i) → j ∉ fin)
    (hG : ∀ j oj w, ops[j]? = some oj → j ≠ i → (∀ e ∈ oj.after, Region.binds md e = true → e.on ≠ i) → (j ∈ fin ∨ S w) → G w) :
    ∀ (fuel : Nat) (listed : Array Bool) (a : Act) (w : World),
      (∀ j oj, ops[j]? = some oj → j ≠ i → listed.getD j true = false → (∀ e ∈ oj.after, Region.binds md e = true → e.on ≠ i) → oi.apart ops oj = true) →
      i ∈ Region.ready md ops listed → YieldsIf P ops G oi v a → G w → (i ∈ fin ∨ S w) →
      wpAnyJ P md ops Q S fin fuel (listed.setIfInBounds i true) (a.put oi.dst v) w → wpAnyJ P md ops Q S fin (fuel + 1) listed a w := by
  intro fuel
  induction fuel with
  | zero =>
    intro listed a w _ hr hy hGw hSw H
    refine ⟨fun h => (by rw [h] at hr; cases hr), fun j hj => ?_⟩
    by_cases hji : j = i
    · subst hji; exact hy.wpOp hi hGw ⟨hSw, H⟩
    · have := ready_mono hj hji
      rw [H.1] at this
      cases this
  | succ fuel ih =>
    intro listed a w hfree hr hy hGw hSw H
    refine ⟨fun h => (by rw [h] at hr; cases hr), fun j hj => ?_⟩
    by_cases hji : j = i
    · subst hji; exact hy.wpOp hi hGw ⟨hSw, H⟩
    · have h1 := H.2 j (ready_mono hj hji)
      obtain ⟨hjun, oj, hoj, hall⟩ := mem_ready.1 hj
      have hnot : ∀ e ∈ oj.after, Region.binds md e = true → e.on ≠ i := fun e he hb heq => by
        have h1 := hall e he hb
        have h0 := (mem_ready.1 hr).1
        rw [heq] at h1
        rcases Nat.lt_or_ge i listed.size with h' | h'
        · simp [h'] at h0 h1; rw [h0] at h1; cases h1
        · simp [Array.getElem?_eq_none h'] at h1
      have h2 := wpOp_putIf hoj (hfree j oj hoj hji hjun hnot) (fun cs b => hsel i oi cs b hi) (fun cs b => hsel j oj cs b hoj) hQ hy h1
      have hfree' : ∀ k ok, ops[k]? = some ok → k ≠ i → (listed.setIfInBounds j true).getD k true = false →
          (∀ e ∈ ok.after, Region.binds md e = true → e.on ≠ i) → oi.apart ops ok = true := fun k ok hk hki hun hno => by
        refine hfree k ok hk hki ?_ hno
        by_cases hjk : j = k
        · subst hjk; exact hjun
        · rw [getD_set_ne true hjk] at hun; exact hun
      refine wpOp_mono (fun a' w' h3 => ⟨h3.2.1, ih (listed.setIfInBounds j true) a' w' hfree' (ready_mono hr (Ne.symm hji)) h3.1 (hG j oj w' hoj hji hnot h3.2.1) ?_ ?_⟩) h2
      · rcases hF with h5 | h5
        · exact .inl h5
        · exact .inr (h3.2.1.resolve_left (h5 j oj hoj hji hnot))
      · rw [Array.setIfInBounds_comm _ _ hji]
        exact h3.2.2

theorem finOk_spec {i : Nat} (h : finOk md ops fin i = true) {j : Nat} {oj : Oper} (hj : ops[j]? = some oj) (hji : j ≠ i)
    (hno : ∀ e ∈ oj.after, Region.binds md e = true → e.on ≠ i) : j ∉ fin := by
  intro hm
  have h1 := List.all_eq_true.1 h j hm
  simp only [Bool.or_eq_true, beq_iff_eq, hji, false_or, hj, Option.map_some, Option.getD_some, Array.any_eq_true, Bool.and_eq_true] at h1
  obtain ⟨x, hx, hb, hi⟩ := h1
  exact hno _ (Array.getElem_mem hx) hb hi

/-- A load is taken first. -/
theorem wpAnyJ_load {i : Nat} {oi : Oper} {v : Value} {fuel : Nat} {listed : Array Bool} {a : Act} {w : World} (hi : ops[i]? = some oi)
    (hs : Region.noSelect ops = true) (hf : Region.free md ops listed i = true) (hr : (Region.ready md ops listed).contains i = true) (hfin : finOk md ops fin i = true)
    (hQ : ∀ c a w, Q (.panic c) (a.put oi.dst v) w → Q (.panic c) a w) (hy : YieldsIf P ops S oi v a) (hS : S w)
    (h : wpAnyJ P md ops Q S fin fuel (listed.setIfInBounds i true) (a.put oi.dst v) w) : wpAnyJ P md ops Q S fin (fuel + 1) listed a w :=
  wpAnyJ_first (G := S) hi (Region.noSelect_spec hs) hQ (.inr fun j oj hj hji hno => finOk_spec hfin hj hji hno)
    (fun j oj w hj hji hno hor => hor.resolve_left (finOk_spec hfin hj hji hno)) fuel listed a w (Region.free_spec hi hf) (by simpa using hr) hy hS (.inr hS) h
/-- What asks nothing of the world is taken first. -/
theorem wpAnyJ_pure {i : Nat} {oi : Oper} {v : Value} {fuel : Nat} {listed : Array Bool} {a : Act} {w : World} (hi : ops[i]? = some oi)
    (hs : Region.noSelect ops = true) (hf : Region.free md ops listed i = true) (hr : (Region.ready md ops listed).contains i = true) (hfin : finOk md ops fin i = true)
    (hQ : ∀ c a w, Q (.panic c) (a.put oi.dst v) w → Q (.panic c) a w) (hy : YieldsIf P ops (fun _ => True) oi v a) (hS : S w)
    (h : wpAnyJ P md ops Q S fin fuel (listed.setIfInBounds i true) (a.put oi.dst v) w) : wpAnyJ P md ops Q S fin (fuel + 1) listed a w :=
  wpAnyJ_first (G := fun _ => True) hi (Region.noSelect_spec hs) hQ (.inr fun j oj hj hji hno => finOk_spec hfin hj hji hno)
    (fun _ _ _ _ _ _ _ => trivial) fuel listed a w (Region.free_spec hi hf) (by simpa using hr) hy trivial (.inr hS) h
/-- One of the last ones, and it asks nothing of the world. -/
theorem wpAnyJ_last {i : Nat} {oi : Oper} {v : Value} {fuel : Nat} {listed : Array Bool} {a : Act} {w : World} (hi : ops[i]? = some oi)
    (hs : Region.noSelect ops = true) (hf : Region.free md ops listed i = true) (hr : (Region.ready md ops listed).contains i = true) (hfin : fin.contains i = true)
    (hQ : ∀ c a w, Q (.panic c) (a.put oi.dst v) w → Q (.panic c) a w) (hy : YieldsIf P ops (fun _ => True) oi v a)
    (h : wpAnyJ P md ops Q S fin fuel (listed.setIfInBounds i true) (a.put oi.dst v) w) : wpAnyJ P md ops Q S fin (fuel + 1) listed a w :=
  wpAnyJ_first (G := fun _ => True) hi (Region.noSelect_spec hs) hQ (.inl (by simpa using hfin))
    (fun _ _ _ _ _ _ _ => trivial) fuel listed a w (Region.free_spec hi hf) (by simpa using hr) hy trivial (.inl (by simpa using hfin)) h
theorem wpAnyJ_all {rs : List Nat} {fuel : Nat} {listed : Array Bool} {a : Act} {w : World} (hr : Region.ready md ops listed = rs) (hne : rs ≠ [])
    (h : ∀ i ∈ rs, wpOp P ops Q i (fun a' w' => (i ∈ fin ∨ S w') ∧ wpAnyJ P md ops Q S fin fuel (listed.setIfInBounds i true) a' w') a w) : wpAnyJ P md ops Q S fin (fuel + 1) listed a w :=
  ⟨fun h0 => absurd (hr ▸ h0) hne, hr ▸ h⟩
theorem wpAnyJ_done {listed : Array Bool} {a : Act} {w : World} (hr : Region.ready md ops listed = []) (h : Q .normal a w) :
    ∀ fuel, wpAnyJ P md ops Q S fin fuel listed a w
  | 0 => ⟨hr, h⟩
  | _ + 1 => ⟨fun _ => h, by rw [hr]; simp⟩
end

/-! ### .. and over frames -/
def AW (P : Program) (f n : Nat) (R : Ending → World → Prop) (k : List Item) (ops : Array Oper) (S : World → Prop) (fin : List Nat) (fuel : Nat) (listed : Array Bool) (fr : Fr) (w : World) : Prop :=
  wpAnyJ P .any ops (NQ P f n R k) S fin fuel listed (actOf n fr) w
section
variable {P : Program} {f n : Nat} {R : Ending → World → Prop} {k : List Item} {fr : Fr} {w : World} {ops : Array Oper} {S : World → Prop} {fin : List Nat} {fuel : Nat} {listed : Array Bool}

/-- The world behind a draw. -/
def Drew (w w' : World) : Prop := w' = { w with drawn := w.drawn + 1 }
theorem rk_any {id : Nat} (S : World → Prop) (fin : List Nat) (hm : P.follows .mixedOrders = true)
    (h : ∀ w', Drew w w' → AW P f n R k ops S fin ops.size (Array.replicate ops.size false) fr w') : RunK P f n R (.code (.region id ops true) :: k) fr w :=
  rk_code (wp_region_any hm (wpAny_of_J _ _ _ _ (h _ rfl)))

theorem nq_panic {c : List PanicEntry} {a : Act} : NQ P f n R k (.panic c) a w → False := fun h => by cases h.1

/-- What a guard says: none, or the yes. -/
inductive GY (ops : Array Oper) (n : Nat) (fr : Fr) : Option (Nat × Bool) → Prop
  | none : GY ops n fr none
  | yes {g d : Nat} {b : Bool} (hd : (ops[g]?).bind (·.dst) = some d) (hn : Nat.blt d n = true) (hv : fr d = .bool b) : GY ops n fr (some (g, b))
theorem GY.wanted {dst : Option Tmp} {op : Op} {ty : TypeId} {pos : String} {af : Array Edge} {g : Option (Nat × Bool)} (h : GY ops n fr g) :
    Region.wanted ⟨dst, op, ty, pos, af, g⟩ (yielded ops (actOf n fr).tmps) = true := by
  cases h with
  | none => rfl
  | yes hd hn hv =>
    have hy := yielded_act (ops := ops) hd hn hv
    simp [Region.wanted, hy]

theorem aw_load (i : Nat) {dst : Option Tmp} {op : Op} {ty : TypeId} {pos : String} {af : Array Edge} {g : Option (Nat × Bool)} (v : Value) (hi : ops[i]? = some ⟨dst, op, ty, pos, af, g⟩)
    (hc : (Region.noSelect ops && Region.free .any ops listed i && (Region.ready .any ops listed).contains i && finOk .any ops fin i) = true)
    (hg : GY ops n fr g) (hS : S w) (h : ∀ w, S w → DV P n op ty fr w v)
    (hk : AW P f n R k ops S fin fuel (listed.setIfInBounds i true) (putO fr dst v) w) : AW P f n R k ops S fin (fuel + 1) listed fr w := by
  simp only [Bool.and_eq_true] at hc
  obtain ⟨⟨⟨h1, h2⟩, h3⟩, h4⟩ := hc
  refine wpAnyJ_load (v := v) hi h1 h2 h3 h4 (fun c a w hq => (nq_panic hq).elim) (.inl ⟨hg.wanted, fun w hw => h w hw _ _ _ _⟩) hS ?_
  show wpAnyJ _ _ _ _ _ _ _ _ ((actOf n fr).put dst v) w
  rw [actOf_put]
  exact hk
theorem aw_pure (i : Nat) {dst : Option Tmp} {op : Op} {ty : TypeId} {pos : String} {af : Array Edge} {g : Option (Nat × Bool)} (v : Value) (hi : ops[i]? = some ⟨dst, op, ty, pos, af, g⟩)
    (hc : (Region.noSelect ops && Region.free .any ops listed i && (Region.ready .any ops listed).contains i && finOk .any ops fin i) = true)
    (hg : GY ops n fr g) (hS : S w) (h : ∀ w, DV P n op ty fr w v)
    (hk : AW P f n R k ops S fin fuel (listed.setIfInBounds i true) (putO fr dst v) w) : AW P f n R k ops S fin (fuel + 1) listed fr w := by
  simp only [Bool.and_eq_true] at hc
  obtain ⟨⟨⟨h1, h2⟩, h3⟩, h4⟩ := hc
  refine wpAnyJ_pure (v := v) hi h1 h2 h3 h4 (fun c a w hq => (nq_panic hq).elim) (.inl ⟨hg.wanted, fun w hw => h w _ _ _ _⟩) hS ?_
  show wpAnyJ _ _ _ _ _ _ _ _ ((actOf n fr).put dst v) w
  rw [actOf_put]
  exact hk
theorem aw_last (i : Nat) {dst : Option Tmp} {op : Op} {ty : TypeId} {pos : String} {af : Array Edge} {g : Option (Nat × Bool)} (v : Value) (hi : ops[i]? = some ⟨dst, op, ty, pos, af, g⟩)
    (hc : (Region.noSelect ops && Region.free .any ops listed i && (Region.ready .any ops listed).contains i && fin.contains i) = true)
    (hg : GY ops n fr g) (h : ∀ w, DV P n op ty fr w v)
    (hk : AW P f n R k ops S fin fuel (listed.setIfInBounds i true) (putO fr dst v) w) : AW P f n R k ops S fin (fuel + 1) listed fr w := by
  simp only [Bool.and_eq_true] at hc
  obtain ⟨⟨⟨h1, h2⟩, h3⟩, h4⟩ := hc
  refine wpAnyJ_last (v := v) hi h1 h2 h3 h4 (fun c a w hq => (nq_panic hq).elim) (.inl ⟨hg.wanted, fun w hw => h w _ _ _ _⟩) ?_
  show wpAnyJ _ _ _ _ _ _ _ _ ((actOf n fr).put dst v) w
  rw [actOf_put]
  exact hk
/-- A guard that says no. -/
theorem aw_no (i : Nat) {dst : Option Tmp} {op : Op} {ty : TypeId} {pos : String} {af : Array Edge} {g d : Nat} {b : Bool} (hi : ops[i]? = some ⟨dst, op, ty, pos, af, some (g, b)⟩)
    (hc : (Region.noSelect ops && Region.free .any ops listed i && (Region.ready .any ops listed).contains i && finOk .any ops fin i) = true)
    (hd : (ops[g]?).bind (·.dst) = some d) (hn : Nat.blt d n = true) (hv : fr d = .bool (!b)) (hS : S w)
    (hk : AW P f n R k ops S fin fuel (listed.setIfInBounds i true) (putO fr dst undef) w) : AW P f n R k ops S fin (fuel + 1) listed fr w := by
  simp only [Bool.and_eq_true] at hc
  obtain ⟨⟨⟨h1, h2⟩, h3⟩, h4⟩ := hc
  have hy := yielded_act (ops := ops) hd hn hv
  have : (some (!b) == some b) = false := by cases b <;> rfl
  refine wpAnyJ_pure (v := undef) hi h1 h2 h3 h4 (fun c a w hq => (nq_panic hq).elim) (.inr ⟨by simp only [Region.wanted, hy, this], rfl⟩) hS ?_
  show wpAnyJ _ _ _ _ _ _ _ _ ((actOf n fr).put dst undef) w
  rw [actOf_put]
  exact hk
theorem aw_nou (i : Nat) {dst : Option Tmp} {op : Op} {ty : TypeId} {pos : String} {af : Array Edge} {g d : Nat} {b : Bool} (hi : ops[i]? = some ⟨dst, op, ty, pos, af, some (g, b)⟩)
    (hc : (Region.noSelect ops && Region.free .any ops listed i && (Region.ready .any ops listed).contains i && finOk .any ops fin i) = true)
    (hd : (ops[g]?).bind (·.dst) = some d) (hv : fr d = undef) (hS : S w)
    (hk : AW P f n R k ops S fin fuel (listed.setIfInBounds i true) (putO fr dst undef) w) : AW P f n R k ops S fin (fuel + 1) listed fr w := by
  simp only [Bool.and_eq_true] at hc
  obtain ⟨⟨⟨h1, h2⟩, h3⟩, h4⟩ := hc
  have hy := yielded_undef (n := n) (ops := ops) hd hv
  have : ((none : Option Bool) == some b) = false := by cases b <;> rfl
  refine wpAnyJ_pure (v := undef) hi h1 h2 h3 h4 (fun c a w hq => (nq_panic hq).elim) (.inr ⟨by simp only [Region.wanted, hy, this], rfl⟩) hS ?_
  show wpAnyJ _ _ _ _ _ _ _ _ ((actOf n fr).put dst undef) w
  rw [actOf_put]
  exact hk
theorem wpOp_oe (i : Nat) {dst : Option Tmp} {op : Op} {ty : TypeId} {pos : String} {af : Array Edge} {g : Option (Nat × Bool)} (hi : ops[i]? = some ⟨dst, op, ty, pos, af, g⟩)
    (hg : GY ops n fr g) {K : Fr → World → Prop} {Kk : Act → World → Prop} {Q : Exit → Act → World → Prop} (hKk : ∀ fr w, K fr w → Kk (actOf n fr) w) (h : OE P n op ty fr w fun v w' => K (putO fr dst v) w') :
    wpOp P ops Q i Kk (actOf n fr) w := by
  unfold wpOp
  simp only [hi, hg.wanted, if_true]
  exact .inl (h _ _ _ _ _ _ fun v w' hv => hKk _ _ hv)
/-- One operation alone may come now. -/
theorem aw_one (i : Nat) {dst : Option Tmp} {op : Op} {ty : TypeId} {pos : String} {af : Array Edge} {g : Option (Nat × Bool)} (hi : ops[i]? = some ⟨dst, op, ty, pos, af, g⟩)
    (hr : Region.ready .any ops listed = [i]) (hg : GY ops n fr g)
    (h : OE P n op ty fr w fun v w' => (fin.contains i = true ∨ S w') ∧ AW P f n R k ops S fin fuel (listed.setIfInBounds i true) (putO fr dst v) w') : AW P f n R k ops S fin (fuel + 1) listed fr w := by
  refine wpAnyJ_all (rs := [i]) hr (by simp) ?_
  intro j hj
  obtain rfl : j = i := by simpa using hj
  exact wpOp_oe j hi hg (K := fun fr w => (fin.contains j = true ∨ S w) ∧ AW P f n R k ops S fin fuel (listed.setIfInBounds j true) fr w)
    (fun fr w hh => ⟨hh.1.imp (by simp) id, hh.2⟩) h
/-- One of two may come now. -/
theorem aw_two (i j : Nat) {dst dst2 : Option Tmp} {op op2 : Op} {ty ty2 : TypeId} {pos pos2 : String} {af af2 : Array Edge} {g g2 : Option (Nat × Bool)}
    (hi : ops[i]? = some ⟨dst, op, ty, pos, af, g⟩) (hj : ops[j]? = some ⟨dst2, op2, ty2, pos2, af2, g2⟩)
    (hr : Region.ready .any ops listed = [i, j]) (hg : GY ops n fr g) (hg2 : GY ops n fr g2)
    (h : OE P n op ty fr w fun v w' => (fin.contains i = true ∨ S w') ∧ AW P f n R k ops S fin fuel (listed.setIfInBounds i true) (putO fr dst v) w')
    (h2 : OE P n op2 ty2 fr w fun v w' => (fin.contains j = true ∨ S w') ∧ AW P f n R k ops S fin fuel (listed.setIfInBounds j true) (putO fr dst2 v) w') : AW P f n R k ops S fin (fuel + 1) listed fr w := by
  refine wpAnyJ_all (rs := [i, j]) hr (by simp) ?_
  intro x hx
  have hx' : x = i ∨ x = j := by simpa using hx
  rcases hx' with rfl | rfl
  · exact wpOp_oe x hi hg (K := fun fr w => (fin.contains x = true ∨ S w) ∧ AW P f n R k ops S fin fuel (listed.setIfInBounds x true) fr w)
      (fun fr w hh => ⟨hh.1.imp (by simp) id, hh.2⟩) h
  · exact wpOp_oe x hj hg2 (K := fun fr w => (fin.contains x = true ∨ S w) ∧ AW P f n R k ops S fin fuel (listed.setIfInBounds x true) fr w)
      (fun fr w hh => ⟨hh.1.imp (by simp) id, hh.2⟩) h2
theorem aw_done (hr : Region.ready .any ops listed = []) (h : RunK P f n R k fr w) : AW P f n R k ops S fin fuel listed fr w :=
  wpAnyJ_done hr ⟨rfl, fr, rfl, h⟩ _
end
end Go.Proofs.Ytpnjkjahfklfnaa.Fw
