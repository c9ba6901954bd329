/- Walks and plain mathematics, packed by a program of this session: declarations that the rows reach. -/
import Derived.WalkKit
import Derived.OrdersHeld
import Derived.KernelRfl
import Derived.ProofKit
import Derived.OpenShut
import Derived.ShutString
import Derived.ChangeOld
import Derived.SizedLaws
import Derived.ReadAgain
import Derived.ChangeBears
import Derived.Laws.StructEq
import Derived.Deep.Slices
set_option linter.unusedVariables false
namespace Go.Proofs.Ytdanhdbanfpghaa.Fw
open Go
abbrev Fr := Nat → Value
def upd (fr : Fr) (d : Nat) (v : Value) : Fr := fun i => bif Nat.beq i d then v else fr i
def putO (fr : Fr) : Option Tmp → Value → Fr
  | some d, v => upd fr d v
  | none, _ => fr
def actOf (n : Nat) (fr : Fr) : Act := ⟨Array.ofFn (fun i : Fin n => fr i), []⟩
theorem actOf_put (n : Nat) (fr : Fr) (dst : Option Tmp) (v : Value) : (actOf n fr).put dst v = actOf n (putO fr dst v) := by
  cases dst with
  | none => rfl
  | some d =>
    simp only [Act.put, actOf, putO]
    congr 1
    apply Array.ext_getElem?
    intro i
    simp only [Array.getElem?_setIfInBounds, Array.getElem?_ofFn, Array.size_ofFn, upd]
    by_cases h : d = i
    · subst h; by_cases hl : d < n <;> simp [hl]
    · have : Nat.beq i d = false := by
        rw [← Bool.not_eq_true]; intro hb; exact h (Nat.eq_of_beq_eq_true hb).symm
      simp [h, this]
theorem actOf_getD (n : Nat) (fr : Fr) (t : Nat) (h : Nat.blt t n = true) : (actOf n fr).tmps.getD t undef = fr t := by
  have h' : t < n := by simpa using h
  simp [actOf, h']
def EV (n : Nat) (fr : Fr) (x : Operand) (v : Value) : Prop := (actOf n fr).eval x = v
theorem T {n : Nat} {fr : Fr} {t : Nat} {v : Value} (h : Nat.blt t n = true) (e : fr t = v) : EV n fr (.tmp t) v := by
  show (actOf n fr).tmps.getD t undef = v; rw [actOf_getD n fr t h]; exact e
theorem C {n : Nat} {fr : Fr} {v : Value} : EV n fr (.const v) v := rfl
def fr0 (args : List Value) : Fr := fun i => args.getD i undef
def RunK (P : Program) (f n : Nat) (R : Ending → World → Prop) (k : List Item) (fr : Fr) (w : World) : Prop :=
  ∀ (b : Frame) (cs : List Frame), b.fn = f → b.kind = .normal →
    ∃ e w' frm, R e w' ∧ Comes P (lone (b.at (actOf n fr) k) cs w) (lone frm cs w') e ∧ frm.fn = f ∧ frm.leaving P w' e
section
variable {P : Program} {f n : Nat} {R : Ending → World → Prop} {k : List Item} {fr : Fr} {w : World}
theorem RunK.step {k' : List Item} {fr' : Fr} {w' : World}
    (hs : ∀ (b : Frame) (cs : List Frame), Go.step P (lone (b.at (actOf n fr) k) cs w) = .next (lone (b.at (actOf n fr') k') cs w'))
    (h : RunK P f n R k' fr' w') : RunK P f n R k fr w := by
  intro b cs hb hk
  obtain ⟨e, w2, frm, hR, hc, hf, hl⟩ := h b cs hb hk
  exact ⟨e, w2, frm, hR, Comes.of_steps (.one (hs b cs)) hc, hf, hl⟩
theorem rk_seq {a c : Code} (h : RunK P f n R (.code a :: .code c :: k) fr w) : RunK P f n R (.code (.seq a c) :: k) fr w :=
  h.step fun _ _ => step_seq
theorem rk_block {id : Nat} {c : Code} (h : RunK P f n R (.code c :: .inBlock id :: k) fr w) : RunK P f n R (.code (.block id c) :: k) fr w :=
  h.step fun _ _ => step_block
theorem rk_inBlock {id : Nat} (h : RunK P f n R k fr w) : RunK P f n R (.inBlock id :: k) fr w :=
  h.step fun _ _ => step_inBlock
theorem rk_skip (h : RunK P f n R k fr w) : RunK P f n R (.code .skip :: k) fr w :=
  h.step fun _ _ => step_skip
theorem rk_exit {id : Nat} {k' : List Item} (he : exitTo id k = some k') (h : RunK P f n R k' fr w) : RunK P f n R (.code (.exit id) :: k) fr w :=
  h.step fun _ _ => step_exit he
theorem rk_inLoop {c : Code} (h : RunK P f n R (.code c :: .inLoop c :: k) fr w) : RunK P f n R (.inLoop c :: k) fr w :=
  h.step fun _ _ => step_inLoop
theorem rk_ct {c : Operand} {x y : Code} (hc : EV n fr c (.bool true)) (h : RunK P f n R (.code x :: k) fr w) : RunK P f n R (.code (.cond c x y) :: k) fr w :=
  RunK.step (fun b cs => by rw [step_cond (t := true) hc]; rfl) h
theorem rk_cf {c : Operand} {x y : Code} (hc : EV n fr c (.bool false)) (h : RunK P f n R (.code y :: k) fr w) : RunK P f n R (.code (.cond c x y) :: k) fr w :=
  RunK.step (fun b cs => by rw [step_cond (t := false) hc]; rfl) h
theorem rk_loop {body : Code} (I : Nat → Fr → World → Prop) (d0 : Nat) (h0 : I d0 fr w)
    (hr : ∀ d fr w, I d fr w → (∀ d' fr' w', d' < d → I d' fr' w' → RunK P f n R (.inLoop body :: k) fr' w') →
      RunK P f n R (.code body :: .inLoop body :: k) fr w) : RunK P f n R (.code (.loop body) :: k) fr w := by
  have key : ∀ d fr w, I d fr w → RunK P f n R (.code body :: .inLoop body :: k) fr w := by
    intro d
    induction d using Nat.strongRecOn with
    | _ d ih =>
      intro fr w hI
      exact hr d fr w hI fun d' fr' w' hd hI' => rk_inLoop (ih d' hd fr' w' hI')
  exact RunK.step (fun b cs => step_loop) (key d0 fr w h0)
theorem rk_ret {fn : Func} {v : Value} (hf : P.funcs[f]? = some fn) (hr : (results fn (actOf n fr).tmps).run P w = .ok v w) (hR : R (.returned v) w) :
    RunK P f n R (.code .ret :: k) fr w := by
  intro b cs hb hk
  refine ⟨.returned v, w, { b.at (actOf n fr) (.code .ret :: k) with mode := .returning }, hR, Steps.one step_ret, hb, rfl, rfl, hk, fn, ?_, hr⟩
  have : ({ b.at (actOf n fr) (.code .ret :: k) with mode := .returning } : Frame).fn = f := hb
  rw [this]; exact hf
theorem calls_run {fn : Func} {c : Code} {args : List Value} (hf : P.funcs[f]? = some fn) (hb : fn.body = some c) (hn : fn.ntmps = n) (ha : Nat.ble args.length n = true)
    (h : RunK P f n R [.code c] (fr0 args) w) : Calls P f args.toArray w R := by
  intro cs
  let b : Frame := { (default : Frame) with fn := f, kind := .normal }
  have henter : Frame.enter P f args.toArray .normal = b.at (actOf n (fr0 args)) [.code c] := by
    have ha := Nat.le_of_ble_eq_true ha
    have : (args.toArray ++ Array.replicate (fn.ntmps - args.toArray.size) undef) = (actOf n (fr0 args)).tmps := by
      subst hn
      apply Array.ext
      · simp [actOf]; omega
      · intro i h1 h2
        simp only [actOf, Array.getElem_ofFn, fr0, Array.getElem_append]
        split
        · rename_i hlt
          simp at hlt
          simp [List.getD_eq_getElem?_getD, List.getElem?_eq_getElem hlt]
        · rename_i hlt
          simp at hlt
          simp [List.getD_eq_getElem?_getD, List.getElem?_eq_none hlt]
    simp only [Frame.enter, Frame.at, hf, b, Option.map_some, Option.getD_some, Option.bind_some, hb, this]
    rfl
  rw [henter]
  exact h b cs rfl rfl
def rSem (n : Nat) (fr : Fr) : ResultVar → Sem Value
  | .tmp t => pure ((actOf n fr).tmps.getD t undef)
  | .cell a t => do loadVar t (← asAddr ((actOf n fr).tmps.getD a undef))
def RV (P : Program) (n : Nat) (fr : Fr) (w : World) (r : ResultVar) (v : Value) : Prop := (rSem n fr r).run P w = .ok v w
theorem rv_tmp {t : Nat} {v : Value} (h : Nat.blt t n = true) (e : fr t = v) : RV P n fr w (.tmp t) v := by
  show Result.ok ((actOf n fr).tmps.getD t undef) w = _; rw [actOf_getD n fr t h, e]
theorem results_eq (fn : Func) : results fn (actOf n fr).tmps = (do
    let vs ← fn.results.mapM (rSem n fr)
    pure (if h : vs.size = 1 then vs[0] else .tuple vs)) := by
  unfold results
  congr 1
theorem res1 {fn : Func} {r : ResultVar} {v : Value} (h : fn.results = #[r]) (h1 : RV P n fr w r v) : (results fn (actOf n fr).tmps).run P w = .ok v w := by
  unfold RV at h1
  rw [results_eq, h]
  simp [h1]
end
end Go.Proofs.Ytdanhdbanfpghaa.Fw
set_option linter.unusedVariables false
set_option linter.unusedSimpArgs false
namespace Go.Proofs.Ytdanhdbanfpghaa.Fw
open Go
def NQ (P : Program) (f n : Nat) (R : Ending → World → Prop) (k : List Item) : Exit → Act → World → Prop :=
  fun e a w => e = .normal ∧ ∃ fr, a = actOf n fr ∧ RunK P f n R k fr w
def LW (P : Program) (f n : Nat) (R : Ending → World → Prop) (k : List Item) (ops : Array Oper) (l : List Oper) (fr : Fr) (w : World) : Prop :=
  wpList P ops (NQ P f n R k) l (actOf n fr) w
section
variable {P : Program} {f n : Nat} {R : Ending → World → Prop} {k : List Item} {fr : Fr} {w : World} {ops : Array Oper} {rest : List Oper}
theorem rk_code {c : Code} (h : c.wp P (NQ P f n R k) (actOf n fr) w) : RunK P f n R (.code c :: k) fr w := by
  intro b cs hb hk
  obtain ⟨e, a', w', ⟨he, fr', ha, hr⟩, harr⟩ := h b k cs
  subst he; subst ha
  obtain ⟨e2, w2, frm, hR, hc, hf, hl⟩ := hr b cs hb hk
  exact ⟨e2, w2, frm, hR, Comes.of_steps harr hc, hf, hl⟩
theorem rk_reg {id : Nat} {l : List Oper} (h : LW P f n R k l.toArray l fr w) : RunK P f n R (.code (.region id l.toArray false) :: k) fr w :=
  rk_code (wp_region_lit h)
theorem lw_nil (h : RunK P f n R k fr w) : LW P f n R k ops [] fr w := wpList_nil ⟨rfl, fr, rfl, h⟩
def DV (P : Program) (n : Nat) (op : Op) (ty : TypeId) (fr : Fr) (w : World) (v : Value) : Prop :=
  ∀ dst pos af g, (execOp (actOf n fr).eval ⟨dst, op, ty, pos, af, g⟩).run P w = .ok (.value v) w
def OE (P : Program) (n : Nat) (op : Op) (ty : TypeId) (fr : Fr) (w : World) (K : Value → World → Prop) : Prop :=
  ∀ dst pos af g (Kk : Act → World → Prop) (Q : Exit → Act → World → Prop), (∀ v w', K v w' → Kk (actOf n (putO fr dst v)) w') →
    (⟨dst, op, ty, pos, af, g⟩ : Oper).wp P (actOf n fr) w Kk Q
theorem OE.of_run {op : Op} {ty : TypeId} {K : Value → World → Prop} {v : Value} {w' : World}
    (h : ∀ dst pos af g, (execOp (actOf n fr).eval ⟨dst, op, ty, pos, af, g⟩).run P w = .ok (.value v) w') (hK : K v w') : OE P n op ty fr w K := by
  intro dst pos af g Kk Q hk
  unfold Oper.wp
  rw [h]
  show Kk ((actOf n fr).put dst v) w'
  rw [actOf_put]
  exact hk v w' hK
theorem OE.of_skip {op : Op} {ty : TypeId} {K : Value → World → Prop} {w' : World}
    (h : ∀ dst pos af g, (execOp (actOf n fr).eval ⟨dst, op, ty, pos, af, g⟩).run P w = .ok .skip w') (hK : K undef w') : OE P n op ty fr w K := by
  intro dst pos af g Kk Q hk
  unfold Oper.wp
  rw [h]
  show Kk ((actOf n fr).put dst undef) w'
  rw [actOf_put]
  exact hk undef w' hK
theorem OE.mono {op : Op} {ty : TypeId} {K K' : Value → World → Prop} (h : OE P n op ty fr w K) (hK : ∀ v w', K v w' → K' v w') : OE P n op ty fr w K' :=
  fun dst pos af g Kk Q hk => h dst pos af g Kk Q fun v w' hv => hk v w' (hK v w' hv)
theorem lw_v {dst : Option Tmp} {op : Op} {ty : TypeId} {pos : String} {af : Array Edge} (v : Value) (h : DV P n op ty fr w v)
    (hk : LW P f n R k ops rest (putO fr dst v) w) : LW P f n R k ops (⟨dst, op, ty, pos, af, none⟩ :: rest) fr w :=
  wpList_plain rfl fun Kk hK => by
    unfold Oper.wp
    rw [h]
    show Kk ((actOf n fr).put dst v) w
    rw [actOf_put]
    exact hK _ _ hk
theorem lw_e {dst : Option Tmp} {op : Op} {ty : TypeId} {pos : String} {af : Array Edge}
    (h : OE P n op ty fr w fun v w' => LW P f n R k ops rest (putO fr dst v) w') : LW P f n R k ops (⟨dst, op, ty, pos, af, none⟩ :: rest) fr w :=
  wpList_plain rfl fun Kk hK => h dst pos af none Kk _ fun v w' hv => hK _ _ hv
theorem yielded_act {g d : Nat} {v : Bool} (hd : (ops[g]?).bind (·.dst) = some d) (hn : Nat.blt d n = true) (hv : fr d = .bool v) :
    yielded ops (actOf n fr).tmps g = some v := by
  have h' : d < n := by simpa using hn
  unfold yielded
  rw [hd]
  simp [actOf, h', hv]
theorem lw_vy {dst : Option Tmp} {op : Op} {ty : TypeId} {pos : String} {af : Array Edge} {g d : Nat} {b : Bool} (v : Value)
    (hd : (ops[g]?).bind (·.dst) = some d) (hn : Nat.blt d n = true) (hv : fr d = .bool b) (h : DV P n op ty fr w v)
    (hk : LW P f n R k ops rest (putO fr dst v) w) : LW P f n R k ops (⟨dst, op, ty, pos, af, some (g, b)⟩ :: rest) fr w :=
  wpList_step fun Kk hK => by
    have hy := yielded_act (ops := ops) hd hn hv
    simp only [Region.wanted, hy, beq_self_eq_true, if_true]
    unfold Oper.wp
    rw [h]
    show Kk ((actOf n fr).put dst v) w
    rw [actOf_put]
    exact hK _ _ hk
theorem lw_ey {dst : Option Tmp} {op : Op} {ty : TypeId} {pos : String} {af : Array Edge} {g d : Nat} {b : Bool}
    (hd : (ops[g]?).bind (·.dst) = some d) (hn : Nat.blt d n = true) (hv : fr d = .bool b)
    (h : OE P n op ty fr w fun v w' => LW P f n R k ops rest (putO fr dst v) w') : LW P f n R k ops (⟨dst, op, ty, pos, af, some (g, b)⟩ :: rest) fr w :=
  wpList_step fun Kk hK => by
    have hy := yielded_act (ops := ops) hd hn hv
    simp only [Region.wanted, hy, beq_self_eq_true, if_true]
    exact h dst pos af _ Kk _ fun v w' hv => hK _ _ hv
theorem lw_no {dst : Option Tmp} {op : Op} {ty : TypeId} {pos : String} {af : Array Edge} {g d : Nat} {b : Bool}
    (hd : (ops[g]?).bind (·.dst) = some d) (hn : Nat.blt d n = true) (hv : fr d = .bool (!b))
    (hk : LW P f n R k ops rest (putO fr dst undef) w) : LW P f n R k ops (⟨dst, op, ty, pos, af, some (g, b)⟩ :: rest) fr w :=
  wpList_step fun Kk hK => by
    have hy := yielded_act (ops := ops) hd hn hv
    have : (some (!b) == some b) = false := by cases b <;> rfl
    simp only [Region.wanted, hy, this, Bool.false_eq_true, if_false]
    rw [actOf_put]
    exact hK _ _ hk
theorem yielded_undef {g d : Nat} (hd : (ops[g]?).bind (·.dst) = some d) (hv : fr d = undef) :
    yielded ops (actOf n fr).tmps g = none := by
  unfold yielded
  rw [hd]
  by_cases h' : d < n
  · simp [actOf, h', hv, undef]
  · simp [actOf, h']
theorem lw_nou {dst : Option Tmp} {op : Op} {ty : TypeId} {pos : String} {af : Array Edge} {g d : Nat} {b : Bool}
    (hd : (ops[g]?).bind (·.dst) = some d) (hv : fr d = undef)
    (hk : LW P f n R k ops rest (putO fr dst undef) w) : LW P f n R k ops (⟨dst, op, ty, pos, af, some (g, b)⟩ :: rest) fr w :=
  wpList_step fun Kk hK => by
    have hy := yielded_undef (n := n) (ops := ops) hd hv
    have : ((none : Option Bool) == some b) = false := by cases b <;> rfl
    simp only [Region.wanted, hy, this, Bool.false_eq_true, if_false]
    rw [actOf_put]
    exact hK _ _ hk
end
section
variable {P : Program} {ops : Array Oper} {Q : Exit → Act → World → Prop} {md : Region.Mode} {S : World → Prop} {fin : List Nat}
def wpAnyJ (P : Program) (md : Region.Mode) (ops : Array Oper) (Q : Exit → Act → World → Prop) (S : World → Prop) (fin : List Nat) : Nat → Array Bool → Act → World → Prop
  | 0, listed, a, w => Region.ready md ops listed = [] ∧ Q .normal a w
  | fuel + 1, listed, a, w =>
    (Region.ready md ops listed = [] → Q .normal a w) ∧
    ∀ i ∈ Region.ready md ops listed, wpOp P ops Q i (fun a' w' => (i ∈ fin ∨ S w') ∧ wpAnyJ P md ops Q S fin fuel (listed.setIfInBounds i true) a' w') a w
theorem wpAny_of_J : ∀ (fuel : Nat) (listed : Array Bool) (a : Act) (w : World), wpAnyJ P md ops Q S fin fuel listed a w → wpAny P md ops Q fuel listed a w
  | 0, _, _, _, h => h
  | fuel + 1, _, _, _, h => ⟨h.1, fun i hi => wpOp_mono (fun a' w' h' => wpAny_of_J fuel _ a' w' h'.2) (h.2 i hi)⟩
def finOk (md : Region.Mode) (ops : Array Oper) (fin : List Nat) (i : Nat) : Bool :=
  fin.all fun j => j == i || ((ops[j]?).map fun o => o.after.any fun e => Region.binds md e && e.on == i).getD true
theorem wpAnyJ_first {G : World → Prop} {i : Nat} {oi : Oper} {v : Value} (hi : ops[i]? = some oi) (hsel : ∀ (j : Nat) (o : Oper) cs b, ops[j]? = some o → o.op ≠ .select cs b)
    (hQ : ∀ c a w, Q (.panic c) (a.put oi.dst v) w → Q (.panic c) a w)
    (hF : i ∈ fin ∨ ∀ j oj, ops[j]? = some oj → j ≠ i → (∀ e ∈ oj.after, Region.binds md e = true → e.on ≠ i) → j ∉ fin)
    (hG : ∀ j oj w, ops[j]? = some oj → j ≠ i → (∀ e ∈ oj.after, Region.binds md e = true → e.on ≠ i) → (j ∈ fin ∨ S w) → G w) :
    ∀ (fuel : Nat) (listed : Array Bool) (a : Act) (w : World),
      (∀ j oj, ops[j]? = some oj → j ≠ i → listed.getD j true = false → (∀ e ∈ oj.after, Region.binds md e = true → e.on ≠ i) → oi.apart ops oj = true) →
      i ∈ Region.ready md ops listed → YieldsIf P ops G oi v a → G w → (i ∈ fin ∨ S w) →
      wpAnyJ P md ops Q S fin fuel (listed.setIfInBounds i true) (a.put oi.dst v) w → wpAnyJ P md ops Q S fin (fuel + 1) listed a w := by
  intro fuel
  induction fuel with
  | zero =>
    intro listed a w _ hr hy hGw hSw H
    refine ⟨fun h => (by rw [h] at hr; cases hr), fun j hj => ?_⟩
    by_cases hji : j = i
    · subst hji; exact hy.wpOp hi hGw ⟨hSw, H⟩
    · have := ready_mono hj hji
      rw [H.1] at this
      cases this
  | succ fuel ih =>
    intro listed a w hfree hr hy hGw hSw H
    refine ⟨fun h => (by rw [h] at hr; cases hr), fun j hj => ?_⟩
    by_cases hji : j = i
    · subst hji; exact hy.wpOp hi hGw ⟨hSw, H⟩
    · have h1 := H.2 j (ready_mono hj hji)
      obtain ⟨hjun, oj, hoj, hall⟩ := mem_ready.1 hj
      have hnot : ∀ e ∈ oj.after, Region.binds md e = true → e.on ≠ i := fun e he hb heq => by
        have h1 := hall e he hb
        have h0 := (mem_ready.1 hr).1
        rw [heq] at h1
        rcases Nat.lt_or_ge i listed.size with h' | h'
        · simp [h'] at h0 h1; rw [h0] at h1; cases h1
        · simp [Array.getElem?_eq_none h'] at h1
      have h2 := wpOp_putIf hoj (hfree j oj hoj hji hjun hnot) (fun cs b => hsel i oi cs b hi) (fun cs b => hsel j oj cs b hoj) hQ hy h1
      have hfree' : ∀ k ok, ops[k]? = some ok → k ≠ i → (listed.setIfInBounds j true).getD k true = false →
          (∀ e ∈ ok.after, Region.binds md e = true → e.on ≠ i) → oi.apart ops ok = true := fun k ok hk hki hun hno => by
        refine hfree k ok hk hki ?_ hno
        by_cases hjk : j = k
        · subst hjk; exact hjun
        · rw [getD_set_ne true hjk] at hun; exact hun
      refine wpOp_mono (fun a' w' h3 => ⟨h3.2.1, ih (listed.setIfInBounds j true) a' w' hfree' (ready_mono hr (Ne.symm hji)) h3.1 (hG j oj w' hoj hji hnot h3.2.1) ?_ ?_⟩) h2
      · rcases hF with h5 | h5
        · exact .inl h5
        · exact .inr (h3.2.1.resolve_left (h5 j oj hoj hji hnot))
      · rw [Array.setIfInBounds_comm _ _ hji]
        exact h3.2.2
theorem finOk_spec {i : Nat} (h : finOk md ops fin i = true) {j : Nat} {oj : Oper} (hj : ops[j]? = some oj) (hji : j ≠ i)
    (hno : ∀ e ∈ oj.after, Region.binds md e = true → e.on ≠ i) : j ∉ fin := by
  intro hm
  have h1 := List.all_eq_true.1 h j hm
  simp only [Bool.or_eq_true, beq_iff_eq, hji, false_or, hj, Option.map_some, Option.getD_some, Array.any_eq_true, Bool.and_eq_true] at h1
  obtain ⟨x, hx, hb, hi⟩ := h1
  exact hno _ (Array.getElem_mem hx) hb hi
theorem wpAnyJ_load {i : Nat} {oi : Oper} {v : Value} {fuel : Nat} {listed : Array Bool} {a : Act} {w : World} (hi : ops[i]? = some oi)
    (hs : Region.noSelect ops = true) (hf : Region.free md ops listed i = true) (hr : (Region.ready md ops listed).contains i = true) (hfin : finOk md ops fin i = true)
    (hQ : ∀ c a w, Q (.panic c) (a.put oi.dst v) w → Q (.panic c) a w) (hy : YieldsIf P ops S oi v a) (hS : S w)
    (h : wpAnyJ P md ops Q S fin fuel (listed.setIfInBounds i true) (a.put oi.dst v) w) : wpAnyJ P md ops Q S fin (fuel + 1) listed a w :=
  wpAnyJ_first (G := S) hi (Region.noSelect_spec hs) hQ (.inr fun j oj hj hji hno => finOk_spec hfin hj hji hno)
    (fun j oj w hj hji hno hor => hor.resolve_left (finOk_spec hfin hj hji hno)) fuel listed a w (Region.free_spec hi hf) (by simpa using hr) hy hS (.inr hS) h
theorem wpAnyJ_pure {i : Nat} {oi : Oper} {v : Value} {fuel : Nat} {listed : Array Bool} {a : Act} {w : World} (hi : ops[i]? = some oi)
    (hs : Region.noSelect ops = true) (hf : Region.free md ops listed i = true) (hr : (Region.ready md ops listed).contains i = true) (hfin : finOk md ops fin i = true)
    (hQ : ∀ c a w, Q (.panic c) (a.put oi.dst v) w → Q (.panic c) a w) (hy : YieldsIf P ops (fun _ => True) oi v a) (hS : S w)
    (h : wpAnyJ P md ops Q S fin fuel (listed.setIfInBounds i true) (a.put oi.dst v) w) : wpAnyJ P md ops Q S fin (fuel + 1) listed a w :=
  wpAnyJ_first (G := fun _ => True) hi (Region.noSelect_spec hs) hQ (.inr fun j oj hj hji hno => finOk_spec hfin hj hji hno)
    (fun _ _ _ _ _ _ _ => trivial) fuel listed a w (Region.free_spec hi hf) (by simpa using hr) hy trivial (.inr hS) h
theorem wpAnyJ_all {rs : List Nat} {fuel : Nat} {listed : Array Bool} {a : Act} {w : World} (hr : Region.ready md ops listed = rs) (hne : rs ≠ [])
    (h : ∀ i ∈ rs, wpOp P ops Q i (fun a' w' => (i ∈ fin ∨ S w') ∧ wpAnyJ P md ops Q S fin fuel (listed.setIfInBounds i true) a' w') a w) : wpAnyJ P md ops Q S fin (fuel + 1) listed a w :=
  ⟨fun h0 => absurd (hr ▸ h0) hne, hr ▸ h⟩
theorem wpAnyJ_done {listed : Array Bool} {a : Act} {w : World} (hr : Region.ready md ops listed = []) (h : Q .normal a w) :
    ∀ fuel, wpAnyJ P md ops Q S fin fuel listed a w
  | 0 => ⟨hr, h⟩
  | _ + 1 => ⟨fun _ => h, by rw [hr]; simp⟩
end
def AW (P : Program) (f n : Nat) (R : Ending → World → Prop) (k : List Item) (ops : Array Oper) (S : World → Prop) (fin : List Nat) (fuel : Nat) (listed : Array Bool) (fr : Fr) (w : World) : Prop :=
  wpAnyJ P .any ops (NQ P f n R k) S fin fuel listed (actOf n fr) w
section
variable {P : Program} {f n : Nat} {R : Ending → World → Prop} {k : List Item} {fr : Fr} {w : World} {ops : Array Oper} {S : World → Prop} {fin : List Nat} {fuel : Nat} {listed : Array Bool}
def Drew (w w' : World) : Prop := w' = { w with drawn := w.drawn + 1 }
theorem rk_any {id : Nat} (S : World → Prop) (fin : List Nat) (hm : P.follows .mixedOrders = true)
    (h : ∀ w', Drew w w' → AW P f n R k ops S fin ops.size (Array.replicate ops.size false) fr w') : RunK P f n R (.code (.region id ops true) :: k) fr w :=
  rk_code (wp_region_any hm (wpAny_of_J _ _ _ _ (h _ rfl)))
theorem nq_panic {c : List PanicEntry} {a : Act} : NQ P f n R k (.panic c) a w → False := fun h => by cases h.1
inductive GY (ops : Array Oper) (n : Nat) (fr : Fr) : Option (Nat × Bool) → Prop
  | none : GY ops n fr none
  | yes {g d : Nat} {b : Bool} (hd : (ops[g]?).bind (·.dst) = some d) (hn : Nat.blt d n = true) (hv : fr d = .bool b) : GY ops n fr (some (g, b))
theorem GY.wanted {dst : Option Tmp} {op : Op} {ty : TypeId} {pos : String} {af : Array Edge} {g : Option (Nat × Bool)} (h : GY ops n fr g) :
    Region.wanted ⟨dst, op, ty, pos, af, g⟩ (yielded ops (actOf n fr).tmps) = true := by
  cases h with
  | none => rfl
  | yes hd hn hv =>
    have hy := yielded_act (ops := ops) hd hn hv
    simp [Region.wanted, hy]
theorem aw_load (i : Nat) {dst : Option Tmp} {op : Op} {ty : TypeId} {pos : String} {af : Array Edge} {g : Option (Nat × Bool)} (v : Value) (hi : ops[i]? = some ⟨dst, op, ty, pos, af, g⟩)
    (hc : (Region.noSelect ops && Region.free .any ops listed i && (Region.ready .any ops listed).contains i && finOk .any ops fin i) = true)
    (hg : GY ops n fr g) (hS : S w) (h : ∀ w, S w → DV P n op ty fr w v)
    (hk : AW P f n R k ops S fin fuel (listed.setIfInBounds i true) (putO fr dst v) w) : AW P f n R k ops S fin (fuel + 1) listed fr w := by
  simp only [Bool.and_eq_true] at hc
  obtain ⟨⟨⟨h1, h2⟩, h3⟩, h4⟩ := hc
  refine wpAnyJ_load (v := v) hi h1 h2 h3 h4 (fun c a w hq => (nq_panic hq).elim) (.inl ⟨hg.wanted, fun w hw => h w hw _ _ _ _⟩) hS ?_
  show wpAnyJ _ _ _ _ _ _ _ _ ((actOf n fr).put dst v) w
  rw [actOf_put]
  exact hk
theorem aw_pure (i : Nat) {dst : Option Tmp} {op : Op} {ty : TypeId} {pos : String} {af : Array Edge} {g : Option (Nat × Bool)} (v : Value) (hi : ops[i]? = some ⟨dst, op, ty, pos, af, g⟩)
    (hc : (Region.noSelect ops && Region.free .any ops listed i && (Region.ready .any ops listed).contains i && finOk .any ops fin i) = true)
    (hg : GY ops n fr g) (hS : S w) (h : ∀ w, DV P n op ty fr w v)
    (hk : AW P f n R k ops S fin fuel (listed.setIfInBounds i true) (putO fr dst v) w) : AW P f n R k ops S fin (fuel + 1) listed fr w := by
  simp only [Bool.and_eq_true] at hc
  obtain ⟨⟨⟨h1, h2⟩, h3⟩, h4⟩ := hc
  refine wpAnyJ_pure (v := v) hi h1 h2 h3 h4 (fun c a w hq => (nq_panic hq).elim) (.inl ⟨hg.wanted, fun w hw => h w _ _ _ _⟩) hS ?_
  show wpAnyJ _ _ _ _ _ _ _ _ ((actOf n fr).put dst v) w
  rw [actOf_put]
  exact hk
theorem wpOp_oe (i : Nat) {dst : Option Tmp} {op : Op} {ty : TypeId} {pos : String} {af : Array Edge} {g : Option (Nat × Bool)} (hi : ops[i]? = some ⟨dst, op, ty, pos, af, g⟩)
    (hg : GY ops n fr g) {K : Fr → World → Prop} {Kk : Act → World → Prop} {Q : Exit → Act → World → Prop} (hKk : ∀ fr w, K fr w → Kk (actOf n fr) w) (h : OE P n op ty fr w fun v w' => K (putO fr dst v) w') :
    wpOp P ops Q i Kk (actOf n fr) w := by
  unfold wpOp
  simp only [hi, hg.wanted, if_true]
  exact .inl (h _ _ _ _ _ _ fun v w' hv => hKk _ _ hv)
theorem aw_one (i : Nat) {dst : Option Tmp} {op : Op} {ty : TypeId} {pos : String} {af : Array Edge} {g : Option (Nat × Bool)} (hi : ops[i]? = some ⟨dst, op, ty, pos, af, g⟩)
    (hr : Region.ready .any ops listed = [i]) (hg : GY ops n fr g)
    (h : OE P n op ty fr w fun v w' => (fin.contains i = true ∨ S w') ∧ AW P f n R k ops S fin fuel (listed.setIfInBounds i true) (putO fr dst v) w') : AW P f n R k ops S fin (fuel + 1) listed fr w := by
  refine wpAnyJ_all (rs := [i]) hr (by simp) ?_
  intro j hj
  obtain rfl : j = i := by simpa using hj
  exact wpOp_oe j hi hg (K := fun fr w => (fin.contains j = true ∨ S w) ∧ AW P f n R k ops S fin fuel (listed.setIfInBounds j true) fr w)
    (fun fr w hh => ⟨hh.1.imp (by simp) id, hh.2⟩) h
theorem aw_done (hr : Region.ready .any ops listed = []) (h : RunK P f n R k fr w) : AW P f n R k ops S fin fuel listed fr w :=
  wpAnyJ_done hr ⟨rfl, fr, rfl, h⟩ _
end
end Go.Proofs.Ytdanhdbanfpghaa.Fw
set_option linter.unusedVariables false
set_option linter.unusedSimpArgs false
namespace Go.Proofs.Ytdanhdbanfpghaa.Fw
open Go Go.RowKit
abbrev Ext (w w' : World) : Prop := Below w.heap.size w w'
structure St (b : Nat) (w w' : World) : Prop where
  os : w'.os = w.os
  tape : w'.tape = w.tape
  output : w'.output = w.output
  size : w'.heap.size = w.heap.size
  block : ∀ k, k ≠ b → w'.heap[k]? = w.heap[k]?
structure New (w : World) (b : Nat) (o : Obj) (w' : World) : Prop where
  eq : b = w.heap.size
  ext : Ext w w'
  blk : w'.heap[b]? = some o
  size : w'.heap.size = w.heap.size + 1
theorem lt_of_blk {w : World} {b : Nat} {o : Obj} (h : w.heap[b]? = some o) : b < w.heap.size := (Array.getElem?_eq_some_iff.1 h).1
theorem Ext.blk {w w' : World} (e : Ext w w') {b : Nat} {o : Obj} (h : w.heap[b]? = some o) : w'.heap[b]? = some o := (e.block b (lt_of_blk h)).trans h
theorem St.blk {b : Nat} {w w' : World} (e : St b w w') {b' : Nat} {o : Obj} (h : w.heap[b']? = some o) (hne : b' ≠ b) : w'.heap[b']? = some o := (e.block b' hne).trans h
theorem below_ext {N : Nat} {w0 w w' : World} (h : Below N w0 w) (hN : N ≤ w.heap.size) (e : Ext w w') : Below N w0 w' := h.trans (e.mono hN)
theorem below_st {N : Nat} {w0 w w' : World} {b : Nat} (h : Below N w0 w) (hb : N ≤ b) (e : St b w w') : Below N w0 w' :=
  h.trans ⟨e.os, e.tape, e.output, Nat.le_of_eq e.size.symm, fun k hk => e.block k (Nat.ne_of_lt (Nat.lt_of_lt_of_le hk hb))⟩
theorem Drew.ext {w w' : World} (h : Drew w w') : Ext w w' := by
  subst h; exact ⟨rfl, rfl, rfl, Nat.le_refl _, fun _ _ => rfl⟩
theorem new_alloc (w : World) (o : Obj) : New w w.heap.size o (w.alloc o) :=
  ⟨rfl, (Below.refl _ _).alloc (Nat.le_refl _) o, heap_alloc_new w o, by simp⟩
section
variable {P : Program} {n : Nat} {fr : Fr} {w : World} {ty : TypeId}
theorem dv_move {x : Operand} {v : Value} (h : EV n fr x v) : DV P n (.move x) ty fr w v := fun _ _ _ _ => by
  unfold EV at h; simp [execOp, h]
theorem dv_assign {x : Operand} {v : Value} (h : EV n fr x v) : DV P n (.assign x) ty fr w v := fun _ _ _ _ => by
  unfold EV at h; simp [execOp, h]
theorem dv_pick_t {c x y : Operand} {v : Value} (hc : EV n fr c (.bool true)) (hx : EV n fr x v) : DV P n (.pick c x y) ty fr w v := fun _ _ _ _ => by
  unfold EV at hc hx
  simp [execOp, hc, hx, asBool]
theorem dv_pick_f {c x y : Operand} {v : Value} (hc : EV n fr c (.bool false)) (hy : EV n fr y v) : DV P n (.pick c x y) ty fr w v := fun _ _ _ _ => by
  unfold EV at hc hy
  simp [execOp, hc, hy, asBool]
theorem dv_notd {x : Operand} {p : Prop} [Decidable p] {t : TypeId} (hx : EV n fr x (.bool (decide p))) : DV P n (.unOp .not t x) ty fr w (.bool (decide (¬ p))) := fun _ _ _ _ => by
  unfold EV at hx
  simp [execOp, hx, Op.unary]
theorem dv_add {x y : Operand} {k : IntKind} {a b z : Int} {t t' : TypeId} (hx : EV n fr x (.int k a)) (hy : EV n fr y (.int k b)) (hz : k.wrap (a + b) = z) : DV P n (.binOp .add t x y t') ty fr w (.int k z) := fun _ _ _ _ => by
  unfold EV at hx hy; subst hz
  simp [execOp, hx, hy, eqGuard, binOp, Op.intArith]
theorem dv_sub {x y : Operand} {k : IntKind} {a b z : Int} {t t' : TypeId} (hx : EV n fr x (.int k a)) (hy : EV n fr y (.int k b)) (hz : k.wrap (a - b) = z) : DV P n (.binOp .sub t x y t') ty fr w (.int k z) := fun _ _ _ _ => by
  unfold EV at hx hy; subst hz
  simp [execOp, hx, hy, eqGuard, binOp, Op.intArith]
theorem dv_lss {x y : Operand} {k : IntKind} {a b : Int} {t t' : TypeId} (hx : EV n fr x (.int k a)) (hy : EV n fr y (.int k b)) : DV P n (.binOp .lss t x y t') ty fr w (.bool (decide (a < b))) := fun _ _ _ _ => by
  unfold EV at hx hy
  simp [execOp, hx, hy, eqGuard, binOp, Op.intCmp]
theorem dv_leq {x y : Operand} {k : IntKind} {a b : Int} {t t' : TypeId} (hx : EV n fr x (.int k a)) (hy : EV n fr y (.int k b)) : DV P n (.binOp .leq t x y t') ty fr w (.bool (decide (a ≤ b))) := fun _ _ _ _ => by
  unfold EV at hx hy
  simp [execOp, hx, hy, eqGuard, binOp, Op.intCmp]
theorem dv_gtr {x y : Operand} {k : IntKind} {a b : Int} {t t' : TypeId} (hx : EV n fr x (.int k a)) (hy : EV n fr y (.int k b)) : DV P n (.binOp .gtr t x y t') ty fr w (.bool (decide (b < a))) := fun _ _ _ _ => by
  unfold EV at hx hy
  simp [execOp, hx, hy, eqGuard, binOp, Op.intCmp]
theorem dv_geq {x y : Operand} {k : IntKind} {a b : Int} {t t' : TypeId} (hx : EV n fr x (.int k a)) (hy : EV n fr y (.int k b)) : DV P n (.binOp .geq t x y t') ty fr w (.bool (decide (b ≤ a))) := fun _ _ _ _ => by
  unfold EV at hx hy
  simp [execOp, hx, hy, eqGuard, binOp, Op.intCmp]
theorem dv_eql {x y : Operand} {k : IntKind} {a b : Int} {t t' : TypeId} (hx : EV n fr x (.int k a)) (hy : EV n fr y (.int k b)) : DV P n (.binOp .eql t x y t') ty fr w (.bool (decide (a = b))) := fun _ _ _ _ => by
  unfold EV at hx hy
  simp [execOp, hx, hy, eqGuard, binOp, Op.intCmp]
  by_cases h : a = b <;> simp [h]
theorem dv_neq {x y : Operand} {k : IntKind} {a b : Int} {t t' : TypeId} (hx : EV n fr x (.int k a)) (hy : EV n fr y (.int k b)) : DV P n (.binOp .neq t x y t') ty fr w (.bool (decide (a ≠ b))) := fun _ _ _ _ => by
  unfold EV at hx hy
  simp [execOp, hx, hy, eqGuard, binOp, Op.intCmp]
  by_cases h : a = b <;> simp [h, bne]
theorem dv_len {x : Operand} {ad : Option Addr} {l c : Nat} {t e : TypeId} (ht : P.underlying t = some (.slice e)) (hx : EV n fr x (.slice ad l c)) :
    DV P n (.call { callee := .builtin .len, args := #[x], argTypes := #[t] }) ty fr w (.int .i64 l) := fun _ _ _ _ => by
  unfold EV at hx
  simp [execOp, resolve, invoke, builtin, hx, Builtin.len_, underlying, ht, goInt]
def fieldOffB (P : Program) (s i : Nat) : Option Nat :=
  match P.underlying s with
  | some (.struct fs) => match fs[i]? with
    | some f => match P.info? f.type with
      | some inf => if inf.size = 0 then none else some f.offset
      | none => none
    | none => none
  | _ => none
theorem dv_fieldAddr {s i : Nat} {x : Operand} {a a' : Addr} {off : Nat} (hf : fieldOffB P s i = some off) (hx : EV n fr x (.pointer (some a))) (ha : a.add off = a') :
    DV P n (.fieldAddr s x i) ty fr w (.pointer (some a')) := fun _ _ _ _ => by
  unfold EV at hx
  subst ha
  unfold fieldOffB at hf
  split at hf
  · rename_i fs hs
    split at hf
    · rename_i fl hfl
      split at hf
      · rename_i inf hin
        split at hf
        · cases hf
        · rename_i hne
          obtain rfl : fl.offset = off := by simpa using hf
          simp [execOp, hx, Instr.fieldAt, underlying, hs, hfl, Instr.sureAddr, fieldPlace, sizeOf, typeInfo, hin, hne]
      · cases hf
    · cases hf
  · cases hf
def sizeB (P : Program) (t : Nat) : Option Nat := (P.info? t).map (·.size)
theorem dv_indexAddr {t e : TypeId} {x i : Operand} {a a' : Addr} {l c sz : Nat} {k : IntKind} {j : Int} (ht : P.underlying t = some (.slice e)) (hs : sizeB P e = some sz)
    (hx : EV n fr x (.slice (some a) l c)) (hi : EV n fr i (.int k j)) (h0 : 0 ≤ j) (h1 : j < l) (ha : a.add (j.toNat * sz) = a') : DV P n (.indexAddr t x i) ty fr w (.pointer (some a')) := fun _ _ _ _ => by
  unfold EV at hx hi
  subst ha
  unfold sizeB at hs
  cases hin : P.info? e with
  | none => simp [hin] at hs
  | some inf =>
    obtain rfl : inf.size = sz := by simpa [hin] using hs
    simp [execOp, hx, hi, Instr.indexAt, asIntOf, underlying, ht, h0, h1, sizeOf, typeInfo, hin]
def aggB (P : Program) (t : Nat) : Option Bool := (P.underlying t).map fun | .struct _ | .array _ _ => true | _ => false
theorem run_isAgg {t : Nat} {b : Bool} (h : aggB P t = some b) : (isAgg t).run P w = .ok b w := by
  unfold aggB at h
  cases hu : P.underlying t with
  | none => simp [hu] at h
  | some d =>
    simp only [hu, Option.map_some, Option.some.injEq] at h
    subst h
    cases d <;> simp [isAgg, underlying, hu]
theorem run_sizeOf {t sz : Nat} (h : sizeB P t = some sz) : (sizeOf t).run P w = .ok sz w := by
  unfold sizeB at h
  cases hin : P.info? t with
  | none => simp [hin] at h
  | some inf =>
    obtain rfl : inf.size = sz := by simpa [hin] using h
    simp [sizeOf, typeInfo, hin]
theorem dv_load {t : TypeId} {x : Operand} {a : Addr} {v : Value} (ht : aggB P t = some false) (hx : EV n fr x (.pointer (some a))) (hc : w.cell? a = some v) : DV P n (.load t x) ty fr w v := fun _ _ _ _ => by
  unfold EV at hx
  simp [execOp, hx, Instr.loadAt, Instr.sureAddr, loadVar, run_isAgg ht, hc]
theorem dv_load1 {t : TypeId} {x : Operand} {b o T : Nat} {cs : Array Value} {fz : Nat × Nat} {v : Value} (ht : aggB P t = some false) (hx : EV n fr x (.pointer (some ⟨b, o, none⟩))) (hb : w.heap[b]? = some (.cells cs T fz))
    (hc : cs[o]? = some v) : DV P n (.load t x) ty fr w v :=
  dv_load ht hx (by rw [cell_of_row w b o cs T fz hb]; exact hc)
def rdC (cs : List Value) : Nat → Nat → Option (List Value)
  | 0, 0 => some []
  | 0, m + 1 => match cs with
    | [] => none
    | c :: r => (rdC r 0 m).map (c :: ·)
  | o + 1, m => match cs with
    | [] => if m = 0 then some [] else none
    | _ :: r => rdC r o m
theorem rdC_get : ∀ (cs : List Value) (o m : Nat) (l : List Value), rdC cs o m = some l → l.length = m ∧ ∀ j, j < m → cs[o + j]? = l[j]? ∧ l[j]? ≠ none := by
  intro cs
  induction cs with
  | nil =>
    intro o m l h
    cases o <;> cases m <;> simp [rdC] at h <;> subst h <;> simp
  | cons c r ih =>
    intro o m l h
    cases o with
    | zero =>
      cases m with
      | zero => simp [rdC] at h; subst h; simp
      | succ m =>
        simp only [rdC, Option.map_eq_some_iff] at h
        obtain ⟨l', h1, rfl⟩ := h
        obtain ⟨h2, h3⟩ := ih 0 m l' h1
        refine ⟨by simp [h2], fun j hj => ?_⟩
        cases j with
        | zero => simp
        | succ j =>
          have := h3 j (by omega)
          simp only [Nat.zero_add] at this
          simpa using this
    | succ o =>
      simp only [rdC] at h
      obtain ⟨h2, h3⟩ := ih o m l h
      refine ⟨h2, fun j hj => ?_⟩
      have := h3 j hj
      rw [show o + 1 + j = (o + j) + 1 by omega]
      simpa using this
theorem loadVar_cells {t : TypeId} {b o m T : Nat} {cs l : List Value} {fz : Nat × Nat} (ht : aggB P t = some true) (hs : sizeB P t = some m)
    (hb : w.heap[b]? = some (.cells cs.toArray T fz)) (hc : rdC cs o m = some l) : (loadVar t ⟨b, o, none⟩).run P w = .ok (.agg l.toArray) w := by
  obtain ⟨hl, hg⟩ := rdC_get cs o m l hc
  have hld : (loadCells ⟨b, o, none⟩ l.length).run P w = .ok l.toArray w := by
    refine run_loadCells_list _ _ l fun j v hj => ?_
    have hjl : j < l.length := (List.getElem?_eq_some_iff.1 hj).1
    have h1 := (hg j (by omega)).1
    rw [hj] at h1
    have : (⟨b, o, none⟩ : Addr).add j = ⟨b, o + j, none⟩ := by unfold Addr.add; split <;> simp_all
    rw [this, cell_of_row w b (o + j) cs.toArray T fz hb]
    simpa using h1
  rw [hl] at hld
  simp [loadVar, run_isAgg ht, run_sizeOf hs, hld]
theorem dv_loads {t : TypeId} {x : Operand} {b o m T : Nat} {cs l : List Value} {fz : Nat × Nat} (ht : aggB P t = some true) (hs : sizeB P t = some m) (hx : EV n fr x (.pointer (some ⟨b, o, none⟩)))
    (hb : w.heap[b]? = some (.cells cs.toArray T fz)) (hc : rdC cs o m = some l) : DV P n (.load t x) ty fr w (.agg l.toArray) := fun _ _ _ _ => by
  unfold EV at hx
  have := loadVar_cells (w := w) ht hs hb hc
  simp [execOp, hx, Instr.loadAt, Instr.sureAddr, this]
theorem rv_cells {a : Nat} {t : TypeId} {b m T : Nat} {cs l : List Value} {fz : Nat × Nat} (ht : aggB P t = some true) (hs : sizeB P t = some m) (hn : Nat.blt a n = true) (hx : fr a = .pointer (some ⟨b, 0, none⟩))
    (hb : w.heap[b]? = some (.cells cs.toArray T fz)) (hc : rdC cs 0 m = some l) : RV P n fr w (.cell a t) (.agg l.toArray) := by
  have := loadVar_cells (w := w) ht hs hb hc
  show (do loadVar t (← asAddr ((actOf n fr).tmps.getD a undef)) : Sem Value).run P w = _
  rw [actOf_getD n fr a hn, hx]
  simp [asAddr, this]
theorem oe_box {T : TypeId} {x : Operand} {v : Value} {cs : Array Value} {K : Value → World → Prop} (hx : EV n fr x v) (hc : v.cells = cs)
    (h : ∀ b w', New w b (.cells cs T) w' → K (.pointer (some ⟨b, 0, none⟩)) w') : OE P n (.box T x) ty fr w K :=
  OE.of_run (v := .pointer (some ⟨w.heap.size, 0, none⟩)) (w' := w.alloc (.cells cs T)) (fun _ _ _ _ => by
    unfold EV at hx
    simp [execOp, hx, Instr.box, newVar, newRow, hc]) (h _ _ (new_alloc w _))
def zeroB (P : Program) (t : Nat) : Option (Array Value) := ((P.info? t).bind (·.zero)).map (·.cells)
theorem oe_alloc {T : TypeId} {cs : Array Value} {K : Value → World → Prop} (hz : zeroB P T = some cs)
    (h : ∀ b w', New w b (.cells cs T) w' → K (.pointer (some ⟨b, 0, none⟩)) w') : OE P n (.alloc T) ty fr w K :=
  OE.of_run (v := .pointer (some ⟨w.heap.size, 0, none⟩)) (w' := w.alloc (.cells cs T)) (fun _ _ _ _ => by
    unfold zeroB at hz
    cases hi : P.info? T with
    | none => simp [hi] at hz
    | some inf =>
      cases hzz : inf.zero with
      | none => simp [hi, hzz] at hz
      | some z =>
        have : z.cells = cs := by simpa [hi, hzz] using hz
        simp [execOp, Instr.alloc, zeroValue, typeInfo, hi, hzz, newVar, newRow, this]) (h _ _ (new_alloc w _))
def stC (cs : List Value) : Nat → List Value → Option (List Value)
  | _, [] => some cs
  | 0, v :: vs => match cs with
    | [] => none
    | _ :: r => (stC r 0 vs).map (v :: ·)
  | o + 1, v :: vs => match cs with
    | [] => none
    | c :: r => (stC r o (v :: vs)).map (c :: ·)
theorem stC_nil (cs : List Value) (o : Nat) : stC cs o [] = some cs := by cases o <;> simp [stC]
theorem stC_step : ∀ (cs : List Value) (o : Nat) (v : Value) (vs l : List Value), stC cs o (v :: vs) = some l → o < cs.length ∧ stC (cs.set o v) (o + 1) vs = some l := by
  intro cs
  induction cs with
  | nil => intro o v vs l h; cases o <;> simp [stC] at h
  | cons c r ih =>
    intro o v vs l h
    cases o with
    | zero =>
      simp only [stC, Option.map_eq_some_iff] at h
      obtain ⟨l', h1, rfl⟩ := h
      refine ⟨by simp, ?_⟩
      cases vs with
      | nil => rw [stC_nil] at h1; simp at h1; subst h1; simp [stC_nil]
      | cons u us => simp [stC, h1]
    | succ o =>
      simp only [stC, Option.map_eq_some_iff] at h
      obtain ⟨l', h1, rfl⟩ := h
      obtain ⟨h2, h3⟩ := ih o v vs l' h1
      refine ⟨by simpa using h2, ?_⟩
      cases vs with
      | nil => rw [stC_nil] at h3 ⊢; simpa using h3
      | cons u us => simp [stC, h3]
theorem st_setCell {w : World} {b o T : Nat} {cs : Array Value} {v : Value} (hb : w.heap[b]? = some (.cells cs T)) : St b w (w.setCell ⟨b, o, none⟩ v) :=
  ⟨rfl, rfl, rfl, by simp, fun k hk => heap_setCell_other w ⟨b, o, none⟩ k v hk⟩
theorem St.refl (b : Nat) (w : World) : St b w w := ⟨rfl, rfl, rfl, rfl, fun _ _ => rfl⟩
theorem St.trans {b : Nat} {w w1 w2 : World} (h : St b w w1) (h2 : St b w1 w2) : St b w w2 :=
  ⟨h2.os.trans h.os, h2.tape.trans h.tape, h2.output.trans h.output, h2.size.trans h.size, fun k hk => (h2.block k hk).trans (h.block k hk)⟩
theorem run_storeCells : ∀ (vs : List Value) (i : Nat) (w : World) (b o T : Nat) (cs l : List Value), (∀ v ∈ vs, v.oneCell' = true) → w.heap[b]? = some (.cells cs.toArray T) → stC cs (o + i) vs = some l →
    ∃ w', (storeCells ⟨b, o, none⟩ vs i).run P w = .ok () w' ∧ St b w w' ∧ w'.heap[b]? = some (.cells l.toArray T) := by
  intro vs
  induction vs with
  | nil =>
    intro i w b o T cs l _ hb h
    rw [stC_nil] at h
    obtain rfl : cs = l := by simpa using h
    exact ⟨w, rfl, St.refl _ _, hb⟩
  | cons v vs ih =>
    intro i w b o T cs l h1 hb h
    obtain ⟨hlt, h2⟩ := stC_step cs (o + i) v vs l h
    have ha : (⟨b, o, none⟩ : Addr).add i = ⟨b, o + i, none⟩ := by unfold Addr.add; split <;> simp_all
    have hcell : w.cell? ⟨b, o + i, none⟩ = some cs[o + i] := by rw [cell_of_row w b (o + i) cs.toArray T (0, 0) hb]; simp [hlt]
    have hfz : w.frozen? ⟨b, o + i, none⟩ = false := frozen_of_row w b (o + i) cs.toArray T hb
    have hb' : (w.setCell ⟨b, o + i, none⟩ v).heap[b]? = some (.cells (cs.set (o + i) v).toArray T) := by
      rw [heap_setCell_same w b (o + i) cs.toArray T v hb]
      simp
    obtain ⟨w', hr, hst, hbl⟩ := ih (i + 1) (w.setCell ⟨b, o + i, none⟩ v) b o T (cs.set (o + i) v) l (fun u hu => h1 u (List.mem_cons_of_mem _ hu)) hb' (by rw [← Nat.add_assoc]; exact h2)
    refine ⟨w', ?_, (st_setCell hb).trans hst, hbl⟩
    simp only [storeCells, Sem.run_bind, ha, run_store P w _ v .plain (h1 v (by simp)), hcell, hfz]
    simpa using hr
theorem oe_store {t : TypeId} {x y : Operand} {v : Value} {b o T m : Nat} {cs l vs : List Value} {K : Value → World → Prop} (hx : EV n fr x (.pointer (some ⟨b, o, none⟩))) (hy : EV n fr y v)
    (hs : sizeB P t = some m) (hv : v.cells = vs.toArray) (hm : vs.length = m) (h1 : vs.all (·.oneCell') = true) (hb : w.heap[b]? = some (.cells cs.toArray T)) (hl : stC cs o vs = some l)
    (h : ∀ w', St b w w' → w'.heap[b]? = some (.cells l.toArray T) → K undef w') : OE P n (.store t x y) ty fr w K := by
  obtain ⟨w', hr, hst, hbl⟩ := run_storeCells (P := P) vs 0 w b o T cs l (fun u hu => List.all_eq_true.1 h1 u hu) hb (by simpa using hl)
  refine OE.of_skip (w' := w') (fun _ _ _ _ => ?_) (h w' hst hbl)
  unfold EV at hx hy
  subst hm
  simp [execOp, hx, hy, Instr.storeAt, Instr.sureAddr, storeVar, run_sizeOf hs, hv, hr]
def Ct (P : Program) (f : FuncId) (args : List Value) (w : World) (R : Value → World → Prop) : Prop :=
  Calls P f args.toArray w fun e w' => ∃ v, e = .returned v ∧ R v w'
theorem Ct.mono {f : FuncId} {args : List Value} {R R' : Value → World → Prop} (h : Ct P f args w R) (hr : ∀ v w', R v w' → R' v w') : Ct P f args w R' :=
  Calls.mono h fun e w' ⟨v, he, hv⟩ => ⟨v, he, hr v w' hv⟩
theorem ct_run {f : Nat} {fn : Func} {c : Code} {args : List Value} {R : Value → World → Prop} (hf : P.funcs[f]? = some fn) (hb : fn.body = some c) (hn : fn.ntmps = n) (ha : Nat.ble args.length n = true)
    (h : RunK P f n (fun e w' => ∃ v, e = .returned v ∧ R v w') [.code c] (fr0 args) w) : Ct P f args w R := calls_run hf hb hn ha h
def callOk (P : Program) (g : Nat) : Bool :=
  match P.funcs[g]? with
  | some fn => fn.name != "runtime.NumGoroutine" && fn.body.isSome
  | none => false
theorem oe_callf {g : Nat} {args : Array Operand} {tys : Array TypeId} {vs : List Value} {R : Value → World → Prop} {K : Value → World → Prop} (hg : callOk P g = true) (ha : args.map (actOf n fr).eval = vs.toArray)
    (h : Ct P g vs w R) (hK : ∀ v w', R v w' → K v w') : OE P n (.call { callee := .value (.func g), args := args, argTypes := tys }) ty fr w K := by
  intro dst pos af gd Kk Q hk
  have hf : ∃ fn, P.funcs[g]? = some fn ∧ fn.name ≠ "runtime.NumGoroutine" ∧ fn.body ≠ none := by
    unfold callOk at hg
    split at hg
    · rename_i fn hfn
      refine ⟨fn, hfn, ?_, ?_⟩
      · simp only [Bool.and_eq_true, bne_iff_ne] at hg; exact hg.1
      · simp only [Bool.and_eq_true] at hg; intro hbd; rw [hbd] at hg; exact absurd hg.2 (by simp)
    · cases hg
  obtain ⟨fn, hfn, hnm, hbd⟩ := hf
  have hrun : (execOp (actOf n fr).eval ⟨dst, .call { callee := .value (.func g), args := args, argTypes := tys }, ty, pos, af, gd⟩).run P w = .ok (.enter g vs.toArray) w := by
    have hev : (actOf n fr).eval (.func g) = .func (.func g) #[] #[] := rfl
    simp [execOp, resolve, hev, Deferred.ofValue, invoke, callFunc, hfn, hnm, hbd, ha]
  unfold Oper.wp
  rw [hrun]
  show Calls P g vs.toArray w _
  refine Calls.mono h fun e w' ⟨v, he, hv⟩ => ?_
  subst he
  show Kk ((actOf n fr).put dst v) w'
  rw [actOf_put]
  exact hk v w' (hK v w' hv)
theorem ar1 {a : Operand} {v : Value} (h : EV n fr a v) : (#[a] : Array Operand).map (actOf n fr).eval = [v].toArray := by unfold EV at h; simp [h]
theorem ar2 {a b : Operand} {v u : Value} (h : EV n fr a v) (h2 : EV n fr b u) : (#[a, b] : Array Operand).map (actOf n fr).eval = [v, u].toArray := by unfold EV at h h2; simp [h, h2]
theorem ar3 {a b c : Operand} {v u x : Value} (h : EV n fr a v) (h2 : EV n fr b u) (h3 : EV n fr c x) : (#[a, b, c] : Array Operand).map (actOf n fr).eval = [v, u, x].toArray := by unfold EV at h h2 h3; simp [h, h2, h3]
end
end Go.Proofs.Ytdanhdbanfpghaa.Fw
set_option linter.unusedVariables false
set_option linter.unusedSimpArgs false
namespace Go.Proofs.Ytdanhdbanfpghaa.Fw
open Go Go.RowKit
section
variable {P : Program} {n : Nat} {fr : Fr} {w : World} {ty : TypeId}
def EVs (n : Nat) (fr : Fr) : List (Nat × Operand) → List (Nat × Value) → Prop
  | [], [] => True
  | (i, x) :: r, (j, v) :: s => i = j ∧ EV n fr x v ∧ EVs n fr r s
  | _, _ => False
theorem EVs.map : ∀ {ps : List (Nat × Operand)} {pv : List (Nat × Value)}, EVs n fr ps pv → ps.map (fun (i, x) => (i, (actOf n fr).eval x)) = pv
  | [], [], _ => rfl
  | (i, x) :: r, (j, v) :: s, h => by
    obtain ⟨rfl, h1, h2⟩ := h
    unfold EV at h1
    simp [h1, EVs.map h2]
  | [], _ :: _, h => h.elim
  | _ :: _, [], h => h.elim
end
def Wd (w : World) (T : Nat) (k : IntKind) (A : Option Addr) (xs : List Int) : Prop :=
  (xs = [] ∧ A = none) ∨ ∃ (g off : Nat) (cs : Array Value) (fz : Nat × Nat), A = some ⟨g, off, none⟩ ∧ w.heap[g]? = some (.cells cs T fz) ∧ ∀ i x, xs[i]? = some x → cs[off + i]? = some (.int k x)
theorem Wd.nil {w : World} {T : Nat} {k : IntKind} : Wd w T k none [] := .inl ⟨rfl, rfl⟩
theorem Wd.ext {w w' : World} {T : Nat} {k : IntKind} {A : Option Addr} {xs : List Int} (h : Wd w T k A xs) (e : Ext w w') : Wd w' T k A xs := by
  rcases h with h | ⟨g, off, cs, fz, hA, hg, hc⟩
  · exact .inl h
  · exact .inr ⟨g, off, cs, fz, hA, e.blk hg, hc⟩
theorem Wd.at {w : World} {T : Nat} {k : IntKind} {A : Option Addr} {xs : List Int} (h : Wd w T k A xs) (hp : 0 < xs.length) : ∃ g off, A = some ⟨g, off, none⟩ := by
  rcases h with h | ⟨g, off, cs, fz, hA, hg, hc⟩
  · rw [h.1] at hp; simp at hp
  · exact ⟨g, off, hA⟩
theorem Wd.cell {w : World} {T : Nat} {k : IntKind} {g off : Nat} {xs : List Int} (h : Wd w T k (some ⟨g, off, none⟩) xs) {i : Nat} (hi : i < xs.length) : w.cell? ⟨g, off + i, none⟩ = some (.int k (xs.getD i 0)) := by
  rcases h with h | ⟨g', off', cs, fz, hA, hg, hc⟩
  · cases h.2
  · obtain ⟨rfl, rfl⟩ : g = g' ∧ off = off' := by simpa using hA
    rw [cell_of_row w g (off + i) cs T fz hg]
    have := hc i _ (List.getElem?_eq_getElem hi)
    simpa [List.getD_eq_getElem?_getD, List.getElem?_eq_getElem hi] using this
theorem Wd.take {w : World} {T : Nat} {k : IntKind} {A : Option Addr} {xs : List Int} (h : Wd w T k A xs) (m : Nat) : Wd w T k A (xs.take m) := by
  rcases h with h | ⟨g, off, cs, fz, hA, hg, hc⟩
  · exact .inl ⟨by rw [h.1]; simp, h.2⟩
  · refine .inr ⟨g, off, cs, fz, hA, hg, fun i x hi => hc i x ?_⟩
    rw [List.getElem?_take] at hi
    split at hi
    · exact hi
    · cases hi
theorem Wd.own {w : World} {T : Nat} {k : IntKind} {b : Nat} {xs : List Int} {r : List Value} {fz : Nat × Nat} (hb : w.heap[b]? = some (.cells (xs.map (Value.int k) ++ r).toArray T fz)) : Wd w T k (some ⟨b, 0, none⟩) xs := by
  refine .inr ⟨b, 0, _, fz, rfl, hb, fun i x hi => ?_⟩
  obtain ⟨hl, hv⟩ := List.getElem?_eq_some_iff.1 hi
  simp [List.getElem?_append_left, hl, hv]
def valB (B : Int) : List Int → Int
  | [] => 0
  | x :: xs => x + B * valB B xs
def okW (B : Int) (xs : List Int) : Prop := ∀ x ∈ xs, 0 ≤ x ∧ x < B
def canon (xs : List Int) : Prop := xs.getLast? ≠ some 0
def sg (neg : Bool) (v : Int) : Int := if neg then -v else v
def Num (m T : Nat) (k : IntKind) (w : World) (neg : Bool) (A : Option Addr) (l c : Nat) (z : Int) (s : Nat) : Prop :=
  ∃ xs : List Int, xs.length = l ∧ l ≤ c ∧ Wd w T k A xs ∧ okW (2 ^ m) xs ∧ canon xs ∧ (neg = true → l ≠ 0) ∧ z = sg neg (valB (2 ^ m) xs) ∧ z.natAbs < 2 ^ s
section
variable {m T : Nat} {k : IntKind} {w w' : World} {neg : Bool} {A : Option Addr} {l c : Nat} {z : Int} {s : Nat}
theorem Num.ext (h : Num m T k w neg A l c z s) (e : Ext w w') : Num m T k w' neg A l c z s := by
  obtain ⟨xs, h1, h2, h3, h4⟩ := h
  exact ⟨xs, h1, h2, h3.ext e, h4⟩
theorem Num.zero {c : Nat} : Num m T k w false none 0 c 0 s :=
  ⟨[], rfl, Nat.zero_le _, .nil, fun x hx => (by cases hx), by simp [canon], by simp, by simp [sg, valB], by simp; exact Nat.pos_of_ne_zero (by simp)⟩
theorem Num.lt (h : Num m T k w neg A l c z s) : z.natAbs < 2 ^ s := by obtain ⟨xs, h1, h2, h3, h4, h5, h6, h7, h8⟩ := h; exact h8
theorem Num.cap (h : Num m T k w neg A l c z s) : l ≤ c := by obtain ⟨xs, h1, h2, _⟩ := h; exact h2
end
end Go.Proofs.Ytdanhdbanfpghaa.Fw
set_option linter.unusedVariables false
set_option linter.unusedSimpArgs false
namespace Go.Proofs.Ytdanhdbanfpghaa.Fw
open Go Go.RowKit Go.ChangeShapes Go.WideShapes Go.ChangeAt
theorem trod_again {H : Type} {enc : TypeId × Value → H} {P : Program} {W W' : World} {sp : Nat → Bool} (K : Kids P (· < P.types.size))
    (hz : ∀ t e, t < P.types.size → P.underlying t = some (.slice e) → 0 < P.cellsOf e) (hb : Below W.heap.size W W') :
    ∀ {ts : List TypeId} {vs : List Value} {ds : List (DataW H)} {ps : List MemPlace}, (∀ t ∈ ts, t < P.types.size) → DataW.TrodAll enc P W 0 (fun _ => true) true ts vs ds ps →
      (∀ p ∈ ps, p.block < W.heap.size) → (∀ p ∈ ps, sp p.block = true) → DataW.TrodAll enc P W' 0 sp true ts vs ds ps
  | [], [], [], _, _, h, _, _ => h
  | t :: ts, v :: vs, d :: ds, _, hT, ⟨p, q, h1, h2, e⟩, hlt, hs => by
    subst e
    refine ⟨p, q, ?_, trod_again K hz hb (fun t ht => hT t (List.mem_cons_of_mem _ ht)) h2 (fun x hx => hlt x (List.mem_append_right _ hx)) (fun x hx => hs x (List.mem_append_right _ hx)), rfl⟩
    obtain ⟨n, hn⟩ := h1.respare K hz (hT t (by simp)) (spare' := sp) (fun x hx => hs x (List.mem_append_left _ hx))
    exact ⟨n, DataW.trod_carry n _ _ _ hn fun x hx => hb.same (hlt x (List.mem_append_left _ hx))⟩
theorem law_post {H : Type} {enc : TypeId × Value → H} {P : Program} {f : Func} {s : ChangeSpec} {bt : TypeId} {W W' : World} {args : Array Value} {ds gs : List (DataW H)} {before : List MemPlace}
    (hl : laidOutB P = true) (hm : mapsRowed P = true)
    (hz : ((List.range P.types.size).all fun t => match P.underlying t with | some (.slice e) => decide (0 < P.cellsOf e) | _ => true) = true)
    (hpt : f.params.toList.all (fun t => decide (t < P.types.size)) = true) (hv : s.vars = []) (hr : f.resultTypes = #[bt]) (hbt : P.underlying bt = some .bool)
    (hW : DataW.Whole enc P f.params.toList s.vars false W args.toList ds gs before) (hfn : s.fn H (ds ++ gs) = { results := [.lit (.bool true)], args := ds })
    (hb : Below W.heap.size W W') : s.post enc P f false true false false W args (.bool true) W' := by
  have hlt : ∀ p ∈ before, p.block < W.heap.size := fun p hp => hW.lt p hp
  have hW' := hW
  obtain ⟨p, q, hA, hV, rfl, hfz, hnd⟩ := hW
  have hq : gs = [] ∧ q = [] := by
    rw [hv] at hV
    cases gs with
    | nil => exact ⟨rfl, hV⟩
    | cons g gs => cases hV
  obtain ⟨rfl, rfl⟩ := hq
  have hag := trod_again (sp := fun b => decide (b < W.heap.size)) (kids_rows hl hm) (slices_full_of P hz) hb (fun t ht => by
    have := List.all_eq_true.1 hpt t ht
    simpa using this) hA (fun x hx => hlt x (by simpa using hx)) (fun x hx => by
    have := hlt x (by simpa using hx)
    simpa using this)
  refine ⟨ds, [], p ++ [], [], p, [], hW', ?_, ?_, ?_, hb.frame _, fun h => by cases h⟩
  · rw [hfn, hr]
    exact trodAll_mk1 (shut_bool hbt _)
  · rw [hfn]
    exact hag
  · rw [hfn, hv]
    rfl
end Go.Proofs.Ytdanhdbanfpghaa.Fw
set_option linter.unusedVariables false
set_option linter.unusedSimpArgs false
namespace Go.Proofs.Ytdanhdbanfpghaa.Fw
open Go Go.RowKit
abbrev Post := Value → World → Prop
def dstOf (ops : Array Oper) (i : Nat) : Nat := ((ops[i]?).bind (·.dst)).getD 0
def isDep (o : Oper) (j : Nat) : Bool := o.after.toList.any fun e => Region.binds .any e && Nat.beq e.on j
section
variable {P : Program} {f n : Nat} {R : Ending → World → Prop} {k : List Item} {fr : Fr} {w : World} {ops : Array Oper}
structure ParInv (ops : Array Oper) (Ps : List Post) (fr : Fr) (w : World) (listed : Array Bool) (fr' : Fr) (w' : World) : Prop where
  size : listed.size = ops.size
  ext : Ext w w'
  fixed : ∀ t, (∀ j o, ops[j]? = some o → o.dst = some t → listed.getD j true = false) → fr' t = fr t
  shut : ∀ j o, ops[j]? = some o → listed.getD j true = true → ∀ i, isDep o i = true → listed.getD i false = true
  done : ∀ j p, Ps[j]? = some p → listed.getD j true = true → p (fr' (dstOf ops j)) w'
end
section
variable {P : Program} {f n : Nat} {R : Ending → World → Prop} {k : List Item} {fr : Fr} {w : World} {ops : Array Oper}
structure StInv (ops : Array Oper) (s : Nat) (Vs : List Value) (K : World → Prop) (fr : Fr) (w1 : World) (listed : Array Bool) (fr' : Fr) (w' : World) : Prop where
  size : listed.size = ops.size
  fixed : ∀ t, (∀ j o, ops[j]? = some o → o.dst = some t → listed.getD j true = false) → fr' t = fr t
  shut : ∀ j o, ops[j]? = some o → listed.getD j true = true → ∀ i, isDep o i = true → listed.getD i false = true
  done : ∀ j v, Vs[j]? = some v → j ≠ s → listed.getD j true = true → fr' (dstOf ops j) = v
  before : listed.getD s true = false → w' = w1
  after : listed.getD s true = true → K w'
end
end Go.Proofs.Ytdanhdbanfpghaa.Fw
set_option linter.unusedVariables false
set_option linter.unusedSimpArgs false
namespace Go.Proofs.Ytdanhdbanfpghaa.Fw
open Go Go.RowKit
section
variable {P : Program} {f n : Nat} {R : Ending → World → Prop} {k : List Item} {fr : Fr} {w : World} {ops : Array Oper}
structure St2Inv (ops : Array Oper) (s s2 : Nat) (Vs : List Value) (K1 K : World → Prop) (fr : Fr) (w1 : World) (listed : Array Bool) (fr' : Fr) (w' : World) : Prop where
  size : listed.size = ops.size
  fixed : ∀ t, (∀ j o, ops[j]? = some o → o.dst = some t → listed.getD j true = false) → fr' t = fr t
  shut : ∀ j o, ops[j]? = some o → listed.getD j true = true → ∀ i, isDep o i = true → listed.getD i false = true
  done : ∀ j v, Vs[j]? = some v → j ≠ s → j ≠ s2 → listed.getD j true = true → fr' (dstOf ops j) = v
  before : listed.getD s true = false → w' = w1
  mid : listed.getD s true = true → listed.getD s2 true = false → K1 w'
  after : listed.getD s2 true = true → K w'
end
end Go.Proofs.Ytdanhdbanfpghaa.Fw
set_option linter.unusedVariables false
set_option linter.unusedSimpArgs false
namespace Go.Proofs.Ytdanhdbanfpghaa.Fw
open Go Go.RowKit
section
variable {P : Program} {w : World}
theorem eqFields_flat {d : Nat} {k : IntKind} {xs ys : Array Value} {A B : Nat → Int} : ∀ fs : List Field,
    (∀ f ∈ fs, f.name ≠ "_" ∧ P.underlying f.type = some (.int k) ∧ xs[f.offset]? = some (.int k (A f.offset)) ∧ ys[f.offset]? = some (.int k (B f.offset))) →
    (Op.eqFields (d + 1) xs ys fs).run P w = .ok (fs.all fun f => A f.offset == B f.offset) w := by
  intro fs
  induction fs with
  | nil => intro _; simp [Op.eqFields]
  | cons f fs ih =>
    intro h
    obtain ⟨hn, hu, hx, hy⟩ := h f (by simp)
    have ih := ih fun g hg => h g (List.mem_cons_of_mem _ hg)
    have hag : (isAgg f.type).run P w = .ok false w := run_isAgg (by simp [aggB, hu])
    have px : (part f.type xs f.offset).run P w = .ok (.int k (A f.offset)) w := by simp [part, hag, hx]
    have py : (part f.type ys f.offset).run P w = .ok (.int k (B f.offset)) w := by simp [part, hag, hy]
    rw [Op.eqFields]
    simp only [if_pos hn, Sem.run_bind, px, py, run_equalIn_int w d f.type k k _ _ hu, Result.andThen_ok, List.all_cons]
    cases hb : (A f.offset == B f.offset)
    · simp
    · simpa using ih
def flatB (P : Program) (t : Nat) (k : IntKind) (m : Nat) : Bool :=
  match P.underlying t with
  | some (.struct fs) => fs.toList.map (·.offset) == List.range m && fs.toList.all (fun f => f.name != "_" && (match P.underlying f.type with | some (.int k') => k' == k | _ => false)) && !P.stoodInHeld t
  | _ => false
theorem all_range (as bs : List Int) (m : Nat) (ha : as.length = m) (hb : bs.length = m) : ((List.range m).all fun o => as.getD o 0 == bs.getD o 0) = decide (as = bs) := by
  rw [Bool.eq_iff_iff]
  simp only [List.all_eq_true, List.mem_range, beq_iff_eq, decide_eq_true_eq]
  constructor
  · intro h
    apply List.ext_getElem (by omega)
    intro i h1 h2
    have := h i (by omega)
    simpa [List.getD_eq_getElem?_getD, h1, h2] using this
  · intro h; subst h; intro o ho; rfl
theorem equalIn_flat {d t : Nat} {k : IntKind} {m : Nat} {as bs : List Int} (hf : flatB P t k m = true) (ha : as.length = m) (hb : bs.length = m) :
    (Op.equalIn (d + 2) t (.agg (as.map (Value.int k)).toArray) (.agg (bs.map (Value.int k)).toArray)).run P w = .ok (decide (as = bs)) w := by
  unfold flatB at hf
  split at hf
  · rename_i fs hs
    simp only [Bool.and_eq_true, beq_iff_eq, List.all_eq_true, bne_iff_ne, Bool.not_eq_true'] at hf
    obtain ⟨⟨hoff, hall⟩, hst⟩ := hf
    have hfo : P.fieldsOf t = fs := by simp [Program.fieldsOf, hs]
    rw [run_equalIn_struct w (d + 1) t _ _ (by rw [hfo]; exact hs) hst, hfo]
    rw [eqFields_flat (d := d) (k := k) (A := fun o => as.getD o 0) (B := fun o => bs.getD o 0) fs.toList]
    · congr 1
      rw [← all_range as bs m ha hb, ← hoff]
      simp [List.all_map]
    · intro f hfm
      obtain ⟨hn, hk⟩ := hall f hfm
      have hlt : f.offset < m := by
        have : f.offset ∈ List.range m := by rw [← hoff]; exact List.mem_map_of_mem hfm
        simpa using this
      refine ⟨hn, ?_, ?_, ?_⟩
      · revert hk
        split
        · rename_i k' hk'
          intro hkk
          rw [hk']
          simp only [beq_iff_eq] at hkk
          rw [hkk]
        · intro h; cases h
      · simp [List.getD_eq_getElem?_getD, List.getElem?_eq_getElem (by omega : f.offset < as.length)]
      · simp [List.getD_eq_getElem?_getD, List.getElem?_eq_getElem (by omega : f.offset < bs.length)]
  · cases hf
section
variable {n : Nat} {fr : Fr} {ty : TypeId}
theorem guard_none {op : BinOp} {t : TypeId} {x y : Operand} {xs ys : Array Value} (hm : P.eqGuardType P.depth t = false) : (eqGuard op t x y (.agg xs) (.agg ys)).run P w = .ok () w := run_eqGuard_agg w op t x y xs ys hm
theorem dv_eqls {x y : Operand} {t t' : TypeId} {k : IntKind} {m : Nat} {la lb : List Int} (hf : flatB P t k m = true) (hm : P.eqGuardType P.depth t = false) (hx : EV n fr x (.agg (la.map (Value.int k)).toArray)) (hy : EV n fr y (.agg (lb.map (Value.int k)).toArray))
    (ha : la.length = m) (hb : lb.length = m) : DV P n (.binOp .eql t x y t') ty fr w (.bool (decide (la = lb))) := fun _ _ _ _ => by
  unfold EV at hx hy
  have h := equalIn_flat (P := P) (w := w) (d := 9998) (as := la) (bs := lb) hf ha hb
  simp only [execOp, hx, hy, Sem.run_bind, guard_none hm, Result.andThen_ok, run_eql_struct, h, Sem.run_pure]
end
end
end Go.Proofs.Ytdanhdbanfpghaa.Fw
set_option linter.unusedVariables false
namespace Go.Proofs.Ytdanhdbanfpghaa.Fw
open Go Go.RowKit
theorem vt {q : Prop} [Decidable q] (h : q) : Value.bool true = Value.bool (decide q) := by rw [decide_eq_true h]
theorem vf {q : Prop} [Decidable q] (h : ¬ q) : Value.bool false = Value.bool (decide q) := by rw [decide_eq_false h]
theorem vb {p q : Prop} [Decidable p] [Decidable q] (h : p ↔ q) : Value.bool (decide p) = Value.bool (decide q) := by congr 1; exact decide_eq_decide.2 h
theorem vi {k : IntKind} {a b : Int} (h : a = b) : Value.int k a = Value.int k b := by rw [h]
theorem wr_i64 {x : Int} (h0 : -9223372036854775808 ≤ x) (h1 : x ≤ 9223372036854775807) : IntKind.i64.wrap x = x := by rw [IntKind.wrap_i64]; omega
end Go.Proofs.Ytdanhdbanfpghaa.Fw
set_option linter.unusedVariables false
set_option linter.unusedSimpArgs false
namespace Go.Proofs.Ytdanhdbanfpghaa.Fw
section
variable {B : Int}
theorem okW.tail {x : Int} {xs : List Int} (h : okW B (x :: xs)) : okW B xs := fun y hy => h y (List.mem_cons_of_mem _ hy)
theorem okW.head {x : Int} {xs : List Int} (h : okW B (x :: xs)) : 0 ≤ x ∧ x < B := h x (by simp)
theorem okW.nil : okW B [] := fun x hx => by cases hx
theorem okW.cons {x : Int} {xs : List Int} (h0 : 0 ≤ x) (h1 : x < B) (h : okW B xs) : okW B (x :: xs) := by
  intro y hy
  rcases List.mem_cons.1 hy with rfl | hy
  · exact ⟨h0, h1⟩
  · exact h y hy
theorem okW.take {xs : List Int} (h : okW B xs) (n : Nat) : okW B (xs.take n) := fun y hy => h y (List.mem_of_mem_take hy)
theorem okW.drop {xs : List Int} (h : okW B xs) (n : Nat) : okW B (xs.drop n) := fun y hy => h y (List.mem_of_mem_drop hy)
theorem okW.getD {xs : List Int} (h : okW B xs) (hB : 0 < B) (i : Nat) : 0 ≤ xs.getD i 0 ∧ xs.getD i 0 < B := by
  by_cases hi : i < xs.length
  · have := h xs[i] (List.getElem_mem hi)
    simpa [List.getD_eq_getElem?_getD, hi] using this
  · simp [List.getD_eq_getElem?_getD, List.getElem?_eq_none (by omega : xs.length ≤ i), hB]
theorem okW.set {xs : List Int} (h : okW B xs) {z : Int} (h0 : 0 ≤ z) (h1 : z < B) (i : Nat) : okW B (xs.set i z) := by
  intro y hy
  rcases List.mem_or_eq_of_mem_set hy with hy | hy
  · exact h y hy
  · subst hy; exact ⟨h0, h1⟩
theorem okW.replicate (hB : 0 < B) (n : Nat) : okW B (List.replicate n 0) := by
  intro y hy; rw [List.eq_of_mem_replicate hy]; exact ⟨Int.le_refl _, hB⟩
theorem valB_nonneg (hB : 0 ≤ B) : ∀ {xs : List Int}, okW B xs → 0 ≤ valB B xs
  | [], _ => Int.le_refl _
  | x :: xs, h => by
    have := valB_nonneg hB h.tail
    have h1 := h.head
    simp only [valB]
    have := Int.mul_nonneg hB this
    omega
theorem valB_lt (hB : 0 ≤ B) : ∀ {xs : List Int}, okW B xs → valB B xs < B ^ xs.length
  | [], _ => by simp [valB]
  | x :: xs, h => by
    have ih := valB_lt hB h.tail
    have h1 := h.head
    simp only [valB, List.length_cons, Int.pow_succ]
    have h2 : B * (valB B xs + 1) ≤ B * B ^ xs.length := Int.mul_le_mul_of_nonneg_left (by omega) hB
    rw [Int.mul_add, Int.mul_one] at h2
    rw [Int.mul_comm (B ^ xs.length) B]
    omega
theorem valB_append (xs ys : List Int) : valB B (xs ++ ys) = valB B xs + B ^ xs.length * valB B ys := by
  induction xs with
  | nil => simp [valB]
  | cons x xs ih => simp only [List.cons_append, valB, ih, List.length_cons, Int.pow_succ]; grind
theorem valB_snoc (xs : List Int) (y : Int) : valB B (xs ++ [y]) = valB B xs + B ^ xs.length * y := by
  rw [valB_append]; simp [valB]
theorem take_snoc (xs : List Int) (i : Nat) (h : i < xs.length) : xs.take (i + 1) = xs.take i ++ [xs.getD i 0] := by
  rw [List.take_succ_eq_append_getElem h]; simp [List.getD_eq_getElem?_getD, h]
theorem list_snoc (xs : List Int) (h : 0 < xs.length) : xs = xs.take (xs.length - 1) ++ [xs.getD (xs.length - 1) 0] := by
  have := take_snoc xs (xs.length - 1) (by omega)
  rw [Nat.sub_add_cancel h] at this
  rw [← this, List.take_of_length_le (Nat.le_refl _)]
theorem canon_ge (hB : 0 < B) {xs : List Int} (h : okW B xs) (hc : canon xs) (hn : 0 < xs.length) : B ^ (xs.length - 1) ≤ valB B xs := by
  have e := list_snoc xs hn
  have hx : xs.getD (xs.length - 1) 0 ≠ 0 := by
    intro h0
    apply hc
    rw [List.getLast?_eq_getElem?]
    have hl : xs.length - 1 < xs.length := by omega
    simp only [List.getD_eq_getElem?_getD, List.getElem?_eq_getElem hl, Option.getD_some] at h0
    rw [List.getElem?_eq_getElem hl, h0]
  have h1 := h.getD hB (xs.length - 1)
  have h2 := valB_nonneg (Int.le_of_lt hB) (h.take (xs.length - 1))
  rw [e, valB_snoc]
  have hl : (xs.take (xs.length - 1)).length = xs.length - 1 := by simp
  have h3 : B ^ (xs.length - 1) * 1 ≤ B ^ (xs.length - 1) * xs.getD (xs.length - 1) 0 := Int.mul_le_mul_of_nonneg_left (by omega) (Int.le_of_lt (Int.pow_pos hB))
  rw [hl]
  have e2 : (xs.take (xs.length - 1) ++ [xs.getD (xs.length - 1) 0]).length = xs.length := by simp; omega
  rw [e2]
  omega
theorem canon_pos (hB : 0 < B) {xs : List Int} (h : okW B xs) (hc : canon xs) : 0 < xs.length ↔ 0 < valB B xs := by
  constructor
  · intro hn
    have := canon_ge hB h hc hn
    have : 0 < B ^ (xs.length - 1) := Int.pow_pos hB
    omega
  · intro hv
    cases xs with
    | nil => simp [valB] at hv
    | cons x xs => simp
theorem pow_le_of {m n : Nat} (hB : 1 ≤ B) (h : m ≤ n) : B ^ m ≤ B ^ n := by
  obtain ⟨d, rfl⟩ := Nat.le.dest h
  rw [Int.pow_add]
  have h1 : (1 : Int) ≤ B ^ d := Int.pow_pos (by omega)
  have h2 : (0 : Int) ≤ B ^ m := Int.le_of_lt (Int.pow_pos (by omega))
  have := Int.mul_le_mul_of_nonneg_left h1 h2
  omega
end
end Go.Proofs.Ytdanhdbanfpghaa.Fw
set_option linter.unusedVariables false
namespace Go.Proofs.Ytdanhdbanfpghaa.Fw
open Go Go.RowKit
theorem Wd.ownW {w : World} {T : Nat} {k : IntKind} {b : Nat} {xs : List Int} {fz : Nat × Nat} (hb : w.heap[b]? = some (.cells (xs.map (Value.int k)).toArray T fz)) : Wd w T k (some ⟨b, 0, none⟩) xs :=
  Wd.own (r := []) (by simpa using hb)
def Wc (m T : Nat) (k : IntKind) (w : World) (A : Option Addr) (l c : Nat) (x : Int) : Prop :=
  ∃ xs : List Int, xs.length = l ∧ l ≤ c ∧ Wd w T k A xs ∧ okW (2 ^ m) xs ∧ canon xs ∧ x = valB (2 ^ m) xs
def Ws (m T : Nat) (k : IntKind) (w : World) (A : Option Addr) (l c : Nat) (x : Int) : Prop :=
  ∃ xs : List Int, xs.length = l ∧ l ≤ c ∧ Wd w T k A xs ∧ okW (2 ^ m) xs ∧ x = valB (2 ^ m) xs
section
variable {m T : Nat} {k : IntKind} {w w' : World} {neg : Bool} {A : Option Addr} {l c : Nat} {z x : Int} {s : Nat}
theorem Wc.ws (h : Wc m T k w A l c x) : Ws m T k w A l c x := by obtain ⟨xs, h1, h2, h3, h4, h5, h6⟩ := h; exact ⟨xs, h1, h2, h3, h4, h6⟩
theorem Wc.ext (h : Wc m T k w A l c x) (e : Ext w w') : Wc m T k w' A l c x := by obtain ⟨xs, h1, h2, h3, h4⟩ := h; exact ⟨xs, h1, h2, h3.ext e, h4⟩
theorem Ws.ext (h : Ws m T k w A l c x) (e : Ext w w') : Ws m T k w' A l c x := by obtain ⟨xs, h1, h2, h3, h4⟩ := h; exact ⟨xs, h1, h2, h3.ext e, h4⟩
theorem two_pos (m : Nat) : (0 : Int) < 2 ^ m := Int.pow_pos (by decide)
theorem Wc.cap (h : Wc m T k w A l c x) : l ≤ c := by obtain ⟨xs, h1, h2, _⟩ := h; exact h2
theorem Wc.pos (h : Wc m T k w A l c x) : 0 < l ↔ 0 < x := by
  obtain ⟨xs, h1, h2, h3, h4, h5, h6⟩ := h
  rw [← h1, h6]; exact canon_pos (two_pos m) h4 h5
theorem Wc.zero {c : Nat} : Wc m T k w none 0 c 0 := ⟨[], rfl, Nat.zero_le _, .nil, .nil, by simp [canon], rfl⟩
theorem Num.wc (h : Num m T k w neg A l c z s) : Wc m T k w A l c (z.natAbs : Int) := by
  obtain ⟨xs, h1, h2, h3, h4, h5, h6, h7, h8⟩ := h
  refine ⟨xs, h1, h2, h3, h4, h5, ?_⟩
  have := valB_nonneg (Int.le_of_lt (two_pos m)) h4
  rw [h7]
  cases neg <;> simp [sg] <;> omega
theorem valB_sz {xs : List Int} {n : Nat} (h : okW (2 ^ m) xs) (hl : xs.length = n) : valB (2 ^ m) xs < 2 ^ (m * n) := by
  have := valB_lt (Int.le_of_lt (two_pos m)) h
  rw [hl, ← Int.pow_mul] at this
  exact this
theorem Wc.len (hm : 0 < m) (h : Wc m T k w A l c x) (hs : x < 2 ^ s) : m * l < s + m ∨ l = 0 := by
  obtain ⟨xs, h1, h2, h3, h4, h5, h6⟩ := h
  by_cases hl : l = 0
  · exact .inr hl
  · refine .inl ?_
    have hg := canon_ge (two_pos m) h4 h5 (by omega)
    rw [← h6, h1, ← Int.pow_mul] at hg
    have hlt : (2 : Int) ^ (m * (l - 1)) < 2 ^ s := by omega
    have : m * (l - 1) < s := by
      rcases Nat.lt_or_ge (m * (l - 1)) s with h | h
      · exact h
      · have := pow_le_of (B := 2) (by decide) h
        omega
    rw [Nat.mul_sub, Nat.mul_one] at this
    have : m ≤ m * l := Nat.le_mul_of_pos_right m (by omega)
    omega
theorem Num.len (hm : 0 < m) (h : Num m T k w neg A l c z s) : m * l < s + m ∨ l = 0 := by
  refine h.wc.len hm ?_
  have := h.lt
  have e2 : ((2 ^ s : Nat) : Int) = 2 ^ s := by simp
  omega
end
end Go.Proofs.Ytdanhdbanfpghaa.Fw
set_option linter.unusedVariables false
set_option linter.unusedSimpArgs false
namespace Go.Proofs.Ytdanhdbanfpghaa.Fw
open Go Go.RowKit
def cmpR (r x y : Int) : Prop := (r < 0 ↔ x < y) ∧ (r = 0 ↔ x = y)
theorem cmpR.eq {r x y : Int} (h : cmpR r x y) : r = 0 ↔ x = y := h.2
end Go.Proofs.Ytdanhdbanfpghaa.Fw
set_option linter.unusedVariables false
set_option linter.unusedSimpArgs false
namespace Go.Proofs.Ytdanhdbanfpghaa.Fw
open Go Go.RowKit
def Ow (w : World) (base T : Nat) (k : IntKind) (A : Option Addr) (c : Nat) (L : List Int) : Prop := w.ownsRow base T 1 (.slice A L.length c) L.length (L.map (Value.int k)) ∧ base ≤ w.heap.size
theorem own_keep {w w' : World} {base T n : Nat} {v : Value} {xs : List Value} (h : w.ownsRow base T 1 v n xs) (hk : ∀ g o, w.heap[g]? = some o → base ≤ g → (∃ cs fz, o = .cells cs T fz) → w'.heap[g]? = some o) : w'.ownsRow base T 1 v n xs := by
  refine ⟨h.1, ?_⟩
  rcases h.2 with h | ⟨g, cap, cur, hv, hb, hg, r⟩
  · exact .inl h
  · exact .inr ⟨g, cap, cur, hv, hb, hk g _ hg hb ⟨_, _, rfl⟩, r⟩
theorem Ow.ext {w w' : World} {base T c : Nat} {k : IntKind} {A : Option Addr} {L : List Int} (h : Ow w base T k A c L) (e : Ext w w') : Ow w' base T k A c L := ⟨own_keep h.1 fun g o hg _ _ => e.blk hg, Nat.le_trans h.2 e.size⟩
theorem Ow.cap {w : World} {base T c : Nat} {k : IntKind} {A : Option Addr} {L : List Int} (h : Ow w base T k A c L) : L.length ≤ c := by
  rcases h.1.2 with ⟨hv, hn⟩ | ⟨g, cap, cur, hv, hb, hg, h1, h2, h3, h4⟩
  · omega
  · injection hv with _ _ hc
    omega
theorem Ow.full {w w' : World} {b T : Nat} {k : IntKind} {L : List Int} (h : w'.heap[b]? = some (.cells (L.map (Value.int k)).toArray T)) (hc : L.length ≤ 281474976710656) : Ow w' b T k (some ⟨b, 0, none⟩) L.length L :=
  ⟨⟨by simp, .inr ⟨b, L.length, _, rfl, Nat.le_refl _, h, Nat.le_refl _, by simp only [maxLen]; omega, by simp, by simp [List.take_of_length_le]⟩⟩, Nat.le_of_lt (lt_of_blk h)⟩
section
variable {P : Program} {n : Nat} {fr : Fr} {w : World} {ty : TypeId}
theorem stC_mid : ∀ (n : Nat) (cs vs : List Value), n + vs.length ≤ cs.length → stC cs n vs = some (cs.take n ++ vs ++ cs.drop (n + vs.length)) := by
  intro n
  induction n with
  | zero =>
    intro cs vs
    induction vs generalizing cs with
    | nil => intro _; simp [stC_nil]
    | cons v vs ih =>
      intro h
      cases cs with
      | nil => simp at h
      | cons c cs =>
        have := ih cs (by simpa using h)
        simp only [Nat.zero_add] at this ⊢
        simp [stC, this]
  | succ n ih =>
    intro cs vs h
    cases cs with
    | nil => simp at h
    | cons c cs =>
      cases vs with
      | nil => simp [stC]
      | cons v vs =>
        have := ih cs (v :: vs) (by simp at h ⊢; omega)
        simp only [stC, this, Option.map_some, List.take_succ_cons, List.cons_append]
        have e : n + 1 + (v :: vs).length = (n + (v :: vs).length) + 1 := by omega
        rw [e, List.drop_succ_cons]
end
end Go.Proofs.Ytdanhdbanfpghaa.Fw
set_option linter.unusedVariables false
namespace Go.Proofs.Ytdanhdbanfpghaa.Fw
open Go
theorem Wc.eq {m T : Nat} {k : IntKind} {w : World} {A : Option Addr} {l c : Nat} {x y : Int} (h : Wc m T k w A l c x) (e : x = y) : Wc m T k w A l c y := e ▸ h
theorem Ws.eq {m T : Nat} {k : IntKind} {w : World} {A : Option Addr} {l c : Nat} {x y : Int} (h : Ws m T k w A l c x) (e : x = y) : Ws m T k w A l c y := e ▸ h
theorem Ws.lo {m T : Nat} {k : IntKind} {w : World} {A : Option Addr} {l c s : Nat} {x : Int} (h : Ws m T k w A l c x) (hs : 2 ^ s ≤ x) : s < m * l := by
  obtain ⟨xs, rfl, hc, hw, ho, rfl⟩ := h
  have := valB_sz ho rfl
  rcases Nat.lt_or_ge s (m * xs.length) with h | h
  · exact h
  · have := pow_le_of (B := 2) (by decide) h
    omega
theorem Wc.lo {m T : Nat} {k : IntKind} {w : World} {A : Option Addr} {l c s : Nat} {x : Int} (h : Wc m T k w A l c x) (hs : 2 ^ s ≤ x) : s < m * l := h.ws.lo hs
end Go.Proofs.Ytdanhdbanfpghaa.Fw
set_option linter.unusedVariables false
set_option linter.unusedSimpArgs false
namespace Go.Proofs.Ytdanhdbanfpghaa.Fw
open Go Go.RowKit
section
variable {P : Program} {n : Nat} {fr : Fr} {w : World} {ty : TypeId}
theorem Ow.off {w : World} {base T c g o : Nat} {k : IntKind} {L : List Int} (h : Ow w base T k (some ⟨g, o, none⟩) c L) : o = 0 ∧ base ≤ g := by
  rcases h.1.2 with ⟨hv, hn⟩ | ⟨g', cap, cur, hv, hb, hg, h1, h2, h3, h4⟩
  · injection hv with hA _ _
    cases hA
  · injection hv with hA _ hc
    injection hA with hA
    injection hA with h5 h6 h7
    subst h5
    exact ⟨h6, hb⟩
end
end Go.Proofs.Ytdanhdbanfpghaa.Fw
set_option linter.unusedVariables false
namespace Go.Proofs.Ytdanhdbanfpghaa.Fw
open Go
def fits (z : Int) : Prop := -57896044618658097711785492504343953926634992332820282019728792003956564819968 ≤ z ∧ z < 57896044618658097711785492504343953926634992332820282019728792003956564819968
instance (z : Int) : Decidable (fits z) := by unfold fits; infer_instance
def wv0 (z : Int) : Int := if fits z then z % 18446744073709551616 else 0
def wv1 (z : Int) : Int := if fits z then z / 18446744073709551616 % 18446744073709551616 else 0
def wv2 (z : Int) : Int := if fits z then z / 340282366920938463463374607431768211456 % 18446744073709551616 else 0
def wv3 (z : Int) : Int := if fits z then z / 6277101735386680763835789423207666416102355444464034512896 % 18446744073709551616 else 0
end Go.Proofs.Ytdanhdbanfpghaa.Fw
set_option linter.unusedVariables false
set_option linter.unusedSimpArgs false
namespace Go.Proofs.Ytdanhdbanfpghaa.Fw
theorem w0 : wv3 0 = 0 ∧ wv2 0 = 0 ∧ wv1 0 = 0 ∧ wv0 0 = 0 := by decide
end Go.Proofs.Ytdanhdbanfpghaa.Fw
set_option linter.unusedVariables false
set_option linter.unusedSimpArgs false
namespace Go.Proofs.Ytdanhdbanfpghaa.Fw
open Go Go.RowKit
structure Bt (T : Nat) (w w' : World) : Prop where
  keep : ∀ (g : Nat) (o : Obj), w.heap[g]? = some o → (∀ (cs : Array Value) (fz : Nat × Nat), o ≠ Obj.cells cs T fz) → w'.heap[g]? = some o
theorem Wd.bt {w w' : World} {T T' : Nat} {k : IntKind} {A : Option Addr} {xs : List Int} (h : Wd w T' k A xs) (e : Bt T w w') (hT : T' ≠ T) : Wd w' T' k A xs := by
  rcases h with h | ⟨g, off, cs, fz, hA, hg, hc⟩
  · exact .inl h
  · exact .inr ⟨g, off, cs, fz, hA, e.keep _ _ hg (fun cs' fz' he => by injection he with _ h2 _; exact hT h2), hc⟩
theorem Wc.bt {m T T' : Nat} {k : IntKind} {w w' : World} {A : Option Addr} {l c : Nat} {x : Int} (h : Wc m T' k w A l c x) (e : Bt T w w') (hT : T' ≠ T) : Wc m T' k w' A l c x := by
  obtain ⟨xs, h1, h2, h3, h4⟩ := h
  exact ⟨xs, h1, h2, h3.bt e hT, h4⟩
end Go.Proofs.Ytdanhdbanfpghaa.Fw
set_option linter.unusedVariables false
set_option linter.unusedSimpArgs false
namespace Go.Proofs.Ytdanhdbanfpghaa.Fw
open Go Go.RowKit
def Rd (w : World) (A : Option Addr) (vs : List Value) : Prop :=
  vs = [] ∨ ∃ (g off T : Nat) (cs : Array Value) (fz : Nat × Nat), A = some ⟨g, off, none⟩ ∧ w.heap[g]? = some (.cells cs T fz) ∧ ∀ i x, vs[i]? = some x → cs[off + i]? = some x
theorem Rd.ext {w w' : World} {A : Option Addr} {vs : List Value} (h : Rd w A vs) (e : Ext w w') : Rd w' A vs := by
  rcases h with h | ⟨g, off, T, cs, fz, hA, hg, hc⟩
  · exact .inl h
  · exact .inr ⟨g, off, T, cs, fz, hA, e.blk hg, hc⟩
theorem Rd.at {w : World} {A : Option Addr} {vs : List Value} (h : Rd w A vs) (hp : 0 < vs.length) : ∃ g off, A = some ⟨g, off, none⟩ := by
  rcases h with h | ⟨g, off, T, cs, fz, hA, hg, hc⟩
  · rw [h] at hp; simp at hp
  · exact ⟨g, off, hA⟩
theorem Rd.cell {w : World} {g off i : Nat} {vs : List Value} {v : Value} (h : Rd w (some ⟨g, off, none⟩) vs) (hi : vs[i]? = some v) : w.cell? ⟨g, off + i, none⟩ = some v := by
  rcases h with h | ⟨g', off', T, cs, fz, hA, hg, hc⟩
  · rw [h] at hi; cases hi
  · obtain ⟨rfl, rfl⟩ : g = g' ∧ off = off' := by simpa using hA
    rw [cell_of_row w g (off + i) cs T fz hg]
    exact hc i v hi
def RdI (w : World) (k : IntKind) (A : Option Addr) (L : List Int) : Prop := Rd w A (L.map (Value.int k))
theorem RdI.ext {w w' : World} {k : IntKind} {A : Option Addr} {L : List Int} (h : RdI w k A L) (e : Ext w w') : RdI w' k A L := Rd.ext h e
theorem RdI.at {w : World} {k : IntKind} {A : Option Addr} {L : List Int} (h : RdI w k A L) (hp : 0 < L.length) : ∃ g off, A = some ⟨g, off, none⟩ := Rd.at h (by simpa using hp)
theorem RdI.cell {w : World} {k : IntKind} {g off i : Nat} {L : List Int} (h : RdI w k (some ⟨g, off, none⟩) L) (hi : i < L.length) : w.cell? ⟨g, off + i, none⟩ = some (.int k (L.getD i 0)) :=
  Rd.cell h (by simp [List.getElem?_map, hi, List.getD_eq_getElem?_getD])
theorem Wd.rdI {w : World} {T : Nat} {k : IntKind} {A : Option Addr} {L : List Int} (h : Wd w T k A L) : RdI w k A L := by
  rcases h with ⟨h1, h2⟩ | ⟨g, off, cs, fz, hA, hg, hc⟩
  · exact .inl (by rw [h1]; rfl)
  · refine .inr ⟨g, off, T, cs, fz, hA, hg, fun i x hi => ?_⟩
    rw [List.getElem?_map] at hi
    cases hL : L[i]? with
    | none => rw [hL] at hi; cases hi
    | some y =>
      rw [hL] at hi
      have e : x = .int k y := by simpa using hi.symm
      rw [e]; exact hc i y hL
theorem addr_addn {g off m : Nat} : (⟨g, off, none⟩ : Addr).add m = ⟨g, off + m, none⟩ := by unfold Addr.add; split <;> simp_all
section
variable {P : Program} {n : Nat} {fr : Fr} {w : World} {ty : TypeId}
theorem dv_indexM {t e : TypeId} {x y : Operand} {g o l c i m : Nat} {k : IntKind} {j : Int} (ht : P.underlying t = some (.slice e)) (hs : sizeB P e = some m)
    (hx : EV n fr x (.slice (some ⟨g, o, none⟩) l c)) (hy : EV n fr y (.int k j)) (hj : j = (i : Nat)) (hl : i < l) : DV P n (.indexAddr t x y) ty fr w (.pointer (some ⟨g, o + i * m, none⟩)) :=
  dv_indexAddr ht hs hx hy (by omega) (by omega) (by subst hj; exact addr_addn)
theorem dv_indexOM {t e : TypeId} {x y : Operand} {g l c i m : Nat} {k : IntKind} {j : Int} (ht : P.underlying t = some (.slice e)) (hs : sizeB P e = some m)
    (hx : EV n fr x (.slice (some ⟨g, 0, none⟩) l c)) (hy : EV n fr y (.int k j)) (hj : j = (i : Nat)) (hl : i < l) : DV P n (.indexAddr t x y) ty fr w (.pointer (some ⟨g, i * m, none⟩)) :=
  dv_indexAddr ht hs hx hy (by omega) (by omega) (by subst hj; rw [addr_addn, Nat.zero_add]; rfl)
theorem loadVar_at {t : TypeId} {g o m : Nat} {l : List Value} (ht : aggB P t = some true) (hs : sizeB P t = some m) (hl : l.length = m)
    (hc : ∀ j v, l[j]? = some v → w.cell? ⟨g, o + j, none⟩ = some v) : (loadVar t ⟨g, o, none⟩).run P w = .ok (.agg l.toArray) w := by
  have hld : (loadCells ⟨g, o, none⟩ l.length).run P w = .ok l.toArray w := by
    refine run_loadCells_list _ _ l fun j v hj => ?_
    rw [addr_addn]
    exact hc j v hj
  rw [hl] at hld
  simp [loadVar, run_isAgg ht, run_sizeOf hs, hld]
theorem dv_loadsR {t : TypeId} {x : Operand} {g o m : Nat} {l : List Value} (ht : aggB P t = some true) (hs : sizeB P t = some m) (hx : EV n fr x (.pointer (some ⟨g, o, none⟩))) (hl : l.length = m)
    (hc : ∀ j v, l[j]? = some v → w.cell? ⟨g, o + j, none⟩ = some v) : DV P n (.load t x) ty fr w (.agg l.toArray) := fun _ _ _ _ => by
  unfold EV at hx
  have := loadVar_at (w := w) ht hs hl hc
  simp [execOp, hx, Instr.loadAt, Instr.sureAddr, this]
def getM (k : IntKind) (L : List Int) (i m : Nat) : List Value := (List.range m).map fun j => Value.int k (L.getD (i + j) 0)
theorem getM_get {k : IntKind} {L : List Int} {i m j : Nat} {v : Value} (h : (getM k L i m)[j]? = some v) : j < m ∧ v = .int k (L.getD (i + j) 0) := by
  unfold getM at h
  have hj := (List.getElem?_eq_some_iff.1 h).1
  simp only [List.length_map, List.length_range] at hj
  rw [List.getElem?_map, List.getElem?_range hj] at h
  exact ⟨hj, by simpa using h.symm⟩
theorem dv_loadsI {t : TypeId} {x : Operand} {g o i m : Nat} {k : IntKind} {L : List Int} {l : List Value} (ht : aggB P t = some true) (hs : sizeB P t = some m) (hx : EV n fr x (.pointer (some ⟨g, o + i, none⟩)))
    (hR : RdI w k (some ⟨g, o, none⟩) L) (hi : i + m ≤ L.length) (hl : getM k L i m = l) : DV P n (.load t x) ty fr w (.agg l.toArray) := by
  subst hl
  refine dv_loadsR ht hs hx (by simp [getM]) fun j v hj => ?_
  obtain ⟨hjm, rfl⟩ := getM_get hj
  rw [Nat.add_assoc]
  exact hR.cell (by omega)
def setM (L : List Int) : Nat → List Int → List Int
  | _, [] => L
  | i, x :: xs => setM (L.set i x) (i + 1) xs
theorem setM_len : ∀ (xs : List Int) (L : List Int) (i : Nat), (setM L i xs).length = L.length
  | [], _, _ => rfl
  | x :: xs, L, i => by simp [setM, setM_len xs]
theorem setM_take2 : ∀ (xs : List Int) (L : List Int) (i : Nat), i + xs.length ≤ L.length → (setM L i xs).take (i + xs.length) = L.take i ++ xs
  | [], L, i, _ => by simp [setM]
  | x :: xs, L, i, h => by
    have hl : i < L.length := by simp at h; omega
    have := setM_take2 xs (L.set i x) (i + 1) (by simp at h ⊢; omega)
    show (setM (L.set i x) (i + 1) xs).take (i + (xs.length + 1)) = _
    rw [show i + (xs.length + 1) = i + 1 + xs.length by omega, this, List.take_set, List.take_succ_eq_append_getElem hl]
    rw [List.set_append_right _ _ (by simp; omega)]
    simp [Nat.min_eq_left (Nat.le_of_lt hl)]
theorem stC_setM {k : IntKind} : ∀ (xs : List Int) (L : List Int) (i : Nat), i + xs.length ≤ L.length → stC (L.map (Value.int k)) i (xs.map (Value.int k)) = some ((setM L i xs).map (Value.int k))
  | [], L, i, _ => by rw [List.map_nil, stC_nil]; rfl
  | x :: xs, L, i, h => by
    have hm := stC_mid i (L.map (Value.int k)) ((x :: xs).map (Value.int k)) (by simpa using h)
    rw [hm]
    congr 1
    have h2 := setM_take2 (x :: xs) L i h
    have h3 : (setM L i (x :: xs)).drop (i + (x :: xs).length) = L.drop (i + (x :: xs).length) := by
      clear hm h2
      generalize x :: xs = ys at h ⊢
      induction ys generalizing L i with
      | nil => rfl
      | cons y ys ih =>
        have := ih (L.set i y) (i + 1) (by simp at h ⊢; omega)
        show (setM (L.set i y) (i + 1) ys).drop (i + (ys.length + 1)) = _
        rw [show i + (ys.length + 1) = i + 1 + ys.length by omega, this]
        rw [List.drop_set, if_pos (by omega)]
        congr 1
        simp
        omega
    have h4 := (List.take_append_drop (i + (x :: xs).length) (setM L i (x :: xs)))
    rw [h2, h3] at h4
    rw [← h4]
    simp [List.map_append, List.map_take, List.map_drop]
theorem oe_storeM {t : TypeId} {x y : Operand} {b T i m : Nat} {k : IntKind} {L : List Int} {zs : List Int} {v : Value} {K : Value → World → Prop} (hs : sizeB P t = some m) (hx : EV n fr x (.pointer (some ⟨b, i, none⟩))) (hy : EV n fr y v)
    (hv : v.cells = (zs.map (Value.int k)).toArray) (hm : zs.length = m) (hb : w.heap[b]? = some (.cells (L.map (Value.int k)).toArray T)) (hi : i + m ≤ L.length)
    (h : ∀ w', St b w w' → w'.heap[b]? = some (.cells ((setM L i zs).map (Value.int k)).toArray T) → K undef w') : OE P n (.store t x y) ty fr w K :=
  oe_store hx hy hs hv (by simpa using hm) (by
    rw [List.all_eq_true]; intro u hu
    obtain ⟨z, _, rfl⟩ := List.mem_map.1 hu
    rfl) hb (stC_setM zs L i (by omega)) h
theorem set_inv {M xs zs : List Int} {i m : Nat} (hM : M.take i = xs.take i) (hl : i + m ≤ M.length) (hx : i + m ≤ xs.length) (hz : zs = (List.range m).map fun j => xs.getD (i + j) 0) : (setM M i zs).take (i + m) = xs.take (i + m) := by
  have hzl : zs.length = m := by rw [hz]; simp
  have h := setM_take2 zs M i (by omega)
  rw [hzl] at h
  rw [h, hM, List.take_add, hz]
  congr 1
  apply List.ext_getElem (by simp; omega)
  intro j h1 h2
  simp at h1 h2
  simp [List.getD_eq_getElem?_getD, show i + j < xs.length by omega]
theorem oe_makeM {t e : TypeId} {x y : Operand} {kl kc k : IntKind} {l m bytes : Nat} {j : Int} {z : Value} {K : Value → World → Prop} (ht : P.underlying t = some (.slice e))
    (hi : (P.info? e).map (fun i => (i.zero, i.size, i.bytes)) = some (some z, m, bytes)) (hz : z.cells = (List.replicate m (Value.int k 0)).toArray) (hm : 0 < m) (hx : EV n fr x (.int kl j)) (hy : EV n fr y (.int kc j)) (hj : j = (l : Nat)) (hb : bytes * l ≤ 281474976710656) (hl : l ≤ 281474976710656)
    (h : ∀ b w', New w b (.cells ((List.replicate (l * m) (0 : Int)).map (Value.int k)).toArray e) w' → K (.slice (some ⟨b, 0, none⟩) l l) w') : OE P n (.makeSlice t x y) ty fr w K := by
  subst hj
  cases hin : P.info? e with
  | none => simp [hin] at hi
  | some inf =>
    simp only [hin, Option.map_some, Option.some.injEq, Prod.mk.injEq] at hi
    obtain ⟨h1, h2, h3⟩ := hi
    subst h3
    have hb' : (inf.bytes : Int) * (l : Int) ≤ 281474976710656 := by
      have h : ((inf.bytes * l : Nat) : Int) ≤ 281474976710656 := by omega
      rwa [Int.natCast_mul] at h
    have hr := run_make (P := P) w t e inf z ht hin h1 kl kc l l (by omega) (Int.le_refl _) hb' (by omega)
    simp only [Int.toNat_natCast, h2, hz] at hr
    have hmc : madeCells (List.replicate m (Value.int k 0)).toArray (l * m) = ((List.replicate (l * m) (0 : Int)).map (Value.int k)).toArray := by
      unfold madeCells
      apply Array.ext_getElem?
      intro i
      by_cases hlt : i < l * m
      · have hmod : i % m < m := Nat.mod_lt _ hm
        simp [hlt, hmod]
      · simp [hlt, Nat.le_of_not_lt hlt]
    rw [hmc] at hr
    refine OE.of_run (fun _ _ _ _ => ?_) (h _ _ (new_alloc w _))
    unfold EV at hx hy
    simp [execOp, hx, hy, hr]
end
def flatFs (P : Program) (g : TypeId → Option (List TypeId)) : Nat → List Field → Option (List TypeId)
  | _, [] => some []
  | o, f :: fs => match g f.type with
    | some l => if f.offset = o ∧ P.cellsOf f.type = l.length then (flatFs P g (o + l.length) fs).map (l ++ ·) else none
    | none => none
def flatC (P : Program) : Nat → TypeId → Option (List TypeId)
  | 0, _ => none
  | d + 1, t => match P.underlying t with
    | some (.struct fs) => (flatFs P (flatC P d) 0 fs.toList).bind fun l => if P.cellsOf t = l.length then some l else none
    | some (.int _) => if P.cellsOf t = 1 then some [t] else none
    | some (.slice _) => if P.cellsOf t = 1 then some [t] else none
    | _ => none
def isIntK (P : Program) (k : IntKind) (u : TypeId) : Bool := match P.underlying u with
  | some (.int k') => decide (k' = k)
  | _ => false
theorem isIntK_spec {P : Program} {k : IntKind} {u : TypeId} (h : isIntK P k u = true) : P.underlying u = some (.int k) := by
  unfold isIntK at h
  split at h
  · rename_i k' hk; rw [hk]; simp at h; rw [h]
  · cases h
section
variable {H : Type} {enc : TypeId × Value → H} {P : Program} {w : World} {base : Nat} {spare : Nat → Bool} {held : Bool}
theorem flatFs_get {g : TypeId → Option (List TypeId)} {cs : List Value} {n : Nat} (hg : ∀ (t : TypeId) (us : List TypeId) (m : Nat) (fs' : List Nat) (cs' : List Value) (x : DataW H × List MemPlace), g t = some us → DataW.trod enc P w base spare held m t cs' = some x → cs'.length = us.length ∧ ∀ (j : Nat) (u : TypeId), us[j]? = some u → ∃ v m' y, cs'[j]? = some v ∧ DataW.trod enc P w base spare held m' u [v] = some y) :
    ∀ (fs : List Field) (o : Nat) (l : List TypeId), flatFs P g o fs = some l → (∀ f ∈ fs, ∃ y, DataW.trod enc P w base spare held n f.type ((cs.drop f.offset).take (P.cellsOf f.type)) = some y) →
      ∀ j u, l[j]? = some u → ∃ v m y, cs[o + j]? = some v ∧ DataW.trod enc P w base spare held m u [v] = some y := by
  intro fs
  induction fs with
  | nil => intro o l hl _ j u hj; simp [flatFs] at hl; subst hl; simp at hj
  | cons f fs ih =>
    intro o l hl hf j u hj
    simp only [flatFs] at hl
    cases hgf : g f.type with
    | none => rw [hgf] at hl; cases hl
    | some us =>
      rw [hgf] at hl
      simp only at hl
      by_cases hc : f.offset = o ∧ P.cellsOf f.type = us.length
      · rw [if_pos hc] at hl
        obtain ⟨l', hl', rfl⟩ := Option.map_eq_some_iff.1 hl
        obtain ⟨y, hy⟩ := hf f (List.mem_cons_self ..)
        obtain ⟨h1, h2⟩ := hg f.type us n [] _ y hgf hy
        by_cases hj' : j < us.length
        · rw [List.getElem?_append_left hj'] at hj
          obtain ⟨v, m, y', h3, h4⟩ := h2 j u hj
          refine ⟨v, m, y', ?_, h4⟩
          rw [List.getElem?_take_of_lt (by omega), List.getElem?_drop, hc.1] at h3
          exact h3
        · rw [List.getElem?_append_right (by omega)] at hj
          obtain ⟨v, m, y', h3, h4⟩ := ih (o + us.length) l' hl' (fun f' hf' => hf f' (List.mem_cons_of_mem _ hf')) (j - us.length) u hj
          refine ⟨v, m, y', ?_, h4⟩
          rw [← h3]; congr 1; omega
      · rw [if_neg hc] at hl; cases hl
theorem trod_flat : ∀ (d : Nat) (t : TypeId) (us : List TypeId) (m : Nat) (fs' : List Nat) (cs : List Value) (x : DataW H × List MemPlace), flatC P d t = some us → DataW.trod enc P w base spare held m t cs = some x →
    cs.length = us.length ∧ ∀ (j : Nat) (u : TypeId), us[j]? = some u → ∃ v m' y, cs[j]? = some v ∧ DataW.trod enc P w base spare held m' u [v] = some y := by
  intro d
  induction d with
  | zero => intro t us m _ cs x h; cases h
  | succ d ih =>
    intro t us m _ cs x h hx
    simp only [flatC] at h
    cases hu : P.underlying t with
    | none => rw [hu] at h; cases h
    | some td =>
      rw [hu] at h
      have one : ∀ (hh : (if P.cellsOf t = 1 then some [t] else none) = some us), (∃ v, cs = [v]) → cs.length = us.length ∧ ∀ (j : Nat) (u : TypeId), us[j]? = some u → ∃ v m' y, cs[j]? = some v ∧ DataW.trod enc P w base spare held m' u [v] = some y := by
        intro hh ⟨v, hv⟩
        by_cases hc : P.cellsOf t = 1
        · rw [if_pos hc] at hh
          obtain rfl : [t] = us := by simpa using hh
          subst hv
          refine ⟨rfl, fun j u hj => ?_⟩
          have hj0 : j = 0 := by
            have := (List.getElem?_eq_some_iff.1 hj).1
            simp at this; exact this
          subst hj0
          obtain rfl : t = u := by simpa using hj
          exact ⟨v, m, x, rfl, hx⟩
        · rw [if_neg hc] at hh; cases hh
      cases td with
      | struct fs =>
        simp only at h
        obtain ⟨l, hl, hif⟩ := Option.bind_eq_some_iff.1 h
        by_cases hc : P.cellsOf t = l.length
        · rw [if_pos hc] at hif
          obtain rfl : l = us := by simpa using hif
          obtain ⟨xs, n, _, _, hlen, hxl, hf⟩ := DataW.trod_struct hu hx
          refine ⟨by rw [hlen, hc], fun j u hj => ?_⟩
          have := flatFs_get (enc := enc) (w := w) (base := base) (spare := spare) (held := held) (cs := cs) (n := n) (g := flatC P d) (fun t us m fs' cs' x h1 h2 => ih t us m [] cs' x h1 h2) fs.toList 0 l hl (fun f hfm => by
            obtain ⟨i, hi, he⟩ := List.getElem_of_mem hfm
            have hi' : i < fs.size := by simpa using hi
            have h5 := hf i f (by rw [Array.getElem?_eq_getElem hi']; exact congrArg some (by simpa using he))
            exact ⟨xs[i]'(by omega), by rw [h5]; exact List.getElem?_eq_getElem _⟩) j u hj
          rwa [Nat.zero_add] at this
        · rw [if_neg hc] at hif; cases hif
      | int k =>
        refine one h ?_
        obtain ⟨x', h1, _⟩ := DataW.trod_int hu hx
        exact ⟨_, h1⟩
      | slice e =>
        refine one h ?_
        rcases DataW.trod_slice hu hx with ⟨h1, _⟩ | ⟨a, len, cap, elems, rest, n, _, h1, _⟩
        · exact ⟨_, h1⟩
        · exact ⟨_, h1⟩
      | _ => cases h
theorem open_ints {t e : TypeId} {fuel m d : Nat} {k : IntKind} {us : List TypeId} {v : Value} {x : DataW H × List MemPlace} (ht : P.underlying t = some (.slice e)) (hf : flatC P d e = some us) (hm : us.length = m) (hm0 : 0 < m) (hC : P.cellsOf e = m)
    (hk : us.all (fun u => isIntK P k u) = true) (h : DataW.trod enc P w base spare held fuel t [v] = some x) :
    ∃ (A : Option Addr) (l c : Nat) (L : List Int), v = .slice A l c ∧ l ≤ c ∧ c ≤ maxLen ∧ L.length = l * m ∧ RdI w k A L ∧ ∀ y ∈ L, k.has y := by
  rcases Go.Deep.open_slice ht h with ⟨h1, h2⟩ | ⟨a, len, cap, mm, nn, D, Pl, h1, hb, hl, hcap, hmm, hx, hi⟩
  · obtain rfl : v = .slice none 0 0 := by simpa using h1
    exact ⟨none, 0, 0, [], rfl, Nat.le_refl _, Nat.zero_le _, by simp, .inl rfl, fun y hy => by cases hy⟩
  · obtain rfl : v = .slice (some a) len cap := by simpa using h1
    have hlm : len ≤ mm := by rw [hmm]; split <;> omega
    have cell : ∀ i j, i < len → j < m → ∃ z : Int, w.cell? (a.add (i * m + j)) = some (.int k z) ∧ k.has z := by
      intro i j hil hjm
      obtain ⟨cs', hcs, htr⟩ := hi i (by omega)
      rw [hC] at hcs
      obtain ⟨h3, h4⟩ := trod_flat d e us nn [] cs' _ hf htr
      obtain ⟨_, hcl, hat⟩ := World.cells?_some hcs
      obtain ⟨u, hu⟩ : ∃ u, us[j]? = some u := ⟨us[j]'(by omega), List.getElem?_eq_getElem _⟩
      obtain ⟨v', m', y, h5, h6⟩ := h4 j u hu
      have hku : P.underlying u = some (.int k) := by
        exact isIntK_spec (List.all_eq_true.1 hk u (List.mem_of_getElem? hu))
      obtain ⟨z, h7, h8, h9⟩ := DataW.trod_int hku h6
      refine ⟨z, ?_, ?_⟩
      · have h10 := hat j (by omega)
        rw [h5] at h10
        obtain rfl : v' = .int k z := by simpa using h7
        rw [← Go.Deep.add_add]
        exact h10
      · simp only [Lit.wf, Bool.and_eq_true, decide_eq_true_eq] at h9
        exact h9
    refine ⟨some a, len, cap, (List.range (len * m)).map (fun i => match w.cell? (a.add i) with | some (.int _ z) => z | _ => 0), rfl, hl, hcap, by simp, ?_, ?_⟩
    · by_cases h0 : len * m = 0
      · left; rw [h0]; rfl
      · have hlp : 0 < len := Nat.pos_of_ne_zero fun hz => h0 (by rw [hz, Nat.zero_mul])
        obtain ⟨z0, hz0, _⟩ := cell 0 0 hlp hm0
        rw [Nat.zero_mul] at hz0
        have hz0' : w.cell? a = some (.int k z0) := hz0
        obtain ⟨g, off, spot⟩ := a
        unfold World.cell? at hz0'
        simp only at hz0'
        cases hg : w.heap[g]? with
        | none => rw [hg] at hz0'; cases hz0'
        | some ob =>
          rw [hg] at hz0'
          cases ob with
          | cells cs T fz =>
            simp only at hz0'
            cases spot with
            | some s => simp at hz0'
            | none =>
              refine .inr ⟨g, off, T, cs, fz, rfl, hg, fun i x hx => ?_⟩
              have hil : i < len * m := by have := (List.getElem?_eq_some_iff.1 hx).1; simpa using this
              obtain ⟨z, hz, _⟩ := cell (i / m) (i % m) ((Nat.div_lt_iff_lt_mul hm0).2 hil) (Nat.mod_lt _ hm0)
              rw [Nat.div_add_mod' i m] at hz
              simp only [List.getElem?_map, List.getElem?_range hil, Option.map_some, hz, Option.some.injEq] at hx
              subst hx
              rw [addr_addn, cell_of_row w g (off + i) cs T fz hg] at hz
              exact hz
          | _ => cases hz0'
    · intro y hy
      obtain ⟨i, hi', rfl⟩ := List.mem_map.1 hy
      have hil : i < len * m := by simpa using hi'
      obtain ⟨z, hz, hzk⟩ := cell (i / m) (i % m) ((Nat.div_lt_iff_lt_mul hm0).2 hil) (Nat.mod_lt _ hm0)
      rw [Nat.div_add_mod' i m] at hz
      rw [hz]; exact hzk
end
theorem ok_rowI {H : Type} {enc : TypeId × Value → H} {P : Program} {w : World} {r : Reach} {base : Nat} {spare : Nat → Bool} {held : Bool} {t e : TypeId} {m d : Nat} {k : IntKind} {us : List TypeId} {v : Value} {dd : DataW H} {pp : List MemPlace} (ht : P.underlying t = some (.slice e)) (hf : flatC P d e = some us) (hm : us.length = m) (hm0 : 0 < m) (hC : P.cellsOf e = m)
    (hk : us.all (fun u => isIntK P k u) = true) (ho : Value.okWide P w r base t v) (h : DataW.Trod enc P w 0 spare held t v dd pp) :
    ∃ (A : Option Addr) (l c : Nat) (L : List Int), v = .slice A l c ∧ l ≤ c ∧ c ≤ 9223372036854775807 ∧ L.length = l * m ∧ RdI w k A L ∧ ∀ y ∈ L, k.has y := by
  obtain ⟨fuel, hf'⟩ := h
  have hv : v.cells.toList = [v] := by
    unfold Value.okWide at ho
    rw [ht] at ho
    simp only at ho
    unfold Cell.okWide at ho
    rw [ht] at ho
    simp only at ho
    unfold Cell.ok at ho
    rw [ht] at ho
    cases v <;> simp only at ho <;> rfl
  rw [hv] at hf'
  obtain ⟨A, l, c, L, h1, h2, h3, h4⟩ := open_ints ht hf hm hm0 hC hk hf'
  exact ⟨A, l, c, L, h1, h2, by simpa [maxLen] using h3, h4⟩
end Go.Proofs.Ytdanhdbanfpghaa.Fw
set_option linter.unusedVariables false
set_option linter.unusedSimpArgs false
namespace Go.Proofs.Ytdanhdbanfpghaa.Fw
def spotOk (x y : Int) : Prop := (-1000000 ≤ x ∧ x ≤ 1000000) ∧ -1000000 ≤ y ∧ y ≤ 1000000
instance (x y : Int) : Decidable (spotOk x y) := by unfold spotOk; infer_instance
def spotLt (ax ay bx b_y : Int) : Prop := ax < bx ∨ (ax = bx ∧ ay < b_y)
instance (ax ay bx b_y : Int) : Decidable (spotLt ax ay bx b_y) := by unfold spotLt; infer_instance
def cmpS (ax ay bx b_y : Int) : Int := if ax = bx ∧ ay = b_y then 0 else if spotLt ax ay bx b_y then -1 else 1
theorem cmpS_neg {ax ay bx b_y : Int} : cmpS ax ay bx b_y < 0 ↔ spotLt ax ay bx b_y := by
  unfold cmpS
  by_cases h0 : ax = bx ∧ ay = b_y
  · rw [if_pos h0]; unfold spotLt; omega
  · rw [if_neg h0]
    by_cases h : spotLt ax ay bx b_y
    · rw [if_pos h]; simp [h]
    · rw [if_neg h]; simp [h]
def segOk (ax ay bx b_y : Int) : Prop := spotOk ax ay ∧ spotOk bx b_y ∧ spotLt ax ay bx b_y
instance (ax ay bx b_y : Int) : Decidable (segOk ax ay bx b_y) := by unfold segOk; infer_instance
end Go.Proofs.Ytdanhdbanfpghaa.Fw
set_option linter.unusedVariables false
set_option linter.unusedSimpArgs false
namespace Go.Proofs.Ytdanhdbanfpghaa.Fw
def szV (l : Nat) (n : Int) : Int := if n - l < 0 then -1 else n - l
theorem szV_rg {l : Nat} {n : Int} (h : ¬ szV l n < 0) : (l : Int) ≤ n := by
  unfold szV at h; split at h <;> omega
theorem take_eq {xs ys : List Int} {i m : Nat} (h : xs.take i = ys.take i) (hx : i + m ≤ xs.length) (hy : i + m ≤ ys.length) (hj : ∀ j, j < m → xs.getD (i + j) 0 = ys.getD (i + j) 0) : xs.take (i + m) = ys.take (i + m) := by
  rw [List.take_add, List.take_add, h]
  congr 1
  apply List.ext_getElem (by simp; omega)
  intro j h1 h2
  simp at h1 h2
  have := hj j (by omega)
  simpa [List.getD_eq_getElem?_getD, show i + j < xs.length by omega, show i + j < ys.length by omega] using this
theorem take_eq4 {xs ys : List Int} {i : Nat} (h : xs.take i = ys.take i) (hx : i + 4 ≤ xs.length) (hy : i + 4 ≤ ys.length) (h0 : xs.getD i 0 = ys.getD i 0) (h1 : xs.getD (i + 1) 0 = ys.getD (i + 1) 0) (h2 : xs.getD (i + 2) 0 = ys.getD (i + 2) 0) (h3 : xs.getD (i + 3) 0 = ys.getD (i + 3) 0) : xs.take (i + 4) = ys.take (i + 4) :=
  take_eq h hx hy fun j hj => by
    rcases (show j = 0 ∨ j = 1 ∨ j = 2 ∨ j = 3 by omega) with rfl | rfl | rfl | rfl
    · exact h0
    · exact h1
    · exact h2
    · exact h3
theorem take_all {xs ys : List Int} {i : Nat} (h : xs.take i = ys.take i) (hx : xs.length ≤ i) (hy : ys.length ≤ i) : xs = ys := by
  rwa [List.take_of_length_le hx, List.take_of_length_le hy] at h
abbrev segAt (xs : List Int) (i : Nat) : Prop := segOk (xs.getD (i * 4) 0) (xs.getD (i * 4 + 1) 0) (xs.getD (i * 4 + 2) 0) (xs.getD (i * 4 + 3) 0)
def segsOk (l : Nat) (xs : List Int) : Prop := ∀ k, k < l → segAt xs k
instance (l : Nat) (xs : List Int) : Decidable (segsOk l xs) := by unfold segsOk; infer_instance
def sgF (l : Nat) (xs : List Int) : Int := if 40 < l then 1 else if segsOk l xs then 0 else 2
theorem all_step {P : Nat → Prop} {i : Nat} (h : ∀ k, k < i → P k) (hi : P i) : ∀ k, k < i + 1 → P k := fun k hk => by
  rcases Nat.lt_or_ge k i with h1 | h1
  · exact h k h1
  · obtain rfl : k = i := by omega
    exact hi
end Go.Proofs.Ytdanhdbanfpghaa.Fw
set_option linter.unusedVariables false
set_option linter.unusedSimpArgs false
namespace Go.Proofs.Ytdanhdbanfpghaa.Fw
open Go Go.RowKit
structure Al where
  a : Nat
  s : Nat
  xi : Nat
  T : Nat
  cs : Array Value
def isSt (As : List Al) (i : Nat) : Bool := As.any fun e => Nat.beq e.s i
section
variable {P : Program} {f n : Nat} {R : Ending → World → Prop} {k : List Item} {fr : Fr} {w : World} {ops : Array Oper}
def Mem (ops : Array Oper) (w : World) (listed : Array Bool) (fr' : Fr) (w' : World) (e : Al) : Prop :=
  ∃ b, fr' (dstOf ops e.a) = .pointer (some ⟨b, 0, none⟩) ∧ w.heap.size ≤ b ∧ ((listed.getD e.s true = false ∧ w'.heap[b]? = some (.cells e.cs e.T)) ∨ (listed.getD e.s true = true ∧ w'.heap[b]? = some (.cells (fr' (dstOf ops e.xi)).cells e.T)))
structure ParInv2 (ops : Array Oper) (Ps : List Post) (As : List Al) (fr : Fr) (w : World) (listed : Array Bool) (fr' : Fr) (w' : World) : Prop where
  size : listed.size = ops.size
  ext : Ext w w'
  fixed : ∀ t, (∀ j o, ops[j]? = some o → o.dst = some t → listed.getD j true = false) → fr' t = fr t
  shut : ∀ j o, ops[j]? = some o → listed.getD j true = true → ∀ i, isDep o i = true → listed.getD i false = true
  done : ∀ j p, Ps[j]? = some p → isSt As j = false → listed.getD j true = true → p (fr' (dstOf ops j)) w'
  mem : ∀ e ∈ As, listed.getD e.a true = true → Mem ops w listed fr' w' e
  dist : ∀ e ∈ As, ∀ e' ∈ As, e.a ≠ e'.a → listed.getD e.a true = true → listed.getD e'.a true = true → fr' (dstOf ops e.a) ≠ fr' (dstOf ops e'.a)
end
end Go.Proofs.Ytdanhdbanfpghaa.Fw
