/- Walks and plain mathematics, packed by a program of this session: declarations that the rows reach. -/
import Derived.WalkKit
import Derived.OrdersHeld
import Derived.KernelRfl
import Derived.Laws.StructEq
import Derived.Lib.ItoaNum
set_option linter.unusedVariables false
namespace Go.Proofs.Ytmbpomcbdopgnaa.Fw
open Go
abbrev Fr := Nat → Value
def upd (fr : Fr) (d : Nat) (v : Value) : Fr := fun i => bif Nat.beq i d then v else fr i
def putO (fr : Fr) : Option Tmp → Value → Fr
  | some d, v => upd fr d v
  | none, _ => fr
def actOf (n : Nat) (fr : Fr) : Act := ⟨Array.ofFn (fun i : Fin n => fr i), []⟩
theorem actOf_put (n : Nat) (fr : Fr) (dst : Option Tmp) (v : Value) : (actOf n fr).put dst v = actOf n (putO fr dst v) := by
  cases dst with
  | none => rfl
  | some d =>
    simp only [Act.put, actOf, putO]
    congr 1
    apply Array.ext_getElem?
    intro i
    simp only [Array.getElem?_setIfInBounds, Array.getElem?_ofFn, Array.size_ofFn, upd]
    by_cases h : d = i
    · subst h; by_cases hl : d < n <;> simp [hl]
    · have : Nat.beq i d = false := by
        rw [← Bool.not_eq_true]; intro hb; exact h (Nat.eq_of_beq_eq_true hb).symm
      simp [h, this]
theorem actOf_getD (n : Nat) (fr : Fr) (t : Nat) (h : Nat.blt t n = true) : (actOf n fr).tmps.getD t undef = fr t := by
  have h' : t < n := by simpa using h
  simp [actOf, h']
def EV (n : Nat) (fr : Fr) (x : Operand) (v : Value) : Prop := (actOf n fr).eval x = v
theorem T {n : Nat} {fr : Fr} {t : Nat} {v : Value} (h : Nat.blt t n = true) (e : fr t = v) : EV n fr (.tmp t) v := by
  show (actOf n fr).tmps.getD t undef = v; rw [actOf_getD n fr t h]; exact e
theorem C {n : Nat} {fr : Fr} {v : Value} : EV n fr (.const v) v := rfl
def fr0 (args : List Value) : Fr := fun i => args.getD i undef
def RunK (P : Program) (f n : Nat) (R : Ending → World → Prop) (k : List Item) (fr : Fr) (w : World) : Prop :=
  ∀ (b : Frame) (cs : List Frame), b.fn = f → b.kind = .normal →
    ∃ e w' frm, R e w' ∧ Comes P (lone (b.at (actOf n fr) k) cs w) (lone frm cs w') e ∧ frm.fn = f ∧ frm.leaving P w' e
section
variable {P : Program} {f n : Nat} {R : Ending → World → Prop} {k : List Item} {fr : Fr} {w : World}
theorem RunK.step {k' : List Item} {fr' : Fr} {w' : World}
    (hs : ∀ (b : Frame) (cs : List Frame), Go.step P (lone (b.at (actOf n fr) k) cs w) = .next (lone (b.at (actOf n fr') k') cs w'))
    (h : RunK P f n R k' fr' w') : RunK P f n R k fr w := by
  intro b cs hb hk
  obtain ⟨e, w2, frm, hR, hc, hf, hl⟩ := h b cs hb hk
  exact ⟨e, w2, frm, hR, Comes.of_steps (.one (hs b cs)) hc, hf, hl⟩
theorem rk_seq {a c : Code} (h : RunK P f n R (.code a :: .code c :: k) fr w) : RunK P f n R (.code (.seq a c) :: k) fr w :=
  h.step fun _ _ => step_seq
theorem rk_block {id : Nat} {c : Code} (h : RunK P f n R (.code c :: .inBlock id :: k) fr w) : RunK P f n R (.code (.block id c) :: k) fr w :=
  h.step fun _ _ => step_block
theorem rk_inBlock {id : Nat} (h : RunK P f n R k fr w) : RunK P f n R (.inBlock id :: k) fr w :=
  h.step fun _ _ => step_inBlock
theorem rk_skip (h : RunK P f n R k fr w) : RunK P f n R (.code .skip :: k) fr w :=
  h.step fun _ _ => step_skip
theorem rk_exit {id : Nat} {k' : List Item} (he : exitTo id k = some k') (h : RunK P f n R k' fr w) : RunK P f n R (.code (.exit id) :: k) fr w :=
  h.step fun _ _ => step_exit he
theorem rk_inLoop {c : Code} (h : RunK P f n R (.code c :: .inLoop c :: k) fr w) : RunK P f n R (.inLoop c :: k) fr w :=
  h.step fun _ _ => step_inLoop
theorem rk_ct {c : Operand} {x y : Code} (hc : EV n fr c (.bool true)) (h : RunK P f n R (.code x :: k) fr w) : RunK P f n R (.code (.cond c x y) :: k) fr w :=
  RunK.step (fun b cs => by rw [step_cond (t := true) hc]; rfl) h
theorem rk_cf {c : Operand} {x y : Code} (hc : EV n fr c (.bool false)) (h : RunK P f n R (.code y :: k) fr w) : RunK P f n R (.code (.cond c x y) :: k) fr w :=
  RunK.step (fun b cs => by rw [step_cond (t := false) hc]; rfl) h
theorem rk_loop {body : Code} (I : Nat → Fr → World → Prop) (d0 : Nat) (h0 : I d0 fr w)
    (hr : ∀ d fr w, I d fr w → (∀ d' fr' w', d' < d → I d' fr' w' → RunK P f n R (.inLoop body :: k) fr' w') →
      RunK P f n R (.code body :: .inLoop body :: k) fr w) : RunK P f n R (.code (.loop body) :: k) fr w := by
  have key : ∀ d fr w, I d fr w → RunK P f n R (.code body :: .inLoop body :: k) fr w := by
    intro d
    induction d using Nat.strongRecOn with
    | _ d ih =>
      intro fr w hI
      exact hr d fr w hI fun d' fr' w' hd hI' => rk_inLoop (ih d' hd fr' w' hI')
  exact RunK.step (fun b cs => step_loop) (key d0 fr w h0)
theorem rk_unroll {body : Code} (h : RunK P f n R (.code body :: .inLoop body :: k) fr w) : RunK P f n R (.code (.loop body) :: k) fr w :=
  RunK.step (fun b cs => step_loop) h
theorem rk_join {c : Code} (J : Fr → World → Prop) (h2 : ∀ fr w, J fr w → RunK P f n R k fr w) (h1 : (∀ fr w, J fr w → RunK P f n R k fr w) → RunK P f n R (.code c :: k) fr w) :
    RunK P f n R (.code c :: k) fr w := h1 h2
theorem rk_ret {fn : Func} {v : Value} (hf : P.funcs[f]? = some fn) (hr : (results fn (actOf n fr).tmps).run P w = .ok v w) (hR : R (.returned v) w) :
    RunK P f n R (.code .ret :: k) fr w := by
  intro b cs hb hk
  refine ⟨.returned v, w, { b.at (actOf n fr) (.code .ret :: k) with mode := .returning }, hR, Steps.one step_ret, hb, rfl, rfl, hk, fn, ?_, hr⟩
  have : ({ b.at (actOf n fr) (.code .ret :: k) with mode := .returning } : Frame).fn = f := hb
  rw [this]; exact hf
theorem rk_end {fn : Func} {v : Value} (hf : P.funcs[f]? = some fn) (hr : (results fn (actOf n fr).tmps).run P w = .ok v w) (hR : R (.returned v) w) :
    RunK P f n R [] fr w := by
  intro b cs hb hk
  refine ⟨.returned v, w, { b.at (actOf n fr) [] with mode := .returning }, hR, Steps.one step_end, hb, rfl, rfl, hk, fn, ?_, hr⟩
  have : ({ b.at (actOf n fr) [] with mode := .returning } : Frame).fn = f := hb
  rw [this]; exact hf
theorem calls_run {fn : Func} {c : Code} {args : List Value} (hf : P.funcs[f]? = some fn) (hb : fn.body = some c) (hn : fn.ntmps = n) (ha : Nat.ble args.length n = true)
    (h : RunK P f n R [.code c] (fr0 args) w) : Calls P f args.toArray w R := by
  intro cs
  let b : Frame := { (default : Frame) with fn := f, kind := .normal }
  have henter : Frame.enter P f args.toArray .normal = b.at (actOf n (fr0 args)) [.code c] := by
    have ha := Nat.le_of_ble_eq_true ha
    have : (args.toArray ++ Array.replicate (fn.ntmps - args.toArray.size) undef) = (actOf n (fr0 args)).tmps := by
      subst hn
      apply Array.ext
      · simp [actOf]; omega
      · intro i h1 h2
        simp only [actOf, Array.getElem_ofFn, fr0, Array.getElem_append]
        split
        · rename_i hlt
          simp at hlt
          simp [List.getD_eq_getElem?_getD, List.getElem?_eq_getElem hlt]
        · rename_i hlt
          simp at hlt
          simp [List.getD_eq_getElem?_getD, List.getElem?_eq_none hlt]
    simp only [Frame.enter, Frame.at, hf, b, Option.map_some, Option.getD_some, Option.bind_some, hb, this]
    rfl
  rw [henter]
  exact h b cs rfl rfl
def rSem (n : Nat) (fr : Fr) : ResultVar → Sem Value
  | .tmp t => pure ((actOf n fr).tmps.getD t undef)
  | .cell a t => do loadVar t (← asAddr ((actOf n fr).tmps.getD a undef))
def RV (P : Program) (n : Nat) (fr : Fr) (w : World) (r : ResultVar) (v : Value) : Prop := (rSem n fr r).run P w = .ok v w
theorem rv_tmp {t : Nat} {v : Value} (h : Nat.blt t n = true) (e : fr t = v) : RV P n fr w (.tmp t) v := by
  show Result.ok ((actOf n fr).tmps.getD t undef) w = _; rw [actOf_getD n fr t h, e]
theorem results_eq (fn : Func) : results fn (actOf n fr).tmps = (do
    let vs ← fn.results.mapM (rSem n fr)
    pure (if h : vs.size = 1 then vs[0] else .tuple vs)) := by
  unfold results
  congr 1
theorem res1 {fn : Func} {r : ResultVar} {v : Value} (h : fn.results = #[r]) (h1 : RV P n fr w r v) : (results fn (actOf n fr).tmps).run P w = .ok v w := by
  unfold RV at h1
  rw [results_eq, h]
  simp [h1]
theorem res2 {fn : Func} {r s : ResultVar} {v u : Value} (h : fn.results = #[r, s]) (h1 : RV P n fr w r v) (h2 : RV P n fr w s u) :
    (results fn (actOf n fr).tmps).run P w = .ok (.tuple #[v, u]) w := by
  unfold RV at h1 h2
  rw [results_eq, h]
  simp [Sem.run_bind, h1, h2]
end
def NQ (P : Program) (f n : Nat) (R : Ending → World → Prop) (k : List Item) : Exit → Act → World → Prop :=
  fun e a w => e = .normal ∧ ∃ fr, a = actOf n fr ∧ RunK P f n R k fr w
def LW (P : Program) (f n : Nat) (R : Ending → World → Prop) (k : List Item) (ops : Array Oper) (l : List Oper) (fr : Fr) (w : World) : Prop :=
  wpList P ops (NQ P f n R k) l (actOf n fr) w
section
variable {P : Program} {f n : Nat} {R : Ending → World → Prop} {k : List Item} {fr : Fr} {w : World} {ops : Array Oper} {rest : List Oper}
theorem rk_code {c : Code} (h : c.wp P (NQ P f n R k) (actOf n fr) w) : RunK P f n R (.code c :: k) fr w := by
  intro b cs hb hk
  obtain ⟨e, a', w', ⟨he, fr', ha, hr⟩, harr⟩ := h b k cs
  subst he; subst ha
  obtain ⟨e2, w2, frm, hR, hc, hf, hl⟩ := hr b cs hb hk
  exact ⟨e2, w2, frm, hR, Comes.of_steps harr hc, hf, hl⟩
theorem rk_reg {id : Nat} {l : List Oper} (h : LW P f n R k l.toArray l fr w) : RunK P f n R (.code (.region id l.toArray false) :: k) fr w :=
  rk_code (wp_region_lit h)
theorem lw_nil (h : RunK P f n R k fr w) : LW P f n R k ops [] fr w := wpList_nil ⟨rfl, fr, rfl, h⟩
def DV (P : Program) (n : Nat) (op : Op) (ty : TypeId) (fr : Fr) (w : World) (v : Value) : Prop :=
  ∀ dst pos af g, (execOp (actOf n fr).eval ⟨dst, op, ty, pos, af, g⟩).run P w = .ok (.value v) w
def OE (P : Program) (n : Nat) (op : Op) (ty : TypeId) (fr : Fr) (w : World) (K : Value → World → Prop) : Prop :=
  ∀ dst pos af g (Kk : Act → World → Prop) (Q : Exit → Act → World → Prop), (∀ v w', K v w' → Kk (actOf n (putO fr dst v)) w') →
    (⟨dst, op, ty, pos, af, g⟩ : Oper).wp P (actOf n fr) w Kk Q
theorem OE.of_run {op : Op} {ty : TypeId} {K : Value → World → Prop} {v : Value} {w' : World}
    (h : ∀ dst pos af g, (execOp (actOf n fr).eval ⟨dst, op, ty, pos, af, g⟩).run P w = .ok (.value v) w') (hK : K v w') : OE P n op ty fr w K := by
  intro dst pos af g Kk Q hk
  unfold Oper.wp
  rw [h]
  show Kk ((actOf n fr).put dst v) w'
  rw [actOf_put]
  exact hk v w' hK
theorem OE.of_skip {op : Op} {ty : TypeId} {K : Value → World → Prop} {w' : World}
    (h : ∀ dst pos af g, (execOp (actOf n fr).eval ⟨dst, op, ty, pos, af, g⟩).run P w = .ok .skip w') (hK : K undef w') : OE P n op ty fr w K := by
  intro dst pos af g Kk Q hk
  unfold Oper.wp
  rw [h]
  show Kk ((actOf n fr).put dst undef) w'
  rw [actOf_put]
  exact hk undef w' hK
theorem DV.oe {op : Op} {ty : TypeId} {v : Value} {K : Value → World → Prop} (h : DV P n op ty fr w v) (hK : K v w) : OE P n op ty fr w K :=
  OE.of_run h hK
theorem OE.mono {op : Op} {ty : TypeId} {K K' : Value → World → Prop} (h : OE P n op ty fr w K) (hK : ∀ v w', K v w' → K' v w') : OE P n op ty fr w K' :=
  fun dst pos af g Kk Q hk => h dst pos af g Kk Q fun v w' hv => hk v w' (hK v w' hv)
theorem lw_v {dst : Option Tmp} {op : Op} {ty : TypeId} {pos : String} {af : Array Edge} (v : Value) (h : DV P n op ty fr w v)
    (hk : LW P f n R k ops rest (putO fr dst v) w) : LW P f n R k ops (⟨dst, op, ty, pos, af, none⟩ :: rest) fr w :=
  wpList_plain rfl fun Kk hK => by
    unfold Oper.wp
    rw [h]
    show Kk ((actOf n fr).put dst v) w
    rw [actOf_put]
    exact hK _ _ hk
theorem lw_e {dst : Option Tmp} {op : Op} {ty : TypeId} {pos : String} {af : Array Edge}
    (h : OE P n op ty fr w fun v w' => LW P f n R k ops rest (putO fr dst v) w') : LW P f n R k ops (⟨dst, op, ty, pos, af, none⟩ :: rest) fr w :=
  wpList_plain rfl fun Kk hK => h dst pos af none Kk _ fun v w' hv => hK _ _ hv
theorem yielded_act {g d : Nat} {v : Bool} (hd : (ops[g]?).bind (·.dst) = some d) (hn : Nat.blt d n = true) (hv : fr d = .bool v) :
    yielded ops (actOf n fr).tmps g = some v := by
  have h' : d < n := by simpa using hn
  unfold yielded
  rw [hd]
  simp [actOf, h', hv]
theorem lw_vy {dst : Option Tmp} {op : Op} {ty : TypeId} {pos : String} {af : Array Edge} {g d : Nat} {b : Bool} (v : Value)
    (hd : (ops[g]?).bind (·.dst) = some d) (hn : Nat.blt d n = true) (hv : fr d = .bool b) (h : DV P n op ty fr w v)
    (hk : LW P f n R k ops rest (putO fr dst v) w) : LW P f n R k ops (⟨dst, op, ty, pos, af, some (g, b)⟩ :: rest) fr w :=
  wpList_step fun Kk hK => by
    have hy := yielded_act (ops := ops) hd hn hv
    simp only [Region.wanted, hy, beq_self_eq_true, if_true]
    unfold Oper.wp
    rw [h]
    show Kk ((actOf n fr).put dst v) w
    rw [actOf_put]
    exact hK _ _ hk
theorem lw_ey {dst : Option Tmp} {op : Op} {ty : TypeId} {pos : String} {af : Array Edge} {g d : Nat} {b : Bool}
    (hd : (ops[g]?).bind (·.dst) = some d) (hn : Nat.blt d n = true) (hv : fr d = .bool b)
    (h : OE P n op ty fr w fun v w' => LW P f n R k ops rest (putO fr dst v) w') : LW P f n R k ops (⟨dst, op, ty, pos, af, some (g, b)⟩ :: rest) fr w :=
  wpList_step fun Kk hK => by
    have hy := yielded_act (ops := ops) hd hn hv
    simp only [Region.wanted, hy, beq_self_eq_true, if_true]
    exact h dst pos af _ Kk _ fun v w' hv => hK _ _ hv
theorem lw_no {dst : Option Tmp} {op : Op} {ty : TypeId} {pos : String} {af : Array Edge} {g d : Nat} {b : Bool}
    (hd : (ops[g]?).bind (·.dst) = some d) (hn : Nat.blt d n = true) (hv : fr d = .bool (!b))
    (hk : LW P f n R k ops rest (putO fr dst undef) w) : LW P f n R k ops (⟨dst, op, ty, pos, af, some (g, b)⟩ :: rest) fr w :=
  wpList_step fun Kk hK => by
    have hy := yielded_act (ops := ops) hd hn hv
    have : (some (!b) == some b) = false := by cases b <;> rfl
    simp only [Region.wanted, hy, this, Bool.false_eq_true, if_false]
    rw [actOf_put]
    exact hK _ _ hk
theorem yielded_undef {g d : Nat} (hd : (ops[g]?).bind (·.dst) = some d) (hv : fr d = undef) :
    yielded ops (actOf n fr).tmps g = none := by
  unfold yielded
  rw [hd]
  by_cases h' : d < n
  · simp [actOf, h', hv, undef]
  · simp [actOf, h']
theorem lw_nou {dst : Option Tmp} {op : Op} {ty : TypeId} {pos : String} {af : Array Edge} {g d : Nat} {b : Bool}
    (hd : (ops[g]?).bind (·.dst) = some d) (hv : fr d = undef)
    (hk : LW P f n R k ops rest (putO fr dst undef) w) : LW P f n R k ops (⟨dst, op, ty, pos, af, some (g, b)⟩ :: rest) fr w :=
  wpList_step fun Kk hK => by
    have hy := yielded_undef (n := n) (ops := ops) hd hv
    have : ((none : Option Bool) == some b) = false := by cases b <;> rfl
    simp only [Region.wanted, hy, this, Bool.false_eq_true, if_false]
    rw [actOf_put]
    exact hK _ _ hk
end
section
variable {P : Program} {ops : Array Oper} {Q : Exit → Act → World → Prop} {md : Region.Mode} {S : World → Prop} {fin : List Nat}
def wpAnyJ (P : Program) (md : Region.Mode) (ops : Array Oper) (Q : Exit → Act → World → Prop) (S : World → Prop) (fin : List Nat) : Nat → Array Bool → Act → World → Prop
  | 0, listed, a, w => Region.ready md ops listed = [] ∧ Q .normal a w
  | fuel + 1, listed, a, w =>
    (Region.ready md ops listed = [] → Q .normal a w) ∧
    ∀ i ∈ Region.ready md ops listed, wpOp P ops Q i (fun a' w' => (i ∈ fin ∨ S w') ∧ wpAnyJ P md ops Q S fin fuel (listed.setIfInBounds i true) a' w') a w
theorem wpAny_of_J : ∀ (fuel : Nat) (listed : Array Bool) (a : Act) (w : World), wpAnyJ P md ops Q S fin fuel listed a w → wpAny P md ops Q fuel listed a w
  | 0, _, _, _, h => h
  | fuel + 1, _, _, _, h => ⟨h.1, fun i hi => wpOp_mono (fun a' w' h' => wpAny_of_J fuel _ a' w' h'.2) (h.2 i hi)⟩
def finOk (md : Region.Mode) (ops : Array Oper) (fin : List Nat) (i : Nat) : Bool :=
  fin.all fun j => j == i || ((ops[j]?).map fun o => o.after.any fun e => Region.binds md e && e.on == i).getD true
theorem wpAnyJ_first {G : World → Prop} {i : Nat} {oi : Oper} {v : Value} (hi : ops[i]? = some oi) (hsel : ∀ (j : Nat) (o : Oper) cs b, ops[j]? = some o → o.op ≠ .select cs b)
    (hQ : ∀ c a w, Q (.panic c) (a.put oi.dst v) w → Q (.panic c) a w)
    (hF : i ∈ fin ∨ ∀ j oj, ops[j]? = some oj → j ≠ i → (∀ e ∈ oj.after, Region.binds md e = true → e.on ≠ i) → j ∉ fin)
    (hG : ∀ j oj w, ops[j]? = some oj → j ≠ i → (∀ e ∈ oj.after, Region.binds md e = true → e.on ≠ i) → (j ∈ fin ∨ S w) → G w) :
    ∀ (fuel : Nat) (listed : Array Bool) (a : Act) (w : World),
      (∀ j oj, ops[j]? = some oj → j ≠ i → listed.getD j true = false → (∀ e ∈ oj.after, Region.binds md e = true → e.on ≠ i) → oi.apart ops oj = true) →
      i ∈ Region.ready md ops listed → YieldsIf P ops G oi v a → G w → (i ∈ fin ∨ S w) →
      wpAnyJ P md ops Q S fin fuel (listed.setIfInBounds i true) (a.put oi.dst v) w → wpAnyJ P md ops Q S fin (fuel + 1) listed a w := by
  intro fuel
  induction fuel with
  | zero =>
    intro listed a w _ hr hy hGw hSw H
    refine ⟨fun h => (by rw [h] at hr; cases hr), fun j hj => ?_⟩
    by_cases hji : j = i
    · subst hji; exact hy.wpOp hi hGw ⟨hSw, H⟩
    · have := ready_mono hj hji
      rw [H.1] at this
      cases this
  | succ fuel ih =>
    intro listed a w hfree hr hy hGw hSw H
    refine ⟨fun h => (by rw [h] at hr; cases hr), fun j hj => ?_⟩
    by_cases hji : j = i
    · subst hji; exact hy.wpOp hi hGw ⟨hSw, H⟩
    · have h1 := H.2 j (ready_mono hj hji)
      obtain ⟨hjun, oj, hoj, hall⟩ := mem_ready.1 hj
      have hnot : ∀ e ∈ oj.after, Region.binds md e = true → e.on ≠ i := fun e he hb heq => by
        have h1 := hall e he hb
        have h0 := (mem_ready.1 hr).1
        rw [heq] at h1
        rcases Nat.lt_or_ge i listed.size with h' | h'
        · simp [h'] at h0 h1; rw [h0] at h1; cases h1
        · simp [Array.getElem?_eq_none h'] at h1
      have h2 := wpOp_putIf hoj (hfree j oj hoj hji hjun hnot) (fun cs b => hsel i oi cs b hi) (fun cs b => hsel j oj cs b hoj) hQ hy h1
      have hfree' : ∀ k ok, ops[k]? = some ok → k ≠ i → (listed.setIfInBounds j true).getD k true = false →
          (∀ e ∈ ok.after, Region.binds md e = true → e.on ≠ i) → oi.apart ops ok = true := fun k ok hk hki hun hno => by
        refine hfree k ok hk hki ?_ hno
        by_cases hjk : j = k
        · subst hjk; exact hjun
        · rw [getD_set_ne true hjk] at hun; exact hun
      refine wpOp_mono (fun a' w' h3 => ⟨h3.2.1, ih (listed.setIfInBounds j true) a' w' hfree' (ready_mono hr (Ne.symm hji)) h3.1 (hG j oj w' hoj hji hnot h3.2.1) ?_ ?_⟩) h2
      · rcases hF with h5 | h5
        · exact .inl h5
        · exact .inr (h3.2.1.resolve_left (h5 j oj hoj hji hnot))
      · rw [Array.setIfInBounds_comm _ _ hji]
        exact h3.2.2
theorem finOk_spec {i : Nat} (h : finOk md ops fin i = true) {j : Nat} {oj : Oper} (hj : ops[j]? = some oj) (hji : j ≠ i)
    (hno : ∀ e ∈ oj.after, Region.binds md e = true → e.on ≠ i) : j ∉ fin := by
  intro hm
  have h1 := List.all_eq_true.1 h j hm
  simp only [Bool.or_eq_true, beq_iff_eq, hji, false_or, hj, Option.map_some, Option.getD_some, Array.any_eq_true, Bool.and_eq_true] at h1
  obtain ⟨x, hx, hb, hi⟩ := h1
  exact hno _ (Array.getElem_mem hx) hb hi
theorem wpAnyJ_load {i : Nat} {oi : Oper} {v : Value} {fuel : Nat} {listed : Array Bool} {a : Act} {w : World} (hi : ops[i]? = some oi)
    (hs : Region.noSelect ops = true) (hf : Region.free md ops listed i = true) (hr : (Region.ready md ops listed).contains i = true) (hfin : finOk md ops fin i = true)
    (hQ : ∀ c a w, Q (.panic c) (a.put oi.dst v) w → Q (.panic c) a w) (hy : YieldsIf P ops S oi v a) (hS : S w)
    (h : wpAnyJ P md ops Q S fin fuel (listed.setIfInBounds i true) (a.put oi.dst v) w) : wpAnyJ P md ops Q S fin (fuel + 1) listed a w :=
  wpAnyJ_first (G := S) hi (Region.noSelect_spec hs) hQ (.inr fun j oj hj hji hno => finOk_spec hfin hj hji hno)
    (fun j oj w hj hji hno hor => hor.resolve_left (finOk_spec hfin hj hji hno)) fuel listed a w (Region.free_spec hi hf) (by simpa using hr) hy hS (.inr hS) h
theorem wpAnyJ_pure {i : Nat} {oi : Oper} {v : Value} {fuel : Nat} {listed : Array Bool} {a : Act} {w : World} (hi : ops[i]? = some oi)
    (hs : Region.noSelect ops = true) (hf : Region.free md ops listed i = true) (hr : (Region.ready md ops listed).contains i = true) (hfin : finOk md ops fin i = true)
    (hQ : ∀ c a w, Q (.panic c) (a.put oi.dst v) w → Q (.panic c) a w) (hy : YieldsIf P ops (fun _ => True) oi v a) (hS : S w)
    (h : wpAnyJ P md ops Q S fin fuel (listed.setIfInBounds i true) (a.put oi.dst v) w) : wpAnyJ P md ops Q S fin (fuel + 1) listed a w :=
  wpAnyJ_first (G := fun _ => True) hi (Region.noSelect_spec hs) hQ (.inr fun j oj hj hji hno => finOk_spec hfin hj hji hno)
    (fun _ _ _ _ _ _ _ => trivial) fuel listed a w (Region.free_spec hi hf) (by simpa using hr) hy trivial (.inr hS) h
theorem wpAnyJ_last {i : Nat} {oi : Oper} {v : Value} {fuel : Nat} {listed : Array Bool} {a : Act} {w : World} (hi : ops[i]? = some oi)
    (hs : Region.noSelect ops = true) (hf : Region.free md ops listed i = true) (hr : (Region.ready md ops listed).contains i = true) (hfin : fin.contains i = true)
    (hQ : ∀ c a w, Q (.panic c) (a.put oi.dst v) w → Q (.panic c) a w) (hy : YieldsIf P ops (fun _ => True) oi v a)
    (h : wpAnyJ P md ops Q S fin fuel (listed.setIfInBounds i true) (a.put oi.dst v) w) : wpAnyJ P md ops Q S fin (fuel + 1) listed a w :=
  wpAnyJ_first (G := fun _ => True) hi (Region.noSelect_spec hs) hQ (.inl (by simpa using hfin))
    (fun _ _ _ _ _ _ _ => trivial) fuel listed a w (Region.free_spec hi hf) (by simpa using hr) hy trivial (.inl (by simpa using hfin)) h
theorem wpAnyJ_all {rs : List Nat} {fuel : Nat} {listed : Array Bool} {a : Act} {w : World} (hr : Region.ready md ops listed = rs) (hne : rs ≠ [])
    (h : ∀ i ∈ rs, wpOp P ops Q i (fun a' w' => (i ∈ fin ∨ S w') ∧ wpAnyJ P md ops Q S fin fuel (listed.setIfInBounds i true) a' w') a w) : wpAnyJ P md ops Q S fin (fuel + 1) listed a w :=
  ⟨fun h0 => absurd (hr ▸ h0) hne, hr ▸ h⟩
theorem wpAnyJ_done {listed : Array Bool} {a : Act} {w : World} (hr : Region.ready md ops listed = []) (h : Q .normal a w) :
    ∀ fuel, wpAnyJ P md ops Q S fin fuel listed a w
  | 0 => ⟨hr, h⟩
  | _ + 1 => ⟨fun _ => h, by rw [hr]; simp⟩
end
def AW (P : Program) (f n : Nat) (R : Ending → World → Prop) (k : List Item) (ops : Array Oper) (S : World → Prop) (fin : List Nat) (fuel : Nat) (listed : Array Bool) (fr : Fr) (w : World) : Prop :=
  wpAnyJ P .any ops (NQ P f n R k) S fin fuel listed (actOf n fr) w
section
variable {P : Program} {f n : Nat} {R : Ending → World → Prop} {k : List Item} {fr : Fr} {w : World} {ops : Array Oper} {S : World → Prop} {fin : List Nat} {fuel : Nat} {listed : Array Bool}
def Drew (w w' : World) : Prop := w' = { w with drawn := w.drawn + 1 }
theorem rk_any {id : Nat} (S : World → Prop) (fin : List Nat) (hm : P.follows .mixedOrders = true)
    (h : ∀ w', Drew w w' → AW P f n R k ops S fin ops.size (Array.replicate ops.size false) fr w') : RunK P f n R (.code (.region id ops true) :: k) fr w :=
  rk_code (wp_region_any hm (wpAny_of_J _ _ _ _ (h _ rfl)))
theorem nq_panic {c : List PanicEntry} {a : Act} : NQ P f n R k (.panic c) a w → False := fun h => by cases h.1
inductive GY (ops : Array Oper) (n : Nat) (fr : Fr) : Option (Nat × Bool) → Prop
  | none : GY ops n fr none
  | yes {g d : Nat} {b : Bool} (hd : (ops[g]?).bind (·.dst) = some d) (hn : Nat.blt d n = true) (hv : fr d = .bool b) : GY ops n fr (some (g, b))
theorem GY.wanted {dst : Option Tmp} {op : Op} {ty : TypeId} {pos : String} {af : Array Edge} {g : Option (Nat × Bool)} (h : GY ops n fr g) :
    Region.wanted ⟨dst, op, ty, pos, af, g⟩ (yielded ops (actOf n fr).tmps) = true := by
  cases h with
  | none => rfl
  | yes hd hn hv =>
    have hy := yielded_act (ops := ops) hd hn hv
    simp [Region.wanted, hy]
theorem aw_load (i : Nat) {dst : Option Tmp} {op : Op} {ty : TypeId} {pos : String} {af : Array Edge} {g : Option (Nat × Bool)} (v : Value) (hi : ops[i]? = some ⟨dst, op, ty, pos, af, g⟩)
    (hc : (Region.noSelect ops && Region.free .any ops listed i && (Region.ready .any ops listed).contains i && finOk .any ops fin i) = true)
    (hg : GY ops n fr g) (hS : S w) (h : ∀ w, S w → DV P n op ty fr w v)
    (hk : AW P f n R k ops S fin fuel (listed.setIfInBounds i true) (putO fr dst v) w) : AW P f n R k ops S fin (fuel + 1) listed fr w := by
  simp only [Bool.and_eq_true] at hc
  obtain ⟨⟨⟨h1, h2⟩, h3⟩, h4⟩ := hc
  refine wpAnyJ_load (v := v) hi h1 h2 h3 h4 (fun c a w hq => (nq_panic hq).elim) (.inl ⟨hg.wanted, fun w hw => h w hw _ _ _ _⟩) hS ?_
  show wpAnyJ _ _ _ _ _ _ _ _ ((actOf n fr).put dst v) w
  rw [actOf_put]
  exact hk
theorem aw_pure (i : Nat) {dst : Option Tmp} {op : Op} {ty : TypeId} {pos : String} {af : Array Edge} {g : Option (Nat × Bool)} (v : Value) (hi : ops[i]? = some ⟨dst, op, ty, pos, af, g⟩)
    (hc : (Region.noSelect ops && Region.free .any ops listed i && (Region.ready .any ops listed).contains i && finOk .any ops fin i) = true)
    (hg : GY ops n fr g) (hS : S w) (h : ∀ w, DV P n op ty fr w v)
    (hk : AW P f n R k ops S fin fuel (listed.setIfInBounds i true) (putO fr dst v) w) : AW P f n R k ops S fin (fuel + 1) listed fr w := by
  simp only [Bool.and_eq_true] at hc
  obtain ⟨⟨⟨h1, h2⟩, h3⟩, h4⟩ := hc
  refine wpAnyJ_pure (v := v) hi h1 h2 h3 h4 (fun c a w hq => (nq_panic hq).elim) (.inl ⟨hg.wanted, fun w hw => h w _ _ _ _⟩) hS ?_
  show wpAnyJ _ _ _ _ _ _ _ _ ((actOf n fr).put dst v) w
  rw [actOf_put]
  exact hk
theorem aw_last (i : Nat) {dst : Option Tmp} {op : Op} {ty : TypeId} {pos : String} {af : Array Edge} {g : Option (Nat × Bool)} (v : Value) (hi : ops[i]? = some ⟨dst, op, ty, pos, af, g⟩)
    (hc : (Region.noSelect ops && Region.free .any ops listed i && (Region.ready .any ops listed).contains i && fin.contains i) = true)
    (hg : GY ops n fr g) (h : ∀ w, DV P n op ty fr w v)
    (hk : AW P f n R k ops S fin fuel (listed.setIfInBounds i true) (putO fr dst v) w) : AW P f n R k ops S fin (fuel + 1) listed fr w := by
  simp only [Bool.and_eq_true] at hc
  obtain ⟨⟨⟨h1, h2⟩, h3⟩, h4⟩ := hc
  refine wpAnyJ_last (v := v) hi h1 h2 h3 h4 (fun c a w hq => (nq_panic hq).elim) (.inl ⟨hg.wanted, fun w hw => h w _ _ _ _⟩) ?_
  show wpAnyJ _ _ _ _ _ _ _ _ ((actOf n fr).put dst v) w
  rw [actOf_put]
  exact hk
theorem aw_no (i : Nat) {dst : Option Tmp} {op : Op} {ty : TypeId} {pos : String} {af : Array Edge} {g d : Nat} {b : Bool} (hi : ops[i]? = some ⟨dst, op, ty, pos, af, some (g, b)⟩)
    (hc : (Region.noSelect ops && Region.free .any ops listed i && (Region.ready .any ops listed).contains i && finOk .any ops fin i) = true)
    (hd : (ops[g]?).bind (·.dst) = some d) (hn : Nat.blt d n = true) (hv : fr d = .bool (!b)) (hS : S w)
    (hk : AW P f n R k ops S fin fuel (listed.setIfInBounds i true) (putO fr dst undef) w) : AW P f n R k ops S fin (fuel + 1) listed fr w := by
  simp only [Bool.and_eq_true] at hc
  obtain ⟨⟨⟨h1, h2⟩, h3⟩, h4⟩ := hc
  have hy := yielded_act (ops := ops) hd hn hv
  have : (some (!b) == some b) = false := by cases b <;> rfl
  refine wpAnyJ_pure (v := undef) hi h1 h2 h3 h4 (fun c a w hq => (nq_panic hq).elim) (.inr ⟨by simp only [Region.wanted, hy, this], rfl⟩) hS ?_
  show wpAnyJ _ _ _ _ _ _ _ _ ((actOf n fr).put dst undef) w
  rw [actOf_put]
  exact hk
theorem wpOp_oe (i : Nat) {dst : Option Tmp} {op : Op} {ty : TypeId} {pos : String} {af : Array Edge} {g : Option (Nat × Bool)} (hi : ops[i]? = some ⟨dst, op, ty, pos, af, g⟩)
    (hg : GY ops n fr g) {K : Fr → World → Prop} {Kk : Act → World → Prop} {Q : Exit → Act → World → Prop} (hKk : ∀ fr w, K fr w → Kk (actOf n fr) w) (h : OE P n op ty fr w fun v w' => K (putO fr dst v) w') :
    wpOp P ops Q i Kk (actOf n fr) w := by
  unfold wpOp
  simp only [hi, hg.wanted, if_true]
  exact .inl (h _ _ _ _ _ _ fun v w' hv => hKk _ _ hv)
theorem aw_one (i : Nat) {dst : Option Tmp} {op : Op} {ty : TypeId} {pos : String} {af : Array Edge} {g : Option (Nat × Bool)} (hi : ops[i]? = some ⟨dst, op, ty, pos, af, g⟩)
    (hr : Region.ready .any ops listed = [i]) (hg : GY ops n fr g)
    (h : OE P n op ty fr w fun v w' => (fin.contains i = true ∨ S w') ∧ AW P f n R k ops S fin fuel (listed.setIfInBounds i true) (putO fr dst v) w') : AW P f n R k ops S fin (fuel + 1) listed fr w := by
  refine wpAnyJ_all (rs := [i]) hr (by simp) ?_
  intro j hj
  obtain rfl : j = i := by simpa using hj
  exact wpOp_oe j hi hg (K := fun fr w => (fin.contains j = true ∨ S w) ∧ AW P f n R k ops S fin fuel (listed.setIfInBounds j true) fr w)
    (fun fr w hh => ⟨hh.1.imp (by simp) id, hh.2⟩) h
theorem aw_two (i j : Nat) {dst dst2 : Option Tmp} {op op2 : Op} {ty ty2 : TypeId} {pos pos2 : String} {af af2 : Array Edge} {g g2 : Option (Nat × Bool)}
    (hi : ops[i]? = some ⟨dst, op, ty, pos, af, g⟩) (hj : ops[j]? = some ⟨dst2, op2, ty2, pos2, af2, g2⟩)
    (hr : Region.ready .any ops listed = [i, j]) (hg : GY ops n fr g) (hg2 : GY ops n fr g2)
    (h : OE P n op ty fr w fun v w' => (fin.contains i = true ∨ S w') ∧ AW P f n R k ops S fin fuel (listed.setIfInBounds i true) (putO fr dst v) w')
    (h2 : OE P n op2 ty2 fr w fun v w' => (fin.contains j = true ∨ S w') ∧ AW P f n R k ops S fin fuel (listed.setIfInBounds j true) (putO fr dst2 v) w') : AW P f n R k ops S fin (fuel + 1) listed fr w := by
  refine wpAnyJ_all (rs := [i, j]) hr (by simp) ?_
  intro x hx
  have hx' : x = i ∨ x = j := by simpa using hx
  rcases hx' with rfl | rfl
  · exact wpOp_oe x hi hg (K := fun fr w => (fin.contains x = true ∨ S w) ∧ AW P f n R k ops S fin fuel (listed.setIfInBounds x true) fr w)
      (fun fr w hh => ⟨hh.1.imp (by simp) id, hh.2⟩) h
  · exact wpOp_oe x hj hg2 (K := fun fr w => (fin.contains x = true ∨ S w) ∧ AW P f n R k ops S fin fuel (listed.setIfInBounds x true) fr w)
      (fun fr w hh => ⟨hh.1.imp (by simp) id, hh.2⟩) h2
theorem aw_done (hr : Region.ready .any ops listed = []) (h : RunK P f n R k fr w) : AW P f n R k ops S fin fuel listed fr w :=
  wpAnyJ_done hr ⟨rfl, fr, rfl, h⟩ _
end
end Go.Proofs.Ytmbpomcbdopgnaa.Fw
set_option linter.unusedSimpArgs false
namespace Go.Proofs.Ytmbpomcbdopgnaa.Fw
open Go Go.RowKit
abbrev Ext (w w' : World) : Prop := Below w.heap.size w w'
structure St (b : Nat) (w w' : World) : Prop where
  os : w'.os = w.os
  tape : w'.tape = w.tape
  output : w'.output = w.output
  size : w'.heap.size = w.heap.size
  block : ∀ k, k ≠ b → w'.heap[k]? = w.heap[k]?
structure New (w : World) (b : Nat) (o : Obj) (w' : World) : Prop where
  eq : b = w.heap.size
  ext : Ext w w'
  blk : w'.heap[b]? = some o
  size : w'.heap.size = w.heap.size + 1
theorem lt_of_blk {w : World} {b : Nat} {o : Obj} (h : w.heap[b]? = some o) : b < w.heap.size := (Array.getElem?_eq_some_iff.1 h).1
theorem Ext.blk {w w' : World} (e : Ext w w') {b : Nat} {o : Obj} (h : w.heap[b]? = some o) : w'.heap[b]? = some o := (e.block b (lt_of_blk h)).trans h
theorem St.blk {b : Nat} {w w' : World} (e : St b w w') {b' : Nat} {o : Obj} (h : w.heap[b']? = some o) (hne : b' ≠ b) : w'.heap[b']? = some o := (e.block b' hne).trans h
theorem below_ext {N : Nat} {w0 w w' : World} (h : Below N w0 w) (hN : N ≤ w.heap.size) (e : Ext w w') : Below N w0 w' := h.trans (e.mono hN)
theorem below_st {N : Nat} {w0 w w' : World} {b : Nat} (h : Below N w0 w) (hb : N ≤ b) (e : St b w w') : Below N w0 w' :=
  h.trans ⟨e.os, e.tape, e.output, Nat.le_of_eq e.size.symm, fun k hk => e.block k (Nat.ne_of_lt (Nat.lt_of_lt_of_le hk hb))⟩
theorem Drew.ext {w w' : World} (h : Drew w w') : Ext w w' := by
  subst h; exact ⟨rfl, rfl, rfl, Nat.le_refl _, fun _ _ => rfl⟩
theorem new_alloc (w : World) (o : Obj) : New w w.heap.size o (w.alloc o) :=
  ⟨rfl, (Below.refl _ _).alloc (Nat.le_refl _) o, heap_alloc_new w o, by simp⟩
section
variable {P : Program} {n : Nat} {fr : Fr} {w : World} {ty : TypeId}
theorem dv_move {x : Operand} {v : Value} (h : EV n fr x v) : DV P n (.move x) ty fr w v := fun _ _ _ _ => by
  unfold EV at h; simp [execOp, h]
theorem dv_assign {x : Operand} {v : Value} (h : EV n fr x v) : DV P n (.assign x) ty fr w v := fun _ _ _ _ => by
  unfold EV at h; simp [execOp, h]
theorem dv_pick_t {c x y : Operand} {v : Value} (hc : EV n fr c (.bool true)) (hx : EV n fr x v) : DV P n (.pick c x y) ty fr w v := fun _ _ _ _ => by
  unfold EV at hc hx
  simp [execOp, hc, hx, asBool]
theorem dv_pick_f {c x y : Operand} {v : Value} (hc : EV n fr c (.bool false)) (hy : EV n fr y v) : DV P n (.pick c x y) ty fr w v := fun _ _ _ _ => by
  unfold EV at hc hy
  simp [execOp, hc, hy, asBool]
theorem dv_extract {x : Operand} {vs : Array Value} {i : Nat} {v : Value} (hx : EV n fr x (.tuple vs)) (hi : vs[i]? = some v) : DV P n (.extract x i) ty fr w v := fun _ _ _ _ => by
  unfold EV at hx
  simp [execOp, hx, Instr.extract, hi]
theorem dv_not {x : Operand} {b : Bool} {t : TypeId} (hx : EV n fr x (.bool b)) : DV P n (.unOp .not t x) ty fr w (.bool (!b)) := fun _ _ _ _ => by
  unfold EV at hx
  simp [execOp, hx, Op.unary]
theorem dv_notd {x : Operand} {p : Prop} [Decidable p] {t : TypeId} (hx : EV n fr x (.bool (decide p))) : DV P n (.unOp .not t x) ty fr w (.bool (decide (¬ p))) := fun _ _ _ _ => by
  unfold EV at hx
  simp [execOp, hx, Op.unary]
theorem dv_neg {x : Operand} {k : IntKind} {a z : Int} {t : TypeId} (hx : EV n fr x (.int k a)) (hz : k.wrap (0 - a) = z) : DV P n (.unOp .neg t x) ty fr w (.int k z) := fun _ _ _ _ => by
  unfold EV at hx
  subst hz
  simp [execOp, hx, Op.unary, Op.intArith]
theorem dv_add {x y : Operand} {k : IntKind} {a b z : Int} {t t' : TypeId} (hx : EV n fr x (.int k a)) (hy : EV n fr y (.int k b)) (hz : k.wrap (a + b) = z) : DV P n (.binOp .add t x y t') ty fr w (.int k z) := fun _ _ _ _ => by
  unfold EV at hx hy; subst hz
  simp [execOp, hx, hy, eqGuard, binOp, Op.intArith]
theorem dv_sub {x y : Operand} {k : IntKind} {a b z : Int} {t t' : TypeId} (hx : EV n fr x (.int k a)) (hy : EV n fr y (.int k b)) (hz : k.wrap (a - b) = z) : DV P n (.binOp .sub t x y t') ty fr w (.int k z) := fun _ _ _ _ => by
  unfold EV at hx hy; subst hz
  simp [execOp, hx, hy, eqGuard, binOp, Op.intArith]
theorem dv_mul {x y : Operand} {k : IntKind} {a b z : Int} {t t' : TypeId} (hx : EV n fr x (.int k a)) (hy : EV n fr y (.int k b)) (hz : k.wrap (a * b) = z) : DV P n (.binOp .mul t x y t') ty fr w (.int k z) := fun _ _ _ _ => by
  unfold EV at hx hy; subst hz
  simp [execOp, hx, hy, eqGuard, binOp, Op.intArith]
theorem dv_quo {x y : Operand} {k : IntKind} {a b z : Int} {t t' : TypeId} (hx : EV n fr x (.int k a)) (hy : EV n fr y (.int k b)) (hb : b ≠ 0) (hz : k.wrap (a.tdiv b) = z) : DV P n (.binOp .quo t x y t') ty fr w (.int k z) := fun _ _ _ _ => by
  unfold EV at hx hy; subst hz
  simp [execOp, hx, hy, eqGuard, binOp, Op.intDiv, hb]
theorem dv_rem {x y : Operand} {k : IntKind} {a b z : Int} {t t' : TypeId} (hx : EV n fr x (.int k a)) (hy : EV n fr y (.int k b)) (hb : b ≠ 0) (hz : a.tmod b = z) : DV P n (.binOp .rem t x y t') ty fr w (.int k z) := fun _ _ _ _ => by
  unfold EV at hx hy; subst hz
  simp [execOp, hx, hy, eqGuard, binOp, Op.intDiv, hb]
theorem dv_lss {x y : Operand} {k : IntKind} {a b : Int} {t t' : TypeId} (hx : EV n fr x (.int k a)) (hy : EV n fr y (.int k b)) : DV P n (.binOp .lss t x y t') ty fr w (.bool (decide (a < b))) := fun _ _ _ _ => by
  unfold EV at hx hy
  simp [execOp, hx, hy, eqGuard, binOp, Op.intCmp]
theorem dv_leq {x y : Operand} {k : IntKind} {a b : Int} {t t' : TypeId} (hx : EV n fr x (.int k a)) (hy : EV n fr y (.int k b)) : DV P n (.binOp .leq t x y t') ty fr w (.bool (decide (a ≤ b))) := fun _ _ _ _ => by
  unfold EV at hx hy
  simp [execOp, hx, hy, eqGuard, binOp, Op.intCmp]
theorem dv_gtr {x y : Operand} {k : IntKind} {a b : Int} {t t' : TypeId} (hx : EV n fr x (.int k a)) (hy : EV n fr y (.int k b)) : DV P n (.binOp .gtr t x y t') ty fr w (.bool (decide (b < a))) := fun _ _ _ _ => by
  unfold EV at hx hy
  simp [execOp, hx, hy, eqGuard, binOp, Op.intCmp]
theorem dv_geq {x y : Operand} {k : IntKind} {a b : Int} {t t' : TypeId} (hx : EV n fr x (.int k a)) (hy : EV n fr y (.int k b)) : DV P n (.binOp .geq t x y t') ty fr w (.bool (decide (b ≤ a))) := fun _ _ _ _ => by
  unfold EV at hx hy
  simp [execOp, hx, hy, eqGuard, binOp, Op.intCmp]
theorem dv_eql {x y : Operand} {k : IntKind} {a b : Int} {t t' : TypeId} (hx : EV n fr x (.int k a)) (hy : EV n fr y (.int k b)) : DV P n (.binOp .eql t x y t') ty fr w (.bool (decide (a = b))) := fun _ _ _ _ => by
  unfold EV at hx hy
  simp [execOp, hx, hy, eqGuard, binOp, Op.intCmp]
  by_cases h : a = b <;> simp [h]
theorem dv_neq {x y : Operand} {k : IntKind} {a b : Int} {t t' : TypeId} (hx : EV n fr x (.int k a)) (hy : EV n fr y (.int k b)) : DV P n (.binOp .neq t x y t') ty fr w (.bool (decide (a ≠ b))) := fun _ _ _ _ => by
  unfold EV at hx hy
  simp [execOp, hx, hy, eqGuard, binOp, Op.intCmp]
  by_cases h : a = b <;> simp [h, bne]
theorem dv_eqlb {x y : Operand} {a b : Bool} {t t' : TypeId} (ht : P.underlying t = some .bool) (hx : EV n fr x (.bool a)) (hy : EV n fr y (.bool b)) : DV P n (.binOp .eql t x y t') ty fr w (.bool (a == b)) := fun _ _ _ _ => by
  unfold EV at hx hy
  simp [execOp, hx, hy, eqGuard, run_eql_bool w t a b ht]
theorem dv_neqb {x y : Operand} {a b : Bool} {t t' : TypeId} (ht : P.underlying t = some .bool) (hx : EV n fr x (.bool a)) (hy : EV n fr y (.bool b)) : DV P n (.binOp .neq t x y t') ty fr w (.bool (a != b)) := fun _ _ _ _ => by
  unfold EV at hx hy
  simp [execOp, hx, hy, eqGuard, run_neq_bool w t a b ht, bne]
theorem dv_shl {x y : Operand} {k k' : IntKind} {a b z : Int} {t t' : TypeId} (hx : EV n fr x (.int k a)) (hy : EV n fr y (.int k' b)) (hb : 0 ≤ b) (hz : k.wrap (a * 2 ^ (min b.toNat k.bits)) = z) : DV P n (.binOp .shl t x y t') ty fr w (.int k z) := fun _ _ _ _ => by
  unfold EV at hx hy; subst hz
  simp [execOp, hx, hy, eqGuard, binOp, Op.shift, Int.not_lt.2 hb]
theorem dv_shr {x y : Operand} {k k' : IntKind} {a b z : Int} {t t' : TypeId} (hx : EV n fr x (.int k a)) (hy : EV n fr y (.int k' b)) (hb : 0 ≤ b) (hz : a.fdiv (2 ^ (min b.toNat k.bits)) = z) : DV P n (.binOp .shr t x y t') ty fr w (.int k z) := fun _ _ _ _ => by
  unfold EV at hx hy; subst hz
  simp [execOp, hx, hy, eqGuard, binOp, Op.shift, Int.not_lt.2 hb]
def bitV (k : IntKind) (op : BinOp) (x y : Int) : Int :=
  let a := BitVec.ofInt k.bits x
  let b := BitVec.ofInt k.bits y
  match op with
  | .and => k.wrap (a &&& b).toNat
  | .or => k.wrap (a ||| b).toNat
  | .xor => k.wrap (a ^^^ b).toNat
  | _ => 0
theorem dv_and {x y : Operand} {k : IntKind} {a b z : Int} {t t' : TypeId} (hx : EV n fr x (.int k a)) (hy : EV n fr y (.int k b)) (hz : bitV k .and a b = z) : DV P n (.binOp .and t x y t') ty fr w (.int k z) := fun _ _ _ _ => by
  unfold EV at hx hy; subst hz
  simp [execOp, hx, hy, eqGuard, binOp, Op.intBits, bitV]
theorem dv_or {x y : Operand} {k : IntKind} {a b z : Int} {t t' : TypeId} (hx : EV n fr x (.int k a)) (hy : EV n fr y (.int k b)) (hz : bitV k .or a b = z) : DV P n (.binOp .or t x y t') ty fr w (.int k z) := fun _ _ _ _ => by
  unfold EV at hx hy; subst hz
  simp [execOp, hx, hy, eqGuard, binOp, Op.intBits, bitV]
theorem dv_xor {x : Operand} {k : IntKind} {a z : Int} {t : TypeId} (hx : EV n fr x (.int k a)) (hz : bitV k .xor (if k.signed then -1 else k.max) a = z) : DV P n (.unOp .xor t x) ty fr w (.int k z) := fun _ _ _ _ => by
  unfold EV at hx; subst hz
  simp [execOp, hx, Op.unary, Op.intBits, bitV]
theorem dv_conv {x : Operand} {k k' : IntKind} {a z : Int} {t t' : TypeId} {d : TypeDesc} (h1 : P.underlying t = some d) (ht : P.underlying t' = some (.int k')) (hx : EV n fr x (.int k a)) (hz : k'.wrap a = z) : DV P n (.convert t t' x) ty fr w (.int k' z) := fun _ _ _ _ => by
  unfold EV at hx; subst hz
  cases d <;> simp [execOp, hx, convert, underlying, h1, ht, Conv.intToInt]
def mx (a b : Int) : Int := if b > a then b else a
theorem dv_len {x : Operand} {ad : Option Addr} {l c : Nat} {t e : TypeId} (ht : P.underlying t = some (.slice e)) (hx : EV n fr x (.slice ad l c)) :
    DV P n (.call { callee := .builtin .len, args := #[x], argTypes := #[t] }) ty fr w (.int .i64 l) := fun _ _ _ _ => by
  unfold EV at hx
  simp [execOp, resolve, invoke, builtin, hx, Builtin.len_, underlying, ht, goInt]
def fieldOffB (P : Program) (s i : Nat) : Option Nat :=
  match P.underlying s with
  | some (.struct fs) => match fs[i]? with
    | some f => match P.info? f.type with
      | some inf => if inf.size = 0 then none else some f.offset
      | none => none
    | none => none
  | _ => none
theorem dv_fieldAddr {s i : Nat} {x : Operand} {a a' : Addr} {off : Nat} (hf : fieldOffB P s i = some off) (hx : EV n fr x (.pointer (some a))) (ha : a.add off = a') :
    DV P n (.fieldAddr s x i) ty fr w (.pointer (some a')) := fun _ _ _ _ => by
  unfold EV at hx
  subst ha
  unfold fieldOffB at hf
  split at hf
  · rename_i fs hs
    split at hf
    · rename_i fl hfl
      split at hf
      · rename_i inf hin
        split at hf
        · cases hf
        · rename_i hne
          obtain rfl : fl.offset = off := by simpa using hf
          simp [execOp, hx, Instr.fieldAt, underlying, hs, hfl, Instr.sureAddr, fieldPlace, sizeOf, typeInfo, hin, hne]
      · cases hf
    · cases hf
  · cases hf
def sizeB (P : Program) (t : Nat) : Option Nat := (P.info? t).map (·.size)
theorem dv_indexAddr {t e : TypeId} {x i : Operand} {a a' : Addr} {l c sz : Nat} {k : IntKind} {j : Int} (ht : P.underlying t = some (.slice e)) (hs : sizeB P e = some sz)
    (hx : EV n fr x (.slice (some a) l c)) (hi : EV n fr i (.int k j)) (h0 : 0 ≤ j) (h1 : j < l) (ha : a.add (j.toNat * sz) = a') : DV P n (.indexAddr t x i) ty fr w (.pointer (some a')) := fun _ _ _ _ => by
  unfold EV at hx hi
  subst ha
  unfold sizeB at hs
  cases hin : P.info? e with
  | none => simp [hin] at hs
  | some inf =>
    obtain rfl : inf.size = sz := by simpa [hin] using hs
    simp [execOp, hx, hi, Instr.indexAt, asIntOf, underlying, ht, h0, h1, sizeOf, typeInfo, hin]
theorem dv_slice_h {t e : TypeId} {x h : Operand} {A : Option Addr} {l c sz : Nat} {k : IntKind} {j : Int} (ht : P.underlying t = some (.slice e)) (hs : sizeB P e = some sz)
    (hx : EV n fr x (.slice A l c)) (hh : EV n fr h (.int k j)) (h0 : 0 ≤ j) (h1 : j ≤ c) : DV P n (.slice t x none (some h) none) ty fr w (.slice A j.toNat c) := fun _ _ _ _ => by
  unfold EV at hx hh
  unfold sizeB at hs
  cases hin : P.info? e with
  | none => simp [hin] at hs
  | some inf =>
    obtain rfl : inf.size = sz := by simpa [hin] using hs
    simp [execOp, hx, hh, Instr.sliceAt, underlying, ht, Instr.slice, Instr.sliceBounds, Instr.sliceBound, asIntOf, h0, h1, sizeOf, typeInfo, hin]
    intro _
    cases A <;> simp [Addr.add]
def aggB (P : Program) (t : Nat) : Option Bool := (P.underlying t).map fun | .struct _ | .array _ _ => true | _ => false
theorem run_isAgg {t : Nat} {b : Bool} (h : aggB P t = some b) : (isAgg t).run P w = .ok b w := by
  unfold aggB at h
  cases hu : P.underlying t with
  | none => simp [hu] at h
  | some d =>
    simp only [hu, Option.map_some, Option.some.injEq] at h
    subst h
    cases d <;> simp [isAgg, underlying, hu]
theorem run_sizeOf {t sz : Nat} (h : sizeB P t = some sz) : (sizeOf t).run P w = .ok sz w := by
  unfold sizeB at h
  cases hin : P.info? t with
  | none => simp [hin] at h
  | some inf =>
    obtain rfl : inf.size = sz := by simpa [hin] using h
    simp [sizeOf, typeInfo, hin]
theorem dv_load {t : TypeId} {x : Operand} {a : Addr} {v : Value} (ht : aggB P t = some false) (hx : EV n fr x (.pointer (some a))) (hc : w.cell? a = some v) : DV P n (.load t x) ty fr w v := fun _ _ _ _ => by
  unfold EV at hx
  simp [execOp, hx, Instr.loadAt, Instr.sureAddr, loadVar, run_isAgg ht, hc]
theorem dv_load1 {t : TypeId} {x : Operand} {b o T : Nat} {cs : Array Value} {fz : Nat × Nat} {v : Value} (ht : aggB P t = some false) (hx : EV n fr x (.pointer (some ⟨b, o, none⟩))) (hb : w.heap[b]? = some (.cells cs T fz))
    (hc : cs[o]? = some v) : DV P n (.load t x) ty fr w v :=
  dv_load ht hx (by rw [cell_of_row w b o cs T fz hb]; exact hc)
def rdC (cs : List Value) : Nat → Nat → Option (List Value)
  | 0, 0 => some []
  | 0, m + 1 => match cs with
    | [] => none
    | c :: r => (rdC r 0 m).map (c :: ·)
  | o + 1, m => match cs with
    | [] => if m = 0 then some [] else none
    | _ :: r => rdC r o m
theorem rdC_get : ∀ (cs : List Value) (o m : Nat) (l : List Value), rdC cs o m = some l → l.length = m ∧ ∀ j, j < m → cs[o + j]? = l[j]? ∧ l[j]? ≠ none := by
  intro cs
  induction cs with
  | nil =>
    intro o m l h
    cases o <;> cases m <;> simp [rdC] at h <;> subst h <;> simp
  | cons c r ih =>
    intro o m l h
    cases o with
    | zero =>
      cases m with
      | zero => simp [rdC] at h; subst h; simp
      | succ m =>
        simp only [rdC, Option.map_eq_some_iff] at h
        obtain ⟨l', h1, rfl⟩ := h
        obtain ⟨h2, h3⟩ := ih 0 m l' h1
        refine ⟨by simp [h2], fun j hj => ?_⟩
        cases j with
        | zero => simp
        | succ j =>
          have := h3 j (by omega)
          simp only [Nat.zero_add] at this
          simpa using this
    | succ o =>
      simp only [rdC] at h
      obtain ⟨h2, h3⟩ := ih o m l h
      refine ⟨h2, fun j hj => ?_⟩
      have := h3 j hj
      rw [show o + 1 + j = (o + j) + 1 by omega]
      simpa using this
theorem loadVar_cells {t : TypeId} {b o m T : Nat} {cs l : List Value} {fz : Nat × Nat} (ht : aggB P t = some true) (hs : sizeB P t = some m)
    (hb : w.heap[b]? = some (.cells cs.toArray T fz)) (hc : rdC cs o m = some l) : (loadVar t ⟨b, o, none⟩).run P w = .ok (.agg l.toArray) w := by
  obtain ⟨hl, hg⟩ := rdC_get cs o m l hc
  have hld : (loadCells ⟨b, o, none⟩ l.length).run P w = .ok l.toArray w := by
    refine run_loadCells_list _ _ l fun j v hj => ?_
    have hjl : j < l.length := (List.getElem?_eq_some_iff.1 hj).1
    have h1 := (hg j (by omega)).1
    rw [hj] at h1
    have : (⟨b, o, none⟩ : Addr).add j = ⟨b, o + j, none⟩ := by unfold Addr.add; split <;> simp_all
    rw [this, cell_of_row w b (o + j) cs.toArray T fz hb]
    simpa using h1
  rw [hl] at hld
  simp [loadVar, run_isAgg ht, run_sizeOf hs, hld]
theorem dv_loads {t : TypeId} {x : Operand} {b o m T : Nat} {cs l : List Value} {fz : Nat × Nat} (ht : aggB P t = some true) (hs : sizeB P t = some m) (hx : EV n fr x (.pointer (some ⟨b, o, none⟩)))
    (hb : w.heap[b]? = some (.cells cs.toArray T fz)) (hc : rdC cs o m = some l) : DV P n (.load t x) ty fr w (.agg l.toArray) := fun _ _ _ _ => by
  unfold EV at hx
  have := loadVar_cells (w := w) ht hs hb hc
  simp [execOp, hx, Instr.loadAt, Instr.sureAddr, this]
theorem rv_cells {a : Nat} {t : TypeId} {b m T : Nat} {cs l : List Value} {fz : Nat × Nat} (ht : aggB P t = some true) (hs : sizeB P t = some m) (hn : Nat.blt a n = true) (hx : fr a = .pointer (some ⟨b, 0, none⟩))
    (hb : w.heap[b]? = some (.cells cs.toArray T fz)) (hc : rdC cs 0 m = some l) : RV P n fr w (.cell a t) (.agg l.toArray) := by
  have := loadVar_cells (w := w) ht hs hb hc
  show (do loadVar t (← asAddr ((actOf n fr).tmps.getD a undef)) : Sem Value).run P w = _
  rw [actOf_getD n fr a hn, hx]
  simp [asAddr, this]
theorem oe_box {T : TypeId} {x : Operand} {v : Value} {cs : Array Value} {K : Value → World → Prop} (hx : EV n fr x v) (hc : v.cells = cs)
    (h : ∀ b w', New w b (.cells cs T) w' → K (.pointer (some ⟨b, 0, none⟩)) w') : OE P n (.box T x) ty fr w K :=
  OE.of_run (v := .pointer (some ⟨w.heap.size, 0, none⟩)) (w' := w.alloc (.cells cs T)) (fun _ _ _ _ => by
    unfold EV at hx
    simp [execOp, hx, Instr.box, newVar, newRow, hc]) (h _ _ (new_alloc w _))
def zeroB (P : Program) (t : Nat) : Option (Array Value) := ((P.info? t).bind (·.zero)).map (·.cells)
theorem oe_alloc {T : TypeId} {cs : Array Value} {K : Value → World → Prop} (hz : zeroB P T = some cs)
    (h : ∀ b w', New w b (.cells cs T) w' → K (.pointer (some ⟨b, 0, none⟩)) w') : OE P n (.alloc T) ty fr w K :=
  OE.of_run (v := .pointer (some ⟨w.heap.size, 0, none⟩)) (w' := w.alloc (.cells cs T)) (fun _ _ _ _ => by
    unfold zeroB at hz
    cases hi : P.info? T with
    | none => simp [hi] at hz
    | some inf =>
      cases hzz : inf.zero with
      | none => simp [hi, hzz] at hz
      | some z =>
        have : z.cells = cs := by simpa [hi, hzz] using hz
        simp [execOp, Instr.alloc, zeroValue, typeInfo, hi, hzz, newVar, newRow, this]) (h _ _ (new_alloc w _))
def stC (cs : List Value) : Nat → List Value → Option (List Value)
  | _, [] => some cs
  | 0, v :: vs => match cs with
    | [] => none
    | _ :: r => (stC r 0 vs).map (v :: ·)
  | o + 1, v :: vs => match cs with
    | [] => none
    | c :: r => (stC r o (v :: vs)).map (c :: ·)
theorem stC_nil (cs : List Value) (o : Nat) : stC cs o [] = some cs := by cases o <;> simp [stC]
theorem stC_step : ∀ (cs : List Value) (o : Nat) (v : Value) (vs l : List Value), stC cs o (v :: vs) = some l → o < cs.length ∧ stC (cs.set o v) (o + 1) vs = some l := by
  intro cs
  induction cs with
  | nil => intro o v vs l h; cases o <;> simp [stC] at h
  | cons c r ih =>
    intro o v vs l h
    cases o with
    | zero =>
      simp only [stC, Option.map_eq_some_iff] at h
      obtain ⟨l', h1, rfl⟩ := h
      refine ⟨by simp, ?_⟩
      cases vs with
      | nil => rw [stC_nil] at h1; simp at h1; subst h1; simp [stC_nil]
      | cons u us => simp [stC, h1]
    | succ o =>
      simp only [stC, Option.map_eq_some_iff] at h
      obtain ⟨l', h1, rfl⟩ := h
      obtain ⟨h2, h3⟩ := ih o v vs l' h1
      refine ⟨by simpa using h2, ?_⟩
      cases vs with
      | nil => rw [stC_nil] at h3 ⊢; simpa using h3
      | cons u us => simp [stC, h3]
theorem st_setCell {w : World} {b o T : Nat} {cs : Array Value} {v : Value} (hb : w.heap[b]? = some (.cells cs T)) : St b w (w.setCell ⟨b, o, none⟩ v) :=
  ⟨rfl, rfl, rfl, by simp, fun k hk => heap_setCell_other w ⟨b, o, none⟩ k v hk⟩
theorem St.refl (b : Nat) (w : World) : St b w w := ⟨rfl, rfl, rfl, rfl, fun _ _ => rfl⟩
theorem St.trans {b : Nat} {w w1 w2 : World} (h : St b w w1) (h2 : St b w1 w2) : St b w w2 :=
  ⟨h2.os.trans h.os, h2.tape.trans h.tape, h2.output.trans h.output, h2.size.trans h.size, fun k hk => (h2.block k hk).trans (h.block k hk)⟩
theorem run_storeCells : ∀ (vs : List Value) (i : Nat) (w : World) (b o T : Nat) (cs l : List Value), (∀ v ∈ vs, v.oneCell' = true) → w.heap[b]? = some (.cells cs.toArray T) → stC cs (o + i) vs = some l →
    ∃ w', (storeCells ⟨b, o, none⟩ vs i).run P w = .ok () w' ∧ St b w w' ∧ w'.heap[b]? = some (.cells l.toArray T) := by
  intro vs
  induction vs with
  | nil =>
    intro i w b o T cs l _ hb h
    rw [stC_nil] at h
    obtain rfl : cs = l := by simpa using h
    exact ⟨w, rfl, St.refl _ _, hb⟩
  | cons v vs ih =>
    intro i w b o T cs l h1 hb h
    obtain ⟨hlt, h2⟩ := stC_step cs (o + i) v vs l h
    have ha : (⟨b, o, none⟩ : Addr).add i = ⟨b, o + i, none⟩ := by unfold Addr.add; split <;> simp_all
    have hcell : w.cell? ⟨b, o + i, none⟩ = some cs[o + i] := by rw [cell_of_row w b (o + i) cs.toArray T (0, 0) hb]; simp [hlt]
    have hfz : w.frozen? ⟨b, o + i, none⟩ = false := frozen_of_row w b (o + i) cs.toArray T hb
    have hb' : (w.setCell ⟨b, o + i, none⟩ v).heap[b]? = some (.cells (cs.set (o + i) v).toArray T) := by
      rw [heap_setCell_same w b (o + i) cs.toArray T v hb]
      simp
    obtain ⟨w', hr, hst, hbl⟩ := ih (i + 1) (w.setCell ⟨b, o + i, none⟩ v) b o T (cs.set (o + i) v) l (fun u hu => h1 u (List.mem_cons_of_mem _ hu)) hb' (by rw [← Nat.add_assoc]; exact h2)
    refine ⟨w', ?_, (st_setCell hb).trans hst, hbl⟩
    simp only [storeCells, Sem.run_bind, ha, run_store P w _ v .plain (h1 v (by simp)), hcell, hfz]
    simpa using hr
theorem oe_store {t : TypeId} {x y : Operand} {v : Value} {b o T m : Nat} {cs l vs : List Value} {K : Value → World → Prop} (hx : EV n fr x (.pointer (some ⟨b, o, none⟩))) (hy : EV n fr y v)
    (hs : sizeB P t = some m) (hv : v.cells = vs.toArray) (hm : vs.length = m) (h1 : vs.all (·.oneCell') = true) (hb : w.heap[b]? = some (.cells cs.toArray T)) (hl : stC cs o vs = some l)
    (h : ∀ w', St b w w' → w'.heap[b]? = some (.cells l.toArray T) → K undef w') : OE P n (.store t x y) ty fr w K := by
  obtain ⟨w', hr, hst, hbl⟩ := run_storeCells (P := P) vs 0 w b o T cs l (fun u hu => List.all_eq_true.1 h1 u hu) hb (by simpa using hl)
  refine OE.of_skip (w' := w') (fun _ _ _ _ => ?_) (h w' hst hbl)
  unfold EV at hx hy
  subst hm
  simp [execOp, hx, hy, Instr.storeAt, Instr.sureAddr, storeVar, run_sizeOf hs, hv, hr]
def Ct (P : Program) (f : FuncId) (args : List Value) (w : World) (R : Value → World → Prop) : Prop :=
  Calls P f args.toArray w fun e w' => ∃ v, e = .returned v ∧ R v w'
theorem Ct.mono {f : FuncId} {args : List Value} {R R' : Value → World → Prop} (h : Ct P f args w R) (hr : ∀ v w', R v w' → R' v w') : Ct P f args w R' :=
  Calls.mono h fun e w' ⟨v, he, hv⟩ => ⟨v, he, hr v w' hv⟩
theorem ct_run {f : Nat} {fn : Func} {c : Code} {args : List Value} {R : Value → World → Prop} (hf : P.funcs[f]? = some fn) (hb : fn.body = some c) (hn : fn.ntmps = n) (ha : Nat.ble args.length n = true)
    (h : RunK P f n (fun e w' => ∃ v, e = .returned v ∧ R v w') [.code c] (fr0 args) w) : Ct P f args w R := calls_run hf hb hn ha h
def callOk (P : Program) (g : Nat) : Bool :=
  match P.funcs[g]? with
  | some fn => fn.name != "runtime.NumGoroutine" && fn.body.isSome
  | none => false
theorem oe_callf {g : Nat} {args : Array Operand} {tys : Array TypeId} {vs : List Value} {R : Value → World → Prop} {K : Value → World → Prop} (hg : callOk P g = true) (ha : args.map (actOf n fr).eval = vs.toArray)
    (h : Ct P g vs w R) (hK : ∀ v w', R v w' → K v w') : OE P n (.call { callee := .value (.func g), args := args, argTypes := tys }) ty fr w K := by
  intro dst pos af gd Kk Q hk
  have hf : ∃ fn, P.funcs[g]? = some fn ∧ fn.name ≠ "runtime.NumGoroutine" ∧ fn.body ≠ none := by
    unfold callOk at hg
    split at hg
    · rename_i fn hfn
      refine ⟨fn, hfn, ?_, ?_⟩
      · simp only [Bool.and_eq_true, bne_iff_ne] at hg; exact hg.1
      · simp only [Bool.and_eq_true] at hg; intro hbd; rw [hbd] at hg; exact absurd hg.2 (by simp)
    · cases hg
  obtain ⟨fn, hfn, hnm, hbd⟩ := hf
  have hrun : (execOp (actOf n fr).eval ⟨dst, .call { callee := .value (.func g), args := args, argTypes := tys }, ty, pos, af, gd⟩).run P w = .ok (.enter g vs.toArray) w := by
    have hev : (actOf n fr).eval (.func g) = .func (.func g) #[] #[] := rfl
    simp [execOp, resolve, hev, Deferred.ofValue, invoke, callFunc, hfn, hnm, hbd, ha]
  unfold Oper.wp
  rw [hrun]
  show Calls P g vs.toArray w _
  refine Calls.mono h fun e w' ⟨v, he, hv⟩ => ?_
  subst he
  show Kk ((actOf n fr).put dst v) w'
  rw [actOf_put]
  exact hk v w' (hK v w' hv)
theorem ar1 {a : Operand} {v : Value} (h : EV n fr a v) : (#[a] : Array Operand).map (actOf n fr).eval = [v].toArray := by unfold EV at h; simp [h]
theorem ar2 {a b : Operand} {v u : Value} (h : EV n fr a v) (h2 : EV n fr b u) : (#[a, b] : Array Operand).map (actOf n fr).eval = [v, u].toArray := by unfold EV at h h2; simp [h, h2]
theorem ar3 {a b c : Operand} {v u x : Value} (h : EV n fr a v) (h2 : EV n fr b u) (h3 : EV n fr c x) : (#[a, b, c] : Array Operand).map (actOf n fr).eval = [v, u, x].toArray := by unfold EV at h h2 h3; simp [h, h2, h3]
theorem ar4 {a b c d : Operand} {v u x y : Value} (h : EV n fr a v) (h2 : EV n fr b u) (h3 : EV n fr c x) (h4 : EV n fr d y) : (#[a, b, c, d] : Array Operand).map (actOf n fr).eval = [v, u, x, y].toArray := by unfold EV at h h2 h3 h4; simp [h, h2, h3, h4]
end
section
variable {P : Program} {n : Nat} {fr : Fr} {w : World} {ty : TypeId}
def placesB (P : Program) (t : Nat) : Option (List (Nat × Nat)) :=
  match P.underlying t with
  | some (.struct fs) => fs.toList.mapM fun f => (sizeB P f.type).map fun m => (f.offset, m)
  | _ => none
def fillL (place : Nat → Option (Nat × Nat)) (cs : List Value) : List (Nat × Value) → Option (List Value)
  | [] => some cs
  | (i, v) :: rest => match place i with
    | none => none
    | some (off, size) => bif v.cells.size == size && Nat.ble (off + size) cs.length then match stC cs off v.cells.toList with
        | some cs' => fillL place cs' rest
        | none => none
      else none
theorem fold_stC : ∀ (vs : List Value) (cs l : List Value) (off j : Nat), stC cs (off + j) vs = some l →
    (vs.zipIdx j).foldl (fun (a : Array Value) (x : Value × Nat) => a.setIfInBounds (off + x.2) x.1) cs.toArray = l.toArray ∧ off + j + vs.length ≤ max cs.length (off + j) := by
  intro vs
  induction vs with
  | nil => intro cs l off j h; rw [stC_nil] at h; simp at h; subst h; simp; omega
  | cons v vs ih =>
    intro cs l off j h
    obtain ⟨h1, h2⟩ := stC_step cs (off + j) v vs l h
    obtain ⟨h3, h4⟩ := ih (cs.set (off + j) v) l off (j + 1) h2
    simp only [List.zipIdx_cons, List.foldl_cons]
    refine ⟨?_, ?_⟩
    · rw [← h3]; simp
    · simp at h4 ⊢; omega
theorem fill_of : ∀ (parts : List (Nat × Value)) (place : Nat → Option (Nat × Nat)) (cs l : List Value), fillL place cs parts = some l → Instr.fill place cs.toArray parts = some l.toArray := by
  intro parts
  induction parts with
  | nil => intro place cs l h; simp [fillL] at h; subst h; simp [Instr.fill]
  | cons p rest ih =>
    intro place cs l h
    obtain ⟨i, v⟩ := p
    simp only [fillL] at h
    split at h
    · cases h
    · rename_i off size hp
      cases hc : (v.cells.size == size && Nat.ble (off + size) cs.length) with
      | false => rw [hc] at h; cases h
      | true =>
        rw [hc] at h
        simp only [cond_true] at h
        simp only [Bool.and_eq_true, beq_iff_eq, Nat.ble_eq] at hc
        obtain ⟨hsz, hle⟩ := hc
        split at h
        · rename_i cs' hst
          have hf := fold_stC v.cells.toList cs cs' off 0 (by simpa using hst)
          simp only [Instr.fill, hp]
          have hcond : ¬ ((decide (v.cells.size ≠ size) || decide (off + v.cells.size > cs.toArray.size)) = true) := by
            simp [hsz, hle]
          rw [if_neg hcond]
          have e1 : (v.cells.zipIdx.foldl (fun (a : Array Value) (x : Value × Nat) => a.setIfInBounds (off + x.2) x.1) cs.toArray) = cs'.toArray := by
            have h3 := hf.1
            rw [← h3, ← Array.foldl_toList]
            simp
          have h5 := ih place cs' l h
          rw [← e1] at h5
          exact h5
        · cases h
def zcB (P : Program) (t : Nat) : Option (List Value) := (zeroB P t).map (·.toList)
theorem places_spec {t : Nat} {pl : List (Nat × Nat)} (h : placesB P t = some pl) :
    ∃ fs, P.underlying t = some (.struct fs) ∧ ∀ w : World, ((fs.mapM fun f => do pure (f.offset, ← sizeOf f.type)) : Sem (Array (Nat × Nat))).run P w = .ok pl.toArray w := by
  unfold placesB at h
  split at h
  · rename_i fs hs
    refine ⟨fs, hs, fun w => ?_⟩
    have gen : ∀ (l : List Field) (pl : List (Nat × Nat)), (l.mapM fun f => (sizeB P f.type).map fun m => (f.offset, m)) = some pl →
        ((l.mapM fun f => do pure (f.offset, ← sizeOf f.type)) : Sem (List (Nat × Nat))).run P w = .ok pl w := by
      intro l
      induction l with
      | nil => intro pl h; simp at h; subst h; simp
      | cons f l ih =>
        intro pl h
        simp only [List.mapM_cons, Option.bind_eq_bind, Option.bind_eq_some_iff, Option.map_eq_some_iff, Option.pure_def, Option.some.injEq] at h
        obtain ⟨x, ⟨m, hm, rfl⟩, xs, hxs, rfl⟩ := h
        have hi := ih xs hxs
        simp only [bind_pure_comp] at hi
        simp [List.mapM_cons, run_sizeOf hm, hi]
    have h1 := gen fs.toList pl h
    rw [Array.mapM_eq_mapM_toList]
    simp only [Sem.run_map, h1]
    rfl
  · cases h
theorem run_zero {t : Nat} {zc : List Value} (h : zcB P t = some zc) (w : World) : ∃ z, (zeroValue t).run P w = .ok z w ∧ z.cells = zc.toArray := by
  unfold zcB zeroB at h
  cases hi : P.info? t with
  | none => simp [hi] at h
  | some inf =>
    cases hz : inf.zero with
    | none => simp [hi, hz] at h
    | some z =>
      refine ⟨z, by simp [zeroValue, typeInfo, hi, hz], ?_⟩
      simp only [hi, hz, Option.bind_some, Option.map_some, Option.some.injEq] at h
      rw [← h]
def EVs (n : Nat) (fr : Fr) : List (Nat × Operand) → List (Nat × Value) → Prop
  | [], [] => True
  | (i, x) :: r, (j, v) :: s => i = j ∧ EV n fr x v ∧ EVs n fr r s
  | _, _ => False
theorem EVs.map : ∀ {ps : List (Nat × Operand)} {pv : List (Nat × Value)}, EVs n fr ps pv → ps.map (fun (i, x) => (i, (actOf n fr).eval x)) = pv
  | [], [], _ => rfl
  | (i, x) :: r, (j, v) :: s, h => by
    obtain ⟨rfl, h1, h2⟩ := h
    unfold EV at h1
    simp [h1, EVs.map h2]
  | [], _ :: _, h => h.elim
  | _ :: _, [], h => h.elim
theorem dv_build {t : TypeId} {ps : List (Nat × Operand)} {pv : List (Nat × Value)} {zc l : List Value} {pl : List (Nat × Nat)} (hz : zcB P t = some zc) (hp : placesB P t = some pl) (hx : EVs n fr ps pv)
    (hl : fillL (fun i => pl[i]?) zc pv = some l) : DV P n (.build t ps.toArray) ty fr w (.agg l.toArray) := fun _ _ _ _ => by
  obtain ⟨fs, hs, hpl⟩ := places_spec hp
  obtain ⟨z, hzr, hzc⟩ := run_zero hz w
  have hf := fill_of pv (fun i => pl.toArray[i]?) zc l (by simpa using hl)
  have hm := hx.map
  have hm2 : (ps.toArray.map fun (i, x) => (i, (actOf n fr).eval x)).toList = pv := by simpa using hm
  simp only [execOp, Instr.build, Sem.run_bind, hzr, Result.andThen_ok, underlying, Sem.run_pure, run_program, hs, hpl, hzc]
  rw [hm2, hf]
  rfl
theorem oe_makeSlice {t e : TypeId} {x y : Operand} {kl kc : IntKind} {l : Nat} {z : Value} {bytes : Nat} {K : Value → World → Prop} (ht : P.underlying t = some (.slice e))
    (hi : (P.info? e).map (fun i => (i.zero, i.size, i.bytes)) = some (some z, 1, bytes)) (hz : z.cells = #[z]) (hx : EV n fr x (.int kl l)) (hy : EV n fr y (.int kc l)) (hb : bytes * l ≤ 281474976710656) (hl : l ≤ 281474976710656)
    (h : ∀ b w', New w b (.cells (List.replicate l z).toArray e) w' → K (.slice (some ⟨b, 0, none⟩) l l) w') : OE P n (.makeSlice t x y) ty fr w K := by
  cases hin : P.info? e with
  | none => simp [hin] at hi
  | some inf =>
    simp only [hin, Option.map_some, Option.some.injEq, Prod.mk.injEq] at hi
    obtain ⟨h1, h2, h3⟩ := hi
    subst h3
    have hb' : (inf.bytes : Int) * (l : Int) ≤ 281474976710656 := by
      have h : ((inf.bytes * l : Nat) : Int) ≤ 281474976710656 := by omega
      rwa [Int.natCast_mul] at h
    have hr := run_make (P := P) w t e inf z ht hin h1 kl kc l l (by omega) (Int.le_refl _) hb' (by omega)
    simp only [Int.toNat_natCast, h2, Nat.mul_one, hz] at hr
    have hm : madeCells #[z] l = (List.replicate l z).toArray := by rw [← toList_madeCells_one]
    rw [hm] at hr
    refine OE.of_run (fun _ _ _ _ => ?_) (h _ _ (new_alloc w _))
    unfold EV at hx hy
    simp [execOp, hx, hy, hr]
theorem oe_makeSlice_cap {t e : TypeId} {x y : Operand} {kl kc : IntKind} {c : Nat} {z : Value} {bytes : Nat} {K : Value → World → Prop} (ht : P.underlying t = some (.slice e))
    (hi : (P.info? e).map (fun i => (i.zero, i.size, i.bytes)) = some (some z, 1, bytes)) (hz : z.cells = #[z]) (hx : EV n fr x (.int kl 0)) (hy : EV n fr y (.int kc c)) (hb : bytes * c ≤ 281474976710656) (hl : c ≤ 281474976710656)
    (h : ∀ b w', New w b (.cells (List.replicate c z).toArray e) w' → K (.slice (some ⟨b, 0, none⟩) 0 c) w') : OE P n (.makeSlice t x y) ty fr w K := by
  cases hin : P.info? e with
  | none => simp [hin] at hi
  | some inf =>
    simp only [hin, Option.map_some, Option.some.injEq, Prod.mk.injEq] at hi
    obtain ⟨h1, h2, h3⟩ := hi
    subst h3
    have hb' : (inf.bytes : Int) * (c : Int) ≤ 281474976710656 := by
      have h : ((inf.bytes * c : Nat) : Int) ≤ 281474976710656 := by omega
      rwa [Int.natCast_mul] at h
    have hr := run_make (P := P) w t e inf z ht hin h1 kl kc 0 c (by omega) (by omega) hb' (by omega)
    simp only [Int.toNat_natCast, Int.toNat_zero, h2, Nat.mul_one, hz] at hr
    have hm : madeCells #[z] c = (List.replicate c z).toArray := by rw [← toList_madeCells_one]
    rw [hm] at hr
    refine OE.of_run (fun _ _ _ _ => ?_) (h _ _ (new_alloc w _))
    unfold EV at hx hy
    simp [execOp, hx, hy, hr]
theorem oe_buildSlice {t e : TypeId} {len sz : Nat} {ps : List (Nat × Operand)} {pv : List (Nat × Value)} {zc init l : List Value} {K : Value → World → Prop} (ht : P.underlying t = some (.slice e)) (hs : sizeB P e = some sz)
    (hlen : Nat.ble (len * sz) 16777216 = true) (hpos : Nat.beq (len * sz) 0 = false) (hz : zcB P e = some zc) (hin : ((Array.range (len * sz)).map (zc.toArray[· % zc.toArray.size]!)).toList = init) (hx : EVs n fr ps pv)
    (hl : fillL (fun i => some (i * sz, sz)) init pv = some l)
    (h : ∀ b w', New w b (.cells l.toArray e) w' → K (.slice (some ⟨b, 0, none⟩) len len) w') : OE P n (.buildSlice t len ps.toArray) ty fr w K :=
  OE.of_run (v := .slice (some ⟨w.heap.size, 0, none⟩) len len) (w' := w.alloc (.cells l.toArray e)) (fun _ _ _ _ => by
    obtain ⟨z, hzr, hzc⟩ := run_zero hz w
    have hf := fill_of pv (fun i => some (i * sz, sz)) init l hl
    have hm := hx.map
    have hm2 : (ps.toArray.map fun (i, x) => (i, (actOf n fr).eval x)).toList = pv := by simpa using hm
    have h1 : ¬ (len * sz > 2 ^ 24) := by simp at hlen; simp; omega
    have h2 : ¬ (len * sz = 0) := by intro h0; rw [h0] at hpos; cases hpos
    have hin' : ((Array.range (len * sz)).map (zc.toArray[· % zc.toArray.size]!)) = init.toArray := by rw [← hin]
    simp only [execOp, Instr.buildSlice, Sem.run_bind, underlying, Sem.run_pure, run_program, ht, Result.andThen_ok, run_sizeOf hs, if_neg h1, if_neg h2, hzr, hzc, hin', hm2, hf, newRow, run_newObj]
    rfl) (h _ _ (new_alloc w _))
end
def Wd (w : World) (T : Nat) (k : IntKind) (A : Option Addr) (xs : List Int) : Prop :=
  (xs = [] ∧ A = none) ∨ ∃ (g off : Nat) (cs : Array Value) (fz : Nat × Nat), A = some ⟨g, off, none⟩ ∧ w.heap[g]? = some (.cells cs T fz) ∧ ∀ i x, xs[i]? = some x → cs[off + i]? = some (.int k x)
theorem Wd.nil {w : World} {T : Nat} {k : IntKind} : Wd w T k none [] := .inl ⟨rfl, rfl⟩
theorem Wd.ext {w w' : World} {T : Nat} {k : IntKind} {A : Option Addr} {xs : List Int} (h : Wd w T k A xs) (e : Ext w w') : Wd w' T k A xs := by
  rcases h with h | ⟨g, off, cs, fz, hA, hg, hc⟩
  · exact .inl h
  · exact .inr ⟨g, off, cs, fz, hA, e.blk hg, hc⟩
theorem Wd.st {w w' : World} {T T' b : Nat} {k : IntKind} {A : Option Addr} {xs : List Int} {cs' : Array Value} {fz' : Nat × Nat} (h : Wd w T k A xs) (e : St b w w') (hb : w.heap[b]? = some (.cells cs' T' fz')) (hT : T' ≠ T) : Wd w' T k A xs := by
  rcases h with h | ⟨g, off, cs, fz, hA, hg, hc⟩
  · exact .inl h
  · refine .inr ⟨g, off, cs, fz, hA, e.blk hg ?_, hc⟩
    intro he
    subst he
    rw [hg] at hb
    injection hb with hb
    injection hb with _ hb _
    exact hT hb.symm
theorem Wd.at {w : World} {T : Nat} {k : IntKind} {A : Option Addr} {xs : List Int} (h : Wd w T k A xs) (hp : 0 < xs.length) : ∃ g off, A = some ⟨g, off, none⟩ := by
  rcases h with h | ⟨g, off, cs, fz, hA, hg, hc⟩
  · rw [h.1] at hp; simp at hp
  · exact ⟨g, off, hA⟩
theorem Wd.cell {w : World} {T : Nat} {k : IntKind} {g off : Nat} {xs : List Int} (h : Wd w T k (some ⟨g, off, none⟩) xs) {i : Nat} (hi : i < xs.length) : w.cell? ⟨g, off + i, none⟩ = some (.int k (xs.getD i 0)) := by
  rcases h with h | ⟨g', off', cs, fz, hA, hg, hc⟩
  · cases h.2
  · obtain ⟨rfl, rfl⟩ : g = g' ∧ off = off' := by simpa using hA
    rw [cell_of_row w g (off + i) cs T fz hg]
    have := hc i _ (List.getElem?_eq_getElem hi)
    simpa [List.getD_eq_getElem?_getD, List.getElem?_eq_getElem hi] using this
theorem Wd.take {w : World} {T : Nat} {k : IntKind} {A : Option Addr} {xs : List Int} (h : Wd w T k A xs) (m : Nat) : Wd w T k A (xs.take m) := by
  rcases h with h | ⟨g, off, cs, fz, hA, hg, hc⟩
  · exact .inl ⟨by rw [h.1]; simp, h.2⟩
  · refine .inr ⟨g, off, cs, fz, hA, hg, fun i x hi => hc i x ?_⟩
    rw [List.getElem?_take] at hi
    split at hi
    · exact hi
    · cases hi
theorem Wd.own {w : World} {T : Nat} {k : IntKind} {b : Nat} {xs : List Int} {r : List Value} {fz : Nat × Nat} (hb : w.heap[b]? = some (.cells (xs.map (Value.int k) ++ r).toArray T fz)) : Wd w T k (some ⟨b, 0, none⟩) xs := by
  refine .inr ⟨b, 0, _, fz, rfl, hb, fun i x hi => ?_⟩
  obtain ⟨hl, hv⟩ := List.getElem?_eq_some_iff.1 hi
  simp [List.getElem?_append_left, hl, hv]
theorem addr_add {g off i : Nat} : (⟨g, off, none⟩ : Addr).add (i * 1) = ⟨g, off + i, none⟩ := by unfold Addr.add; split <;> simp_all
section
variable {P : Program} {n : Nat} {fr : Fr} {w : World} {ty : TypeId}
theorem dv_loadW {t : TypeId} {x : Operand} {b T i : Nat} {k : IntKind} {L : List Int} {fz : Nat × Nat} {v : Int} (ht : aggB P t = some false) (hx : EV n fr x (.pointer (some ⟨b, i, none⟩))) (hb : w.heap[b]? = some (.cells (L.map (Value.int k)).toArray T fz))
    (hi : i < L.length) (hv : L.getD i 0 = v) : DV P n (.load t x) ty fr w (.int k v) :=
  dv_load1 ht hx hb (by simp [hi, ← hv, List.getD_eq_getElem?_getD])
theorem oe_storeW {t : TypeId} {x y : Operand} {b T i : Nat} {k : IntKind} {L : List Int} {z : Int} {K : Value → World → Prop} (hs : sizeB P t = some 1) (hx : EV n fr x (.pointer (some ⟨b, i, none⟩))) (hy : EV n fr y (.int k z))
    (hb : w.heap[b]? = some (.cells (L.map (Value.int k)).toArray T)) (hi : i < L.length)
    (h : ∀ w', St b w w' → w'.heap[b]? = some (.cells ((L.set i z).map (Value.int k)).toArray T) → K undef w') : OE P n (.store t x y) ty fr w K := by
  have hl : stC (L.map (Value.int k)) i [.int k z] = some ((L.set i z).map (Value.int k)) := by
    clear h hb hy hx
    induction L generalizing i with
    | nil => simp at hi
    | cons c L ih =>
      cases i with
      | zero => simp [stC]
      | succ i => simp [stC, ih (by simpa using hi)]
  exact oe_store hx hy hs rfl rfl rfl hb hl h
end
def valB (B : Int) : List Int → Int
  | [] => 0
  | x :: xs => x + B * valB B xs
def okW (B : Int) (xs : List Int) : Prop := ∀ x ∈ xs, 0 ≤ x ∧ x < B
def canon (xs : List Int) : Prop := xs.getLast? ≠ some 0
def sg (neg : Bool) (v : Int) : Int := if neg then -v else v
def Num (m T : Nat) (k : IntKind) (w : World) (neg : Bool) (A : Option Addr) (l c : Nat) (z : Int) (s : Nat) : Prop :=
  ∃ xs : List Int, xs.length = l ∧ l ≤ c ∧ Wd w T k A xs ∧ okW (2 ^ m) xs ∧ canon xs ∧ (neg = true → l ≠ 0) ∧ z = sg neg (valB (2 ^ m) xs) ∧ z.natAbs < 2 ^ s
section
variable {m T : Nat} {k : IntKind} {w w' : World} {neg : Bool} {A : Option Addr} {l c : Nat} {z : Int} {s : Nat}
theorem Num.ext (h : Num m T k w neg A l c z s) (e : Ext w w') : Num m T k w' neg A l c z s := by
  obtain ⟨xs, h1, h2, h3, h4⟩ := h
  exact ⟨xs, h1, h2, h3.ext e, h4⟩
theorem Num.st {b T' : Nat} {cs' : Array Value} {fz' : Nat × Nat} (h : Num m T k w neg A l c z s) (e : St b w w') (hb : w.heap[b]? = some (.cells cs' T' fz')) (hT : T' ≠ T) : Num m T k w' neg A l c z s := by
  obtain ⟨xs, h1, h2, h3, h4⟩ := h
  exact ⟨xs, h1, h2, h3.st e hb hT, h4⟩
theorem Num.to {z' : Int} {s' : Nat} (h : Num m T k w neg A l c z s) (hz : z = z') (hs : s ≤ s') : Num m T k w neg A l c z' s' := by
  subst hz
  obtain ⟨xs, h1, h2, h3, h4, h5, h6, h7, h8⟩ := h
  exact ⟨xs, h1, h2, h3, h4, h5, h6, h7, Nat.lt_of_lt_of_le h8 (Nat.pow_le_pow_right (by decide) hs)⟩
theorem Num.zero {c : Nat} : Num m T k w false none 0 c 0 s :=
  ⟨[], rfl, Nat.zero_le _, .nil, fun x hx => (by cases hx), by simp [canon], by simp, by simp [sg, valB], by simp; exact Nat.pos_of_ne_zero (by simp)⟩
theorem Num.lt (h : Num m T k w neg A l c z s) : z.natAbs < 2 ^ s := by obtain ⟨xs, h1, h2, h3, h4, h5, h6, h7, h8⟩ := h; exact h8
theorem Num.cap (h : Num m T k w neg A l c z s) : l ≤ c := by obtain ⟨xs, h1, h2, _⟩ := h; exact h2
end
section
variable {P : Program} {w : World}
theorem eqFields_flat {d : Nat} {k : IntKind} {xs ys : Array Value} {A B : Nat → Int} : ∀ fs : List Field,
    (∀ f ∈ fs, f.name ≠ "_" ∧ P.underlying f.type = some (.int k) ∧ xs[f.offset]? = some (.int k (A f.offset)) ∧ ys[f.offset]? = some (.int k (B f.offset))) →
    (Op.eqFields (d + 1) xs ys fs).run P w = .ok (fs.all fun f => A f.offset == B f.offset) w := by
  intro fs
  induction fs with
  | nil => intro _; simp [Op.eqFields]
  | cons f fs ih =>
    intro h
    obtain ⟨hn, hu, hx, hy⟩ := h f (by simp)
    have ih := ih fun g hg => h g (List.mem_cons_of_mem _ hg)
    have hag : (isAgg f.type).run P w = .ok false w := run_isAgg (by simp [aggB, hu])
    have px : (part f.type xs f.offset).run P w = .ok (.int k (A f.offset)) w := by simp [part, hag, hx]
    have py : (part f.type ys f.offset).run P w = .ok (.int k (B f.offset)) w := by simp [part, hag, hy]
    rw [Op.eqFields]
    simp only [if_pos hn, Sem.run_bind, px, py, run_equalIn_int w d f.type k k _ _ hu, Result.andThen_ok, List.all_cons]
    cases hb : (A f.offset == B f.offset)
    · simp
    · simpa using ih
def flatB (P : Program) (t : Nat) (k : IntKind) (m : Nat) : Bool :=
  match P.underlying t with
  | some (.struct fs) => fs.toList.map (·.offset) == List.range m && fs.toList.all (fun f => f.name != "_" && (match P.underlying f.type with | some (.int k') => k' == k | _ => false)) && !P.stoodInHeld t
  | _ => false
theorem all_range (as bs : List Int) (m : Nat) (ha : as.length = m) (hb : bs.length = m) : ((List.range m).all fun o => as.getD o 0 == bs.getD o 0) = decide (as = bs) := by
  rw [Bool.eq_iff_iff]
  simp only [List.all_eq_true, List.mem_range, beq_iff_eq, decide_eq_true_eq]
  constructor
  · intro h
    apply List.ext_getElem (by omega)
    intro i h1 h2
    have := h i (by omega)
    simpa [List.getD_eq_getElem?_getD, h1, h2] using this
  · intro h; subst h; intro o ho; rfl
theorem equalIn_flat {d t : Nat} {k : IntKind} {m : Nat} {as bs : List Int} (hf : flatB P t k m = true) (ha : as.length = m) (hb : bs.length = m) :
    (Op.equalIn (d + 2) t (.agg (as.map (Value.int k)).toArray) (.agg (bs.map (Value.int k)).toArray)).run P w = .ok (decide (as = bs)) w := by
  unfold flatB at hf
  split at hf
  · rename_i fs hs
    simp only [Bool.and_eq_true, beq_iff_eq, List.all_eq_true, bne_iff_ne, Bool.not_eq_true'] at hf
    obtain ⟨⟨hoff, hall⟩, hst⟩ := hf
    have hfo : P.fieldsOf t = fs := by simp [Program.fieldsOf, hs]
    rw [run_equalIn_struct w (d + 1) t _ _ (by rw [hfo]; exact hs) hst, hfo]
    rw [eqFields_flat (d := d) (k := k) (A := fun o => as.getD o 0) (B := fun o => bs.getD o 0) fs.toList]
    · congr 1
      rw [← all_range as bs m ha hb, ← hoff]
      simp [List.all_map]
    · intro f hfm
      obtain ⟨hn, hk⟩ := hall f hfm
      have hlt : f.offset < m := by
        have : f.offset ∈ List.range m := by rw [← hoff]; exact List.mem_map_of_mem hfm
        simpa using this
      refine ⟨hn, ?_, ?_, ?_⟩
      · revert hk
        split
        · rename_i k' hk'
          intro hkk
          rw [hk']
          simp only [beq_iff_eq] at hkk
          rw [hkk]
        · intro h; cases h
      · simp [List.getD_eq_getElem?_getD, List.getElem?_eq_getElem (by omega : f.offset < as.length)]
      · simp [List.getD_eq_getElem?_getD, List.getElem?_eq_getElem (by omega : f.offset < bs.length)]
  · cases hf
section
variable {n : Nat} {fr : Fr} {ty : TypeId}
theorem guard_none {op : BinOp} {t : TypeId} {x y : Operand} {xs ys : Array Value} (hm : P.eqGuardType P.depth t = false) : (eqGuard op t x y (.agg xs) (.agg ys)).run P w = .ok () w := run_eqGuard_agg w op t x y xs ys hm
theorem dv_eqls {x y : Operand} {t t' : TypeId} {k : IntKind} {m : Nat} {la lb : List Int} (hf : flatB P t k m = true) (hm : P.eqGuardType P.depth t = false) (hx : EV n fr x (.agg (la.map (Value.int k)).toArray)) (hy : EV n fr y (.agg (lb.map (Value.int k)).toArray))
    (ha : la.length = m) (hb : lb.length = m) : DV P n (.binOp .eql t x y t') ty fr w (.bool (decide (la = lb))) := fun _ _ _ _ => by
  unfold EV at hx hy
  have h := equalIn_flat (P := P) (w := w) (d := 9998) (as := la) (bs := lb) hf ha hb
  simp only [execOp, hx, hy, Sem.run_bind, guard_none hm, Result.andThen_ok, run_eql_struct, h, Sem.run_pure]
end
end
theorem vt {q : Prop} [Decidable q] (h : q) : Value.bool true = Value.bool (decide q) := by rw [decide_eq_true h]
theorem vf {q : Prop} [Decidable q] (h : ¬ q) : Value.bool false = Value.bool (decide q) := by rw [decide_eq_false h]
theorem vb {p q : Prop} [Decidable p] [Decidable q] (h : p ↔ q) : Value.bool (decide p) = Value.bool (decide q) := by congr 1; exact decide_eq_decide.2 h
theorem vi {k : IntKind} {a b : Int} (h : a = b) : Value.int k a = Value.int k b := by rw [h]
theorem tu2 {a b a' b' : Value} (h1 : a = a') (h2 : b = b') : Value.tuple #[a, b] = Value.tuple #[a', b'] := by rw [h1, h2]
theorem ag2 {a b a' b' : Value} (h1 : a = a') (h2 : b = b') : Value.agg #[a, b] = Value.agg #[a', b'] := by rw [h1, h2]
theorem wr_i64 {x : Int} (h0 : -9223372036854775808 ≤ x) (h1 : x ≤ 9223372036854775807) : IntKind.i64.wrap x = x := by rw [IntKind.wrap_i64]; omega
theorem wr_u64 (x : Int) : IntKind.u64.wrap x = x % 18446744073709551616 := by simp [IntKind.wrap, IntKind.signed, IntKind.bits]
theorem wr_u32 (x : Int) : IntKind.u32.wrap x = x % 4294967296 := by simp [IntKind.wrap, IntKind.signed, IntKind.bits]
theorem wn_u64 {x : Int} (h0 : 0 ≤ x) (h1 : x < 18446744073709551616) : IntKind.u64.wrap x = x := by rw [wr_u64]; omega
theorem wn_u32 {x : Int} (h0 : 0 ≤ x) (h1 : x < 4294967296) : IntKind.u32.wrap x = x := by rw [wr_u32]; omega
theorem shr_c {a m : Int} {n : Nat} (h0 : 0 ≤ a) (hm : (2 : Int) ^ n = m) : a.fdiv (2 ^ n) = a / m := by
  subst hm
  exact Int.fdiv_eq_ediv_of_nonneg a (Int.le_of_lt (Int.pow_pos (by decide)))
theorem xor_u64 {a : Int} (h0 : 0 ≤ a) (h1 : a < 18446744073709551616) : bitV .u64 .xor (if IntKind.u64.signed then -1 else IntKind.u64.max) a = 18446744073709551615 - a := by
  obtain ⟨n, rfl⟩ := Int.eq_ofNat_of_zero_le h0
  have e1 : (if IntKind.u64.signed then -1 else IntKind.u64.max : Int) = 18446744073709551615 := by decide
  rw [e1]
  have e2 : BitVec.ofInt 64 18446744073709551615 = BitVec.allOnes 64 := by decide
  show IntKind.u64.wrap ((BitVec.ofInt 64 18446744073709551615 ^^^ BitVec.ofInt 64 (n : Int)).toNat : Int) = _
  rw [e2, BitVec.allOnes_xor, BitVec.toNat_not, BitVec.ofInt_natCast, BitVec.toNat_ofNat, wr_u64]
  omega
theorem or_add {k : IntKind} {a b : Int} {i : Nat} (hk : k.signed = false) (h0 : 0 ≤ a) (h1 : a < 2 ^ i) (hb0 : 0 ≤ b) (hb : b % 2 ^ i = 0) (hb1 : b < 2 ^ k.bits) (ha1 : a < 2 ^ k.bits) : bitV k .or a b = a + b ∧ bitV k .or b a = a + b := by
  obtain ⟨n, rfl⟩ := Int.eq_ofNat_of_zero_le h0
  obtain ⟨m, rfl⟩ := Int.eq_ofNat_of_zero_le hb0
  have hn : n < 2 ^ i := by have : ((2 ^ i : Nat) : Int) = 2 ^ i := by simp
                            omega
  have hm : m % 2 ^ i = 0 := by have : ((m % 2 ^ i : Nat) : Int) = (m : Int) % 2 ^ i := by simp
                                omega
  have hmk : m < 2 ^ k.bits := by have : ((2 ^ k.bits : Nat) : Int) = 2 ^ k.bits := by simp
                                  omega
  have hnk : n < 2 ^ k.bits := by have : ((2 ^ k.bits : Nat) : Int) = 2 ^ k.bits := by simp
                                  omega
  have e : m = 2 ^ i * (m / 2 ^ i) := by have := Nat.div_add_mod m (2 ^ i); omega
  have hor : m ||| n = m + n := by rw [e, ← Nat.two_pow_add_eq_or_of_lt hn]
  have hlt : m + n < 2 ^ k.bits := by rw [← hor]; exact Nat.or_lt_two_pow hmk hnk
  have hw : k.wrap ((m + n : Nat) : Int) = (m : Int) + n := by
    cases k <;> simp [IntKind.signed] at hk <;> simp [IntKind.bits] at hlt <;> simp [IntKind.wrap, IntKind.signed, IntKind.bits] <;> omega
  have hl : ∀ x y : Nat, x < 2 ^ k.bits → y < 2 ^ k.bits → bitV k .or (x : Int) (y : Int) = k.wrap ((x ||| y : Nat) : Int) := fun x y hx hy => by
    simp only [bitV, BitVec.ofInt_natCast, BitVec.toNat_or, BitVec.toNat_ofNat, Nat.mod_eq_of_lt hx, Nat.mod_eq_of_lt hy]
  refine ⟨?_, ?_⟩
  · rw [hl n m hnk hmk, Nat.or_comm, hor, hw]; omega
  · rw [hl m n hmk hnk, hor, hw]; omega
theorem mul_bd {a b A B : Int} (h1 : -A ≤ a) (h2 : a ≤ A) (h3 : -B ≤ b) (h4 : b ≤ B) : -(A * B) ≤ a * b ∧ a * b ≤ A * B := by
  have hA : 0 ≤ A := by omega
  have hB : 0 ≤ B := by omega
  have e : (a * b).natAbs ≤ (A * B).natAbs := by
    rw [Int.natAbs_mul, Int.natAbs_mul]
    exact Nat.mul_le_mul (by omega) (by omega)
  have hAB : 0 ≤ A * B := Int.mul_nonneg hA hB
  omega
end Go.Proofs.Ytmbpomcbdopgnaa.Fw
namespace Go.Proofs.Ytmbpomcbdopgnaa.Fw
section
variable {B : Int}
theorem okW.tail {x : Int} {xs : List Int} (h : okW B (x :: xs)) : okW B xs := fun y hy => h y (List.mem_cons_of_mem _ hy)
theorem okW.head {x : Int} {xs : List Int} (h : okW B (x :: xs)) : 0 ≤ x ∧ x < B := h x (by simp)
theorem okW.nil : okW B [] := fun x hx => by cases hx
theorem okW.cons {x : Int} {xs : List Int} (h0 : 0 ≤ x) (h1 : x < B) (h : okW B xs) : okW B (x :: xs) := by
  intro y hy
  rcases List.mem_cons.1 hy with rfl | hy
  · exact ⟨h0, h1⟩
  · exact h y hy
theorem okW.append {xs ys : List Int} (h : okW B xs) (h2 : okW B ys) : okW B (xs ++ ys) := by
  intro y hy
  rcases List.mem_append.1 hy with hy | hy
  · exact h y hy
  · exact h2 y hy
theorem okW.take {xs : List Int} (h : okW B xs) (n : Nat) : okW B (xs.take n) := fun y hy => h y (List.mem_of_mem_take hy)
theorem okW.drop {xs : List Int} (h : okW B xs) (n : Nat) : okW B (xs.drop n) := fun y hy => h y (List.mem_of_mem_drop hy)
theorem okW.getD {xs : List Int} (h : okW B xs) (hB : 0 < B) (i : Nat) : 0 ≤ xs.getD i 0 ∧ xs.getD i 0 < B := by
  by_cases hi : i < xs.length
  · have := h xs[i] (List.getElem_mem hi)
    simpa [List.getD_eq_getElem?_getD, hi] using this
  · simp [List.getD_eq_getElem?_getD, List.getElem?_eq_none (by omega : xs.length ≤ i), hB]
theorem okW.set {xs : List Int} (h : okW B xs) {z : Int} (h0 : 0 ≤ z) (h1 : z < B) (i : Nat) : okW B (xs.set i z) := by
  intro y hy
  rcases List.mem_or_eq_of_mem_set hy with hy | hy
  · exact h y hy
  · subst hy; exact ⟨h0, h1⟩
theorem okW.replicate (hB : 0 < B) (n : Nat) : okW B (List.replicate n 0) := by
  intro y hy; rw [List.eq_of_mem_replicate hy]; exact ⟨Int.le_refl _, hB⟩
theorem valB_nonneg (hB : 0 ≤ B) : ∀ {xs : List Int}, okW B xs → 0 ≤ valB B xs
  | [], _ => Int.le_refl _
  | x :: xs, h => by
    have := valB_nonneg hB h.tail
    have h1 := h.head
    simp only [valB]
    have := Int.mul_nonneg hB this
    omega
theorem valB_lt (hB : 0 ≤ B) : ∀ {xs : List Int}, okW B xs → valB B xs < B ^ xs.length
  | [], _ => by simp [valB]
  | x :: xs, h => by
    have ih := valB_lt hB h.tail
    have h1 := h.head
    simp only [valB, List.length_cons, Int.pow_succ]
    have h2 : B * (valB B xs + 1) ≤ B * B ^ xs.length := Int.mul_le_mul_of_nonneg_left (by omega) hB
    rw [Int.mul_add, Int.mul_one] at h2
    rw [Int.mul_comm (B ^ xs.length) B]
    omega
theorem valB_append (xs ys : List Int) : valB B (xs ++ ys) = valB B xs + B ^ xs.length * valB B ys := by
  induction xs with
  | nil => simp [valB]
  | cons x xs ih => simp only [List.cons_append, valB, ih, List.length_cons, Int.pow_succ]; grind
theorem valB_snoc (xs : List Int) (y : Int) : valB B (xs ++ [y]) = valB B xs + B ^ xs.length * y := by
  rw [valB_append]; simp [valB]
theorem take_snoc (xs : List Int) (i : Nat) (h : i < xs.length) : xs.take (i + 1) = xs.take i ++ [xs.getD i 0] := by
  rw [List.take_succ_eq_append_getElem h]; simp [List.getD_eq_getElem?_getD, h]
theorem valB_take_succ (xs : List Int) (i : Nat) (h : i < xs.length) : valB B (xs.take (i + 1)) = valB B (xs.take i) + B ^ i * xs.getD i 0 := by
  rw [take_snoc xs i h, valB_snoc, List.length_take, Nat.min_eq_left (by omega)]
theorem valB_take_ge (xs : List Int) (i : Nat) (h : xs.length ≤ i) : valB B (xs.take i) = valB B xs := by rw [List.take_of_length_le h]
theorem valB_take_succ' (xs : List Int) (i : Nat) : valB B (xs.take (i + 1)) = valB B (xs.take i) + B ^ i * xs.getD i 0 := by
  by_cases h : i < xs.length
  · exact valB_take_succ xs i h
  · rw [List.take_of_length_le (by omega), List.take_of_length_le (by omega), List.getD_eq_getElem?_getD, List.getElem?_eq_none (by omega)]; simp
theorem valB_split (xs : List Int) (i : Nat) : valB B xs = valB B (xs.take i) + B ^ (min i xs.length) * valB B (xs.drop i) := by
  conv => lhs; rw [← List.take_append_drop i xs, valB_append, List.length_take]
theorem valB_zeros (n : Nat) : valB B (List.replicate n 0) = 0 := by
  induction n with
  | zero => rfl
  | succ n ih => simp [List.replicate_succ, valB, ih]
theorem take_set_le (xs : List Int) (i j : Nat) (z : Int) (h : i ≤ j) : (xs.set j z).take i = xs.take i := by
  rw [List.take_set]; rw [List.set_eq_of_length_le]; rw [List.length_take]; omega
theorem take_set_succ (xs : List Int) (i : Nat) (z : Int) (h : i < xs.length) : (xs.set i z).take (i + 1) = xs.take i ++ [z] := by
  rw [take_snoc _ _ (by simpa using h), take_set_le _ _ _ _ (Nat.le_refl _)]
  simp [List.getD_eq_getElem?_getD, h]
theorem getD_set_eq (xs : List Int) (i : Nat) (z : Int) (h : i < xs.length) : (xs.set i z).getD i 0 = z := by simp [List.getD_eq_getElem?_getD, h]
theorem getD_set_neQ (xs : List Int) (i j : Nat) (z : Int) (h : i ≠ j) : (xs.set i z).getD j 0 = xs.getD j 0 := by simp [List.getD_eq_getElem?_getD, h]
theorem valB_set (xs : List Int) (i : Nat) (z : Int) (h : i < xs.length) : valB B (xs.set i z) = valB B xs + B ^ i * (z - xs.getD i 0) := by
  induction xs generalizing i with
  | nil => simp at h
  | cons x xs ih =>
    cases i with
    | zero => simp [valB]; omega
    | succ i =>
      have := ih i (by simpa using h)
      simp only [List.set_cons_succ, valB, this, Int.pow_succ, List.getD_cons_succ]
      grind
def trimL (xs : List Int) : List Int := (xs.reverse.dropWhile (· == 0)).reverse
theorem trimL_snoc_zero (xs : List Int) : trimL (xs ++ [0]) = trimL xs := by simp [trimL]
theorem trimL_snoc (xs : List Int) {x : Int} (h : x ≠ 0) : trimL (xs ++ [x]) = xs ++ [x] := by simp [trimL, h]
theorem list_snoc (xs : List Int) (h : 0 < xs.length) : xs = xs.take (xs.length - 1) ++ [xs.getD (xs.length - 1) 0] := by
  have := take_snoc xs (xs.length - 1) (by omega)
  rw [Nat.sub_add_cancel h] at this
  rw [← this, List.take_of_length_le (Nat.le_refl _)]
theorem trimL_spec (n : Nat) : ∀ xs : List Int, xs.length = n → trimL xs = xs.take (trimL xs).length ∧ (trimL xs).length ≤ xs.length ∧ canon (trimL xs) ∧ valB B (trimL xs) = valB B xs := by
  induction n with
  | zero =>
    intro xs h
    obtain rfl := List.eq_nil_of_length_eq_zero h
    simp [trimL, canon]
  | succ n ih =>
    intro xs h
    rw [list_snoc xs (by omega), show xs.length - 1 = n by omega]
    by_cases hz : xs.getD n 0 = 0
    · rw [hz, trimL_snoc_zero]
      obtain ⟨h1, h2, h3, h4⟩ := ih (xs.take n) (by simp; omega)
      refine ⟨?_, ?_, h3, ?_⟩
      · rw [List.take_append_of_le_length h2]; exact h1
      · simp at h2 ⊢; omega
      · rw [h4, valB_snoc]; simp
    · rw [trimL_snoc _ hz]
      refine ⟨by rw [List.take_of_length_le (Nat.le_refl _)], Nat.le_refl _, ?_, rfl⟩
      simpa [canon, List.getD_eq_getElem?_getD] using hz
theorem trimL_take (xs : List Int) : trimL xs = xs.take (trimL xs).length := (trimL_spec (B := 0) _ xs rfl).1
theorem trimL_len (xs : List Int) : (trimL xs).length ≤ xs.length := (trimL_spec (B := 0) _ xs rfl).2.1
theorem trimL_canon (xs : List Int) : canon (trimL xs) := (trimL_spec (B := 0) _ xs rfl).2.2.1
theorem trimL_val (xs : List Int) : valB B (trimL xs) = valB B xs := (trimL_spec _ xs rfl).2.2.2
theorem trimL_ok {xs : List Int} (h : okW B xs) : okW B (trimL xs) := by rw [trimL_take]; exact h.take _
theorem canon_ge (hB : 0 < B) {xs : List Int} (h : okW B xs) (hc : canon xs) (hn : 0 < xs.length) : B ^ (xs.length - 1) ≤ valB B xs := by
  have e := list_snoc xs hn
  have hx : xs.getD (xs.length - 1) 0 ≠ 0 := by
    intro h0
    apply hc
    rw [List.getLast?_eq_getElem?]
    have hl : xs.length - 1 < xs.length := by omega
    simp only [List.getD_eq_getElem?_getD, List.getElem?_eq_getElem hl, Option.getD_some] at h0
    rw [List.getElem?_eq_getElem hl, h0]
  have h1 := h.getD hB (xs.length - 1)
  have h2 := valB_nonneg (Int.le_of_lt hB) (h.take (xs.length - 1))
  rw [e, valB_snoc]
  have hl : (xs.take (xs.length - 1)).length = xs.length - 1 := by simp
  have h3 : B ^ (xs.length - 1) * 1 ≤ B ^ (xs.length - 1) * xs.getD (xs.length - 1) 0 := Int.mul_le_mul_of_nonneg_left (by omega) (Int.le_of_lt (Int.pow_pos hB))
  rw [hl]
  have e2 : (xs.take (xs.length - 1) ++ [xs.getD (xs.length - 1) 0]).length = xs.length := by simp; omega
  rw [e2]
  omega
theorem canon_pos (hB : 0 < B) {xs : List Int} (h : okW B xs) (hc : canon xs) : 0 < xs.length ↔ 0 < valB B xs := by
  constructor
  · intro hn
    have := canon_ge hB h hc hn
    have : 0 < B ^ (xs.length - 1) := Int.pow_pos hB
    omega
  · intro hv
    cases xs with
    | nil => simp [valB] at hv
    | cons x xs => simp
theorem pow_le_of {m n : Nat} (hB : 1 ≤ B) (h : m ≤ n) : B ^ m ≤ B ^ n := by
  obtain ⟨d, rfl⟩ := Nat.le.dest h
  rw [Int.pow_add]
  have h1 : (1 : Int) ≤ B ^ d := Int.pow_pos (by omega)
  have h2 : (0 : Int) ≤ B ^ m := Int.le_of_lt (Int.pow_pos (by omega))
  have := Int.mul_le_mul_of_nonneg_left h1 h2
  omega
theorem lt_of_len (hB : 1 ≤ B) {xs ys : List Int} (hx : okW B xs) (hy : okW B ys) (hcy : canon ys) (h : xs.length < ys.length) : valB B xs < valB B ys := by
  have h1 := valB_lt (by omega) hx
  have h2 := canon_ge (by omega) hy hcy (by omega)
  have h3 := pow_le_of hB (show xs.length ≤ ys.length - 1 by omega)
  omega
theorem lt_of_word (hB : 0 < B) {xs ys : List Int} (hx : okW B xs) (hy : okW B ys) (i : Nat) (hlx : i < xs.length) (hly : i < ys.length) (hd : valB B (xs.drop (i + 1)) = valB B (ys.drop (i + 1))) (hw : xs.getD i 0 < ys.getD i 0) :
    valB B xs < valB B ys := by
  have e1 := valB_split (B := B) xs (i + 1)
  have e2 := valB_split (B := B) ys (i + 1)
  rw [Nat.min_eq_left (by omega)] at e1 e2
  rw [valB_take_succ xs i hlx] at e1
  rw [valB_take_succ ys i hly] at e2
  have b1 := valB_lt (Int.le_of_lt hB) (hx.take i)
  rw [List.length_take, Nat.min_eq_left (by omega)] at b1
  have b2 := valB_nonneg (Int.le_of_lt hB) (hy.take i)
  have h3 : B ^ i * (xs.getD i 0 + 1) ≤ B ^ i * ys.getD i 0 := Int.mul_le_mul_of_nonneg_left (by omega) (Int.le_of_lt (Int.pow_pos hB))
  rw [Int.mul_add, Int.mul_one] at h3
  rw [e1, e2, hd]
  omega
end
end Go.Proofs.Ytmbpomcbdopgnaa.Fw
namespace Go.Proofs.Ytmbpomcbdopgnaa.Fw
open Go Go.RowKit
section
variable {P : Program} {n : Nat} {fr : Fr} {w : World} {ty : TypeId}
theorem dv_indexW {t e : TypeId} {x y : Operand} {g o l c i : Nat} {k : IntKind} {j : Int} (ht : P.underlying t = some (.slice e)) (hs : sizeB P e = some 1)
    (hx : EV n fr x (.slice (some ⟨g, o, none⟩) l c)) (hy : EV n fr y (.int k j)) (hj : j = (i : Nat)) (hl : i < l) : DV P n (.indexAddr t x y) ty fr w (.pointer (some ⟨g, o + i, none⟩)) :=
  dv_indexAddr ht hs hx hy (by omega) (by omega) (by subst hj; exact addr_add)
theorem dv_indexO {t e : TypeId} {x y : Operand} {g l c i : Nat} {k : IntKind} {j : Int} (ht : P.underlying t = some (.slice e)) (hs : sizeB P e = some 1)
    (hx : EV n fr x (.slice (some ⟨g, 0, none⟩) l c)) (hy : EV n fr y (.int k j)) (hj : j = (i : Nat)) (hl : i < l) : DV P n (.indexAddr t x y) ty fr w (.pointer (some ⟨g, i, none⟩)) :=
  dv_indexAddr ht hs hx hy (by omega) (by omega) (by subst hj; rw [show ((i : Nat) : Int).toNat = i from rfl, addr_add, Nat.zero_add])
theorem dv_sliceH {t e : TypeId} {x h : Operand} {ad : Option Addr} {l c sz i : Nat} {k : IntKind} {j : Int} (ht : P.underlying t = some (.slice e)) (hs : sizeB P e = some sz)
    (hx : EV n fr x (.slice ad l c)) (hh : EV n fr h (.int k j)) (hj : j = (i : Nat)) (h1 : i ≤ c) : DV P n (.slice t x none (some h) none) ty fr w (.slice ad i c) := by
  subst hj
  exact dv_slice_h ht hs hx hh (by omega) (by omega)
theorem oe_makeW {t e : TypeId} {x y : Operand} {kl kc k : IntKind} {l bytes : Nat} {j : Int} {K : Value → World → Prop} (ht : P.underlying t = some (.slice e))
    (hi : (P.info? e).map (fun i => (i.zero, i.size, i.bytes)) = some (some (.int k 0), 1, bytes)) (hx : EV n fr x (.int kl j)) (hy : EV n fr y (.int kc j)) (hj : j = (l : Nat)) (hb : bytes * l ≤ 281474976710656) (hl : l ≤ 281474976710656)
    (h : ∀ b w', New w b (.cells ((List.replicate l (0 : Int)).map (Value.int k)).toArray e) w' → K (.slice (some ⟨b, 0, none⟩) l l) w') : OE P n (.makeSlice t x y) ty fr w K := by
  subst hj
  refine oe_makeSlice ht hi rfl hx hy hb hl fun b w' hn => h b w' ?_
  rw [List.map_replicate]
  exact hn
end
theorem Wd.ownW {w : World} {T : Nat} {k : IntKind} {b : Nat} {xs : List Int} {fz : Nat × Nat} (hb : w.heap[b]? = some (.cells (xs.map (Value.int k)).toArray T fz)) : Wd w T k (some ⟨b, 0, none⟩) xs :=
  Wd.own (r := []) (by simpa using hb)
theorem Wd.trim {w : World} {T : Nat} {k : IntKind} {A : Option Addr} {xs : List Int} (h : Wd w T k A xs) : Wd w T k A (trimL xs) := by rw [trimL_take]; exact h.take _
def Wc (m T : Nat) (k : IntKind) (w : World) (A : Option Addr) (l c : Nat) (x : Int) : Prop :=
  ∃ xs : List Int, xs.length = l ∧ l ≤ c ∧ Wd w T k A xs ∧ okW (2 ^ m) xs ∧ canon xs ∧ x = valB (2 ^ m) xs
def Ws (m T : Nat) (k : IntKind) (w : World) (A : Option Addr) (l c : Nat) (x : Int) : Prop :=
  ∃ xs : List Int, xs.length = l ∧ l ≤ c ∧ Wd w T k A xs ∧ okW (2 ^ m) xs ∧ x = valB (2 ^ m) xs
section
variable {m T : Nat} {k : IntKind} {w w' : World} {neg : Bool} {A : Option Addr} {l c : Nat} {z x : Int} {s : Nat}
theorem Wc.ws (h : Wc m T k w A l c x) : Ws m T k w A l c x := by obtain ⟨xs, h1, h2, h3, h4, h5, h6⟩ := h; exact ⟨xs, h1, h2, h3, h4, h6⟩
theorem Wc.ext (h : Wc m T k w A l c x) (e : Ext w w') : Wc m T k w' A l c x := by obtain ⟨xs, h1, h2, h3, h4⟩ := h; exact ⟨xs, h1, h2, h3.ext e, h4⟩
theorem Ws.ext (h : Ws m T k w A l c x) (e : Ext w w') : Ws m T k w' A l c x := by obtain ⟨xs, h1, h2, h3, h4⟩ := h; exact ⟨xs, h1, h2, h3.ext e, h4⟩
theorem Wc.st {b T' : Nat} {cs' : Array Value} {fz' : Nat × Nat} (h : Wc m T k w A l c x) (e : St b w w') (hb : w.heap[b]? = some (.cells cs' T' fz')) (hT : T' ≠ T) : Wc m T k w' A l c x := by
  obtain ⟨xs, h1, h2, h3, h4⟩ := h; exact ⟨xs, h1, h2, h3.st e hb hT, h4⟩
theorem Ws.st {b T' : Nat} {cs' : Array Value} {fz' : Nat × Nat} (h : Ws m T k w A l c x) (e : St b w w') (hb : w.heap[b]? = some (.cells cs' T' fz')) (hT : T' ≠ T) : Ws m T k w' A l c x := by
  obtain ⟨xs, h1, h2, h3, h4⟩ := h; exact ⟨xs, h1, h2, h3.st e hb hT, h4⟩
theorem two_pos (m : Nat) : (0 : Int) < 2 ^ m := Int.pow_pos (by decide)
theorem Ws.nonneg (h : Ws m T k w A l c x) : 0 ≤ x := by obtain ⟨xs, h1, h2, h3, h4, h5⟩ := h; rw [h5]; exact valB_nonneg (Int.le_of_lt (two_pos m)) h4
theorem Wc.nonneg (h : Wc m T k w A l c x) : 0 ≤ x := h.ws.nonneg
theorem Wc.cap (h : Wc m T k w A l c x) : l ≤ c := by obtain ⟨xs, h1, h2, _⟩ := h; exact h2
theorem Wc.pos (h : Wc m T k w A l c x) : 0 < l ↔ 0 < x := by
  obtain ⟨xs, h1, h2, h3, h4, h5, h6⟩ := h
  rw [← h1, h6]; exact canon_pos (two_pos m) h4 h5
theorem Wc.zero {c : Nat} : Wc m T k w none 0 c 0 := ⟨[], rfl, Nat.zero_le _, .nil, .nil, by simp [canon], rfl⟩
theorem Num.wc (h : Num m T k w neg A l c z s) : Wc m T k w A l c (z.natAbs : Int) := by
  obtain ⟨xs, h1, h2, h3, h4, h5, h6, h7, h8⟩ := h
  refine ⟨xs, h1, h2, h3, h4, h5, ?_⟩
  have := valB_nonneg (Int.le_of_lt (two_pos m)) h4
  rw [h7]
  cases neg <;> simp [sg] <;> omega
theorem Num.neg_iff (h : Num m T k w neg A l c z s) : neg = true ↔ z < 0 := by
  obtain ⟨xs, h1, h2, h3, h4, h5, h6, h7, h8⟩ := h
  have h9 := valB_nonneg (Int.le_of_lt (two_pos m)) h4
  have h10 := canon_pos (two_pos m) h4 h5
  rw [h7]
  cases neg
  · simp [sg]; exact h9
  · simp only [true_iff, sg, if_true]
    have := h6 rfl
    have := h10.1 (by omega)
    omega
theorem Num.pos_iff (h : Num m T k w neg A l c z s) : 0 < l ↔ z ≠ 0 := by
  have := h.wc.pos
  omega
theorem Wc.num {neg' : Bool} (h : Wc m T k w A l c x) (hn : neg' = true → x ≠ 0) (hz : z = sg neg' x) (hs : x < 2 ^ s) : Num m T k w neg' A l c z s := by
  have hp := h.pos
  have h0 := h.nonneg
  obtain ⟨xs, h1, h2, h3, h4, h5, h6⟩ := h
  refine ⟨xs, h1, h2, h3, h4, h5, fun hh => ?_, by rw [hz, h6], ?_⟩
  · have := hn hh
    omega
  · have e : (z.natAbs : Int) = x := by rw [hz]; cases neg' <;> simp [sg] <;> omega
    have e2 : ((2 ^ s : Nat) : Int) = 2 ^ s := by simp
    omega
theorem Num.ltI (h : Num m T k w neg A l c z s) : (z.natAbs : Int) < 2 ^ s := by
  have := h.lt
  have e2 : ((2 ^ s : Nat) : Int) = 2 ^ s := by simp
  omega
theorem valB_sz {xs : List Int} {n : Nat} (h : okW (2 ^ m) xs) (hl : xs.length = n) : valB (2 ^ m) xs < 2 ^ (m * n) := by
  have := valB_lt (Int.le_of_lt (two_pos m)) h
  rw [hl, ← Int.pow_mul] at this
  exact this
theorem okW_lit {B : Int} {xs : List Int} (h : ∀ x ∈ xs, 0 ≤ x ∧ x < B) : okW B xs := h
theorem sz_add {x y : Int} {s t : Nat} (hx : x < 2 ^ s) (hy : y < 2 ^ t) : x + y < 2 ^ (max s t + 1) := by
  have h1 := pow_le_of (B := 2) (by decide) (Nat.le_max_left s t)
  have h2 := pow_le_of (B := 2) (by decide) (Nat.le_max_right s t)
  rw [Int.pow_succ]
  omega
theorem sg_add {na nb : Bool} {x y : Int} (ha : na = true ↔ x < 0) (hb : nb = true ↔ y < 0) (h : (na == nb) = true) : sg na ((x.natAbs : Int) + (y.natAbs : Int)) = x + y := by
  cases na <;> cases nb <;> simp at h ha hb <;> simp [sg] <;> omega
theorem sg_sub {na nb : Bool} {x y : Int} (ha : na = true ↔ x < 0) (hb : nb = true ↔ y < 0) (h : (na == nb) = false) : sg na ((x.natAbs : Int) - (y.natAbs : Int)) = x + y := by
  cases na <;> cases nb <;> simp at h ha hb <;> simp [sg] <;> omega
theorem sg_sub' {na nb : Bool} {x y : Int} (ha : na = true ↔ x < 0) (hb : nb = true ↔ y < 0) (h : (na == nb) = false) : sg nb ((y.natAbs : Int) - (x.natAbs : Int)) = x + y := by
  cases na <;> cases nb <;> simp at h ha hb <;> simp [sg] <;> omega
theorem sg_not {na : Bool} {x : Int} (ha : na = true ↔ x < 0) : sg (!na) (x.natAbs : Int) = -x := by
  cases na <;> simp at ha <;> simp [sg] <;> omega
theorem sg_mul {na nb : Bool} {x y : Int} (ha : na = true ↔ x < 0) (hb : nb = true ↔ y < 0) : sg (na != nb) ((x.natAbs : Int) * (y.natAbs : Int)) = x * y := by
  have ex : (x.natAbs : Int) = if na then -x else x := by cases na <;> simp at ha <;> simp <;> omega
  have ey : (y.natAbs : Int) = if nb then -y else y := by cases nb <;> simp at hb <;> simp <;> omega
  rw [ex, ey]
  cases na <;> cases nb <;> simp [sg, Int.mul_neg, Int.neg_mul]
theorem Wc.len (hm : 0 < m) (h : Wc m T k w A l c x) (hs : x < 2 ^ s) : m * l < s + m ∨ l = 0 := by
  obtain ⟨xs, h1, h2, h3, h4, h5, h6⟩ := h
  by_cases hl : l = 0
  · exact .inr hl
  · refine .inl ?_
    have hg := canon_ge (two_pos m) h4 h5 (by omega)
    rw [← h6, h1, ← Int.pow_mul] at hg
    have hlt : (2 : Int) ^ (m * (l - 1)) < 2 ^ s := by omega
    have : m * (l - 1) < s := by
      rcases Nat.lt_or_ge (m * (l - 1)) s with h | h
      · exact h
      · have := pow_le_of (B := 2) (by decide) h
        omega
    rw [Nat.mul_sub, Nat.mul_one] at this
    have : m ≤ m * l := Nat.le_mul_of_pos_right m (by omega)
    omega
theorem Num.len (hm : 0 < m) (h : Num m T k w neg A l c z s) : m * l < s + m ∨ l = 0 := by
  refine h.wc.len hm ?_
  have := h.lt
  have e2 : ((2 ^ s : Nat) : Int) = 2 ^ s := by simp
  omega
end
end Go.Proofs.Ytmbpomcbdopgnaa.Fw
namespace Go.Proofs.Ytmbpomcbdopgnaa.Fw
section
variable {B : Int}
theorem getD_take (xs : List Int) (n i : Nat) (h : i < n) : (xs.take n).getD i 0 = xs.getD i 0 := by
  simp [List.getD_eq_getElem?_getD, List.getElem?_take, h]
theorem trim_less (xs : List Int) (n : Nat) (h0 : 0 < n) (hn : n ≤ xs.length) (h : (xs.take n).getD (n - 1) 0 = 0) : trimL (xs.take (n - 1)) = trimL (xs.take n) := by
  rw [getD_take xs n (n - 1) (by omega)] at h
  obtain ⟨m, rfl⟩ : ∃ m, n = m + 1 := ⟨n - 1, by omega⟩
  rw [take_snoc xs m (by omega)]
  simp only [Nat.add_sub_cancel] at h ⊢
  rw [h, trimL_snoc_zero]
theorem trim_done (xs : List Int) (n : Nat) (hn : n ≤ xs.length) (ht : trimL (xs.take n) = trimL xs) (h : n = 0 ∨ (xs.take n).getD (n - 1) 0 ≠ 0) : (trimL xs).length = n := by
  rw [← ht]
  by_cases h0 : n = 0
  · subst h0; simp [trimL]
  · have h := h.resolve_left h0
    rw [getD_take xs n (n - 1) (by omega)] at h
    obtain ⟨m, rfl⟩ : ∃ m, n = m + 1 := ⟨n - 1, by omega⟩
    simp only [Nat.add_sub_cancel] at h
    rw [take_snoc xs m (by omega), trimL_snoc _ h]
    simp; omega
theorem getD_ge (xs : List Int) (i : Nat) (h : xs.length ≤ i) : xs.getD i 0 = 0 := by simp [List.getD_eq_getElem?_getD, List.getElem?_eq_none h]
theorem cmp_len (hB : 1 ≤ B) {xs ys : List Int} (hx : okW B xs) (hy : okW B ys) (cx : canon xs) (cy : canon ys) (h : (xs.length : Int) ≠ ys.length) :
    (((xs.length : Int) - ys.length < 0 ↔ valB B xs < valB B ys)) ∧ ((xs.length : Int) - ys.length = 0 ↔ valB B xs = valB B ys) := by
  rcases Nat.lt_or_ge xs.length ys.length with h1 | h1
  · have := lt_of_len hB hx hy cy h1
    omega
  · have := lt_of_len hB hy hx cx (by omega)
    omega
theorem drop_step (xs ys : List Int) (n : Nat) (h0 : 0 < n) (hx : n ≤ xs.length) (hy : n ≤ ys.length) (h : xs.drop n = ys.drop n) (he : xs.getD (n - 1) 0 = ys.getD (n - 1) 0) : xs.drop (n - 1) = ys.drop (n - 1) := by
  rw [List.drop_eq_getElem_cons (by omega : n - 1 < xs.length), List.drop_eq_getElem_cons (by omega : n - 1 < ys.length)]
  simp only [List.getD_eq_getElem?_getD, List.getElem?_eq_getElem (by omega : n - 1 < xs.length), List.getElem?_eq_getElem (by omega : n - 1 < ys.length), Option.getD_some] at he
  rw [he, Nat.sub_add_cancel (by omega), h]
theorem cmp_word (hB : 0 < B) {xs ys : List Int} (hx : okW B xs) (hy : okW B ys) (n : Nat) (h0 : 0 < n) (hlx : n ≤ xs.length) (hly : n ≤ ys.length) (h : xs.drop n = ys.drop n) (hw : xs.getD (n - 1) 0 < ys.getD (n - 1) 0) : valB B xs < valB B ys :=
  lt_of_word hB hx hy (n - 1) (by omega) (by omega) (by rw [Nat.sub_add_cancel (by omega), h]) hw
theorem add_inv {xs ys L : List Int} {i : Nat} {c s : Int} (hL : i < L.length) (h : valB B (L.take i) + c * B ^ i = valB B (xs.take i) + valB B (ys.take i)) (hs : s = xs.getD i 0 + ys.getD i 0 + c) :
    valB B ((L.set i (s % B)).take (i + 1)) + (s / B) * B ^ (i + 1) = valB B (xs.take (i + 1)) + valB B (ys.take (i + 1)) := by
  rw [take_set_succ _ _ _ hL, valB_snoc, List.length_take, Nat.min_eq_left (by omega), valB_take_succ', valB_take_succ', Int.pow_succ]
  have h2 := Int.mul_ediv_add_emod s B
  generalize s / B = q at *
  generalize s % B = r at *
  generalize B ^ i = P at *
  generalize xs.getD i 0 = x at *
  generalize ys.getD i 0 = y at *
  grind
theorem sub_inv (hB : 0 < B) {xs ys L : List Int} {i : Nat} {b : Int} (hL : i < L.length) (h : valB B (L.take i) - b * B ^ i = valB B (xs.take i) - valB B (ys.take i)) (hx : okW B xs) (hy : okW B ys) (hb : 0 ≤ b ∧ b ≤ 1) :
    valB B ((L.set i ((xs.getD i 0 - ys.getD i 0 - b) % B)).take (i + 1)) - (if xs.getD i 0 < ys.getD i 0 + b then 1 else 0) * B ^ (i + 1) = valB B (xs.take (i + 1)) - valB B (ys.take (i + 1)) := by
  rw [take_set_succ _ _ _ hL, valB_snoc, List.length_take, Nat.min_eq_left (by omega), valB_take_succ', valB_take_succ', Int.pow_succ]
  have h1 := hx.getD hB i
  have h2 := hy.getD hB i
  generalize B ^ i = P at *
  generalize xs.getD i 0 = x at *
  generalize ys.getD i 0 = y at *
  by_cases hlt : x < y + b
  · rw [if_pos hlt]
    have e : (x - y - b) % B = x - y - b + B := by
      rw [← Int.add_emod_right, Int.emod_eq_of_lt (by omega) (by omega)]
    rw [e]; grind
  · rw [if_neg hlt, Int.emod_eq_of_lt (by omega) (by omega)]; grind
theorem add_fin (hB : 0 < B) {xs ys L : List Int} {i : Nat} {c : Int} (hl : L.length = xs.length + 1) (hi : i ≤ xs.length) (hge : xs.length ≤ i) (hy : ys.length ≤ xs.length) (h : valB B (L.take i) + c * B ^ i = valB B (xs.take i) + valB B (ys.take i)) :
    valB B xs + valB B ys = valB B (L.set xs.length c) := by
  obtain rfl : i = xs.length := by omega
  rw [valB_take_ge xs _ (Nat.le_refl _), valB_take_ge ys _ hy] at h
  rw [← h, ← valB_take_ge (L.set xs.length c) (xs.length + 1) (by simp; omega), take_set_succ _ _ _ (by omega), valB_snoc, List.length_take, Nat.min_eq_left (by omega), Int.mul_comm]
theorem sub_fin (hB : 0 < B) {xs ys L : List Int} {i : Nat} {b : Int} (hl : L.length = xs.length) (hi : i ≤ xs.length) (hge : xs.length ≤ i) (hy : ys.length ≤ xs.length) (hok : okW B L) (hb : 0 ≤ b ∧ b ≤ 1) (hle : valB B ys ≤ valB B xs)
    (h : valB B (L.take i) - b * B ^ i = valB B (xs.take i) - valB B (ys.take i)) : valB B xs - valB B ys = valB B L := by
  obtain rfl : i = xs.length := by omega
  rw [valB_take_ge xs _ (Nat.le_refl _), valB_take_ge ys _ hy, valB_take_ge L _ (by omega)] at h
  have h1 := valB_lt (Int.le_of_lt hB) hok
  rw [hl] at h1
  have hb' : b = 0 ∨ b = 1 := by omega
  rcases hb' with rfl | rfl
  · omega
  · omega
end
end Go.Proofs.Ytmbpomcbdopgnaa.Fw
namespace Go.Proofs.Ytmbpomcbdopgnaa.Fw
open Go Go.RowKit
section
variable {P : Program} {n : Nat} {fr : Fr} {w : World} {ty : TypeId}
theorem dv_ext {g : Nat} {fn : Func} {e : Array Value → Sem Value} {args : Array Operand} {tys : Array TypeId} {vs : List Value} {v : Value} (hf : P.funcs[g]? = some fn) (hn : (fn.name == "runtime.NumGoroutine") = false) (hb : fn.body.isNone = true)
    (h1 : (Extern.findNext fn).isNone = true) (h2 : Extern.find fn = some e) (ha : args.map (actOf n fr).eval = vs.toArray) (hr : ∀ w, (e vs.toArray).run P w = .ok v w) :
    DV P n (.call { callee := .value (.func g), args := args, argTypes := tys }) ty fr w v := fun _ _ _ _ => by
  have hev : (actOf n fr).eval (.func g) = .func (.func g) #[] #[] := rfl
  have hnx : Extern.findNext fn = none := by simpa using h1
  have hb' : fn.body = none := by simpa using hb
  have hn' : fn.name ≠ "runtime.NumGoroutine" := by simpa using hn
  simp [execOp, resolve, hev, Deferred.ofValue, invoke, callFunc, hf, hn', hb', hnx, h2, ha, hr]
end
theorem run_addE {P : Program} (x y c : Int) (hx : 0 ≤ x) (hy : 0 ≤ y) (hc : 0 ≤ c ∧ c ≤ 1) (w : World) :
    (add64Entry [.int .u64 x, .int .u64 y, .int .u64 c].toArray).run P w = .ok (.tuple #[.int .u64 ((x + y + c) % 18446744073709551616), .int .u64 ((x + y + c) / 18446744073709551616)]) w := run_add64 x y c hx hy hc.1 hc.2 w
def subEntry : Array Value → Sem Value := fun args => do
  let (x, y, b) ← Extern.MathBitsCarry.three "Sub64" args
  pure (Extern.MathBitsCarry.pair ((x + Extern.MathBitsCarry.m64 - y - b) % Extern.MathBitsCarry.m64) (if x < y + b then 1 else 0))
theorem run_subE {P : Program} (x y b : Int) (hx : 0 ≤ x) (hy : 0 ≤ y) (hyl : y < 18446744073709551616) (hb : 0 ≤ b ∧ b ≤ 1) (w : World) :
    (subEntry [.int .u64 x, .int .u64 y, .int .u64 b].toArray).run P w = .ok (.tuple #[.int .u64 ((x - y - b) % 18446744073709551616), .int .u64 (if x < y + b then 1 else 0)]) w := by
  obtain ⟨X, rfl⟩ := Int.eq_ofNat_of_zero_le hx
  obtain ⟨Y, rfl⟩ := Int.eq_ofNat_of_zero_le hy
  obtain ⟨k, rfl⟩ := Int.eq_ofNat_of_zero_le hb.1
  have key : (subEntry [.int .u64 (X : Int), .int .u64 (Y : Int), .int .u64 (k : Int)].toArray).run P w =
      .ok (.tuple #[.int .u64 (((X + 18446744073709551616 - Y - k) % 18446744073709551616 : Nat) : Int), .int .u64 ((if X < Y + k then 1 else 0 : Nat) : Int)]) w := by
    have : k = 0 ∨ k = 1 := by omega
    rcases this with rfl | rfl <;> rfl
  rw [key]
  have e1 : (((X + 18446744073709551616 - Y - k) % 18446744073709551616 : Nat) : Int) = ((X : Int) - Y - k) % 18446744073709551616 := by omega
  have e2 : ((if X < Y + k then 1 else 0 : Nat) : Int) = if (X : Int) < Y + k then 1 else 0 := by
    by_cases h : X < Y + k
    · rw [if_pos h, if_pos (by omega)]; rfl
    · rw [if_neg h, if_neg (by omega)]; rfl
  rw [e1, e2]
def cmpR (r x y : Int) : Prop := (r < 0 ↔ x < y) ∧ (r = 0 ↔ x = y)
theorem cmpR.ge {r x y : Int} (h : cmpR r x y) : 0 ≤ r ↔ y ≤ x := by unfold cmpR at h; omega
theorem cmpR.eq {r x y : Int} (h : cmpR r x y) : r = 0 ↔ x = y := h.2
theorem sz_sub {x y : Int} {s : Nat} (hx : x < 2 ^ s) (h : 0 ≤ y) : x - y < 2 ^ s := by omega
theorem len_le {xs ys : List Int} (hx : okW (2 ^ 64) xs) (hy : okW (2 ^ 64) ys) (cy : canon ys) (hle : valB (2 ^ 64) ys ≤ valB (2 ^ 64) xs) : ys.length ≤ xs.length := by
  rcases Nat.lt_or_ge xs.length ys.length with h | h
  · have := lt_of_len (B := 2 ^ 64) (by decide) hx hy cy h
    omega
  · exact h
def sgnI (n : Int) : Int := if n < 0 then -1 else if 0 < n then 1 else 0
theorem trimL_sz {m s : Nat} {xs : List Int} (h : okW (2 ^ m) xs) (hl : m * xs.length ≤ s) : valB (2 ^ m) (trimL xs) < 2 ^ s := by
  rw [trimL_val]
  have h1 := valB_sz h rfl
  have h2 := pow_le_of (B := 2) (by decide) hl
  omega
theorem cmp_same {B : Int} {xs ys : List Int} (h : xs = ys) : cmpR 0 (valB B xs) (valB B ys) := by subst h; exact ⟨by simp, by simp⟩
def Ow (w : World) (base T : Nat) (k : IntKind) (A : Option Addr) (c : Nat) (L : List Int) : Prop := w.ownsRow base T 1 (.slice A L.length c) L.length (L.map (Value.int k)) ∧ base ≤ w.heap.size
theorem own_keep {w w' : World} {base T n : Nat} {v : Value} {xs : List Value} (h : w.ownsRow base T 1 v n xs) (hk : ∀ g o, w.heap[g]? = some o → base ≤ g → (∃ cs fz, o = .cells cs T fz) → w'.heap[g]? = some o) : w'.ownsRow base T 1 v n xs := by
  refine ⟨h.1, ?_⟩
  rcases h.2 with h | ⟨g, cap, cur, hv, hb, hg, r⟩
  · exact .inl h
  · exact .inr ⟨g, cap, cur, hv, hb, hk g _ hg hb ⟨_, _, rfl⟩, r⟩
theorem Ow.ext {w w' : World} {base T c : Nat} {k : IntKind} {A : Option Addr} {L : List Int} (h : Ow w base T k A c L) (e : Ext w w') : Ow w' base T k A c L := ⟨own_keep h.1 fun g o hg _ _ => e.blk hg, Nat.le_trans h.2 e.size⟩
theorem Ow.st {w w' : World} {base T T' b c : Nat} {k : IntKind} {A : Option Addr} {L : List Int} {cs' : Array Value} {fz' : Nat × Nat} (h : Ow w base T k A c L) (e : St b w w') (hb : w.heap[b]? = some (.cells cs' T' fz')) (hT : T' ≠ T) : Ow w' base T k A c L :=
  ⟨own_keep h.1 fun g o hg _ ⟨cs, fz, ho⟩ => e.blk hg (fun he => by
    subst he; subst ho
    rw [hg] at hb
    injection hb with hb
    injection hb with _ hb _
    exact hT hb.symm), by rw [e.size]; exact h.2⟩
theorem Ow.wd {w : World} {base T c : Nat} {k : IntKind} {A : Option Addr} {L : List Int} (h : Ow w base T k A c L) : Wd w T k A L := by
  rcases h.1.2 with ⟨hv, hn⟩ | ⟨g, cap, cur, hv, hb, hg, h1, h2, h3, h4⟩
  · injection hv with hA _ _
    exact .inl ⟨List.eq_nil_of_length_eq_zero hn, hA⟩
  · injection hv with hA _ hc
    refine .inr ⟨g, 0, cur, _, hA, hg, fun i x hi => ?_⟩
    have hl := (List.getElem?_eq_some_iff.1 hi).1
    have h5 : (cur.toList.take (L.length * 1))[i]? = (L.map (Value.int k))[i]? := by rw [h4]
    rw [List.getElem?_take_of_lt (by omega), List.getElem?_map, hi] at h5
    simpa using h5
theorem Ow.cap {w : World} {base T c : Nat} {k : IntKind} {A : Option Addr} {L : List Int} (h : Ow w base T k A c L) : L.length ≤ c := by
  rcases h.1.2 with ⟨hv, hn⟩ | ⟨g, cap, cur, hv, hb, hg, h1, h2, h3, h4⟩
  · omega
  · injection hv with _ _ hc
    omega
theorem Ow.ge {w : World} {base T c : Nat} {k : IntKind} {A : Option Addr} {L : List Int} (h : Ow w base T k A c L) {g o : Nat} (hA : A = some ⟨g, o, none⟩) : base ≤ g := by
  subst hA
  rcases h.1.2 with ⟨hv, hn⟩ | ⟨g', cap, cur, hv, hb, hg, h1, h2, h3, h4⟩
  · injection hv with hA _ _
    cases hA
  · injection hv with hA _ hc
    injection hA with hA
    injection hA with h5 h6 h7
    subst h5
    exact hb
theorem Wd.stO {w w' : World} {T b : Nat} {k : IntKind} {A : Option Addr} {xs : List Int} (h : Wd w T k A xs) (e : St b w w') (ho : ∀ g o, A = some ⟨g, o, none⟩ → b < g) : Wd w' T k A xs := by
  rcases h with h | ⟨g, off, cs, fz, hA, hg, hc⟩
  · exact .inl h
  · exact .inr ⟨g, off, cs, fz, hA, e.blk hg (by have := ho g off hA; omega), hc⟩
theorem Num.stO {m T b : Nat} {k : IntKind} {w w' : World} {neg : Bool} {A : Option Addr} {l c : Nat} {z : Int} {s : Nat} (h : Num m T k w neg A l c z s) (e : St b w w') (ho : ∀ g o, A = some ⟨g, o, none⟩ → b < g) : Num m T k w' neg A l c z s := by
  obtain ⟨xs, h1, h2, h3, h4⟩ := h
  exact ⟨xs, h1, h2, h3.stO e ho, h4⟩
theorem Ow.made {w w' : World} {b T c : Nat} {k : IntKind} {z : Value} (h : New w b (.cells (List.replicate c z).toArray T) w') (hc : c ≤ 281474976710656) : Ow w' b T k (some ⟨b, 0, none⟩) c [] :=
  ⟨⟨by simp, .inr ⟨b, c, _, rfl, Nat.le_refl _, h.blk, Nat.zero_le _, by simp only [maxLen]; omega, by simp, by simp⟩⟩, Nat.le_of_lt (lt_of_blk h.blk)⟩
theorem Ow.full {w w' : World} {b T : Nat} {k : IntKind} {L : List Int} (h : w'.heap[b]? = some (.cells (L.map (Value.int k)).toArray T)) (hc : L.length ≤ 281474976710656) : Ow w' b T k (some ⟨b, 0, none⟩) L.length L :=
  ⟨⟨by simp, .inr ⟨b, L.length, _, rfl, Nat.le_refl _, h, Nat.le_refl _, by simp only [maxLen]; omega, by simp, by simp [List.take_of_length_le]⟩⟩, Nat.le_of_lt (lt_of_blk h)⟩
theorem below_of_grown {w w' : World} {base : Nat} {row : Option Nat} (h : w.grownBy w' row) (hb : base ≤ w.heap.size) (hr : ∀ g, row = some g → base ≤ g) : Below base w w' :=
  ⟨h.os, h.tape, h.output, h.size, fun k hk => h.block k (by omega) (fun he => by have := hr k he.symm; omega)⟩
theorem own_row_ge {w : World} {base T n : Nat} {v : Value} {xs : List Value} (h : w.ownsRow base T 1 v n xs) : ∀ g, v.ownBlock = some g → base ≤ g := fun g hg => (h.lt g hg).1
theorem own_slice {w : World} {base T n : Nat} {v : Value} {xs : List Value} (h : w.ownsRow base T 1 v n xs) : ∃ A c, v = .slice A n c := by
  rcases h.2 with ⟨rfl, rfl⟩ | ⟨g, cap, cur, rfl, _⟩
  · exact ⟨_, _, rfl⟩
  · exact ⟨_, _, rfl⟩
theorem below_bl {N base : Nat} {w0 w w' : World} (h : Below N w0 w) (hN : N ≤ base) (e : Below base w w') : Below N w0 w' := h.trans (e.mono hN)
theorem bl_blk {base : Nat} {w w' : World} (e : Below base w w') {b : Nat} {o : Obj} (h : w.heap[b]? = some o) (hb : b < base) : w'.heap[b]? = some o := (e.block b hb).trans h
section
variable {P : Program} {n : Nat} {fr : Fr} {w : World} {ty : TypeId}
theorem oe_appendW {t e : TypeId} {x y : Operand} {k : IntKind} {A : Option Addr} {c base bytes g o c2 m : Nat} {L M : List Int} {K : Value → World → Prop} (ht : P.underlying t = some (.slice e))
    (hi : (P.info? e).map (fun i => (i.zero, i.size, i.bytes)) = some (some (.int k 0), 1, bytes)) (hx : EV n fr x (.slice A L.length c)) (hy : EV n fr y (.slice (some ⟨g, o, none⟩) m c2))
    (hO : Ow w base e k A c L) (hW : Wd w e k (some ⟨g, o, none⟩) M) (hm : M.length = m) (hb : (L.length + m) * bytes ≤ 140737488355328) (hl : L.length + m ≤ 140737488355328)
    (h : ∀ A' c' w', Ow w' base e k A' c' (L ++ M) → Below base w w' → K (.slice A' (L ++ M).length c') w') : OE P n (.call { callee := .builtin .append, args := #[x, y], argTypes := #[t, t] }) ty fr w K := by
  cases hin : P.info? e with
  | none => simp [hin] at hi
  | some inf =>
    simp only [hin, Option.map_some, Option.some.injEq, Prod.mk.injEq] at hi
    obtain ⟨h1, h2, h3⟩ := hi
    subst hm
    obtain ⟨v', w', hr, hown, hgr, _⟩ := run_append_own (P := P) w base t ty e inf (.int k 0) 1 bytes ht hin h1 h2 h3 rfl (by decide) (.slice A L.length c) L.length _ hO.1 ⟨g, o, none⟩ M.length c2 (M.map (Value.int k)) (by simp)
      (fun j u hj => by
        have hjl : j < M.length := by have := (List.getElem?_eq_some_iff.1 hj).1; simpa using this
        have ha : (⟨g, o, none⟩ : Addr).add j = ⟨g, o + j, none⟩ := by unfold Addr.add; split <;> simp_all
        rw [ha, hW.cell hjl]
        rw [List.getElem?_map, List.getElem?_eq_getElem hjl] at hj
        simp only [Option.map_some, Option.some.injEq] at hj
        rw [← hj]
        simp [List.getD_eq_getElem?_getD, hjl]) (ints_oneCell k M) (by simp only [maxLen]; omega) hb hO.2
    obtain ⟨A', c', rfl⟩ := own_slice hown
    have hO' : Ow w' base e k A' c' (L ++ M) := by
      unfold Ow
      rw [List.length_append, List.map_append]
      exact ⟨hown, Nat.le_trans hO.2 hgr.size⟩
    have hr' : (Builtin.append_ #[t, t] ty #[.slice A L.length c, .slice (some ⟨g, o, none⟩) M.length c2]).run P w = .ok (.slice A' (L ++ M).length c') w' := by rw [List.length_append]; exact hr
    refine OE.of_run (fun _ _ _ _ => ?_) (h A' c' w' hO' (below_of_grown hgr hO.2 (own_row_ge hO.1)))
    unfold EV at hx hy
    simp only [execOp, resolve, invoke, builtin, hx, hy, hr', List.map_toArray, List.map_cons, List.map_nil, Sem.run_bind, Sem.run_pure, Result.andThen_ok]
theorem stC_mid : ∀ (n : Nat) (cs vs : List Value), n + vs.length ≤ cs.length → stC cs n vs = some (cs.take n ++ vs ++ cs.drop (n + vs.length)) := by
  intro n
  induction n with
  | zero =>
    intro cs vs
    induction vs generalizing cs with
    | nil => intro _; simp [stC_nil]
    | cons v vs ih =>
      intro h
      cases cs with
      | nil => simp at h
      | cons c cs =>
        have := ih cs (by simpa using h)
        simp only [Nat.zero_add] at this ⊢
        simp [stC, this]
  | succ n ih =>
    intro cs vs h
    cases cs with
    | nil => simp at h
    | cons c cs =>
      cases vs with
      | nil => simp [stC]
      | cons v vs =>
        have := ih cs (v :: vs) (by simp at h ⊢; omega)
        simp only [stC, this, Option.map_some, List.take_succ_cons, List.cons_append]
        have e : n + 1 + (v :: vs).length = (n + (v :: vs).length) + 1 := by omega
        rw [e, List.drop_succ_cons]
theorem oe_makeCapW {t e : TypeId} {x y : Operand} {kl kc k : IntKind} {c bytes : Nat} {j : Int} {K : Value → World → Prop} (ht : P.underlying t = some (.slice e))
    (hi : (P.info? e).map (fun i => (i.zero, i.size, i.bytes)) = some (some (.int k 0), 1, bytes)) (hx : EV n fr x (.int kl 0)) (hy : EV n fr y (.int kc j)) (hj : j = (c : Nat)) (hb : bytes * c ≤ 281474976710656) (hl : c ≤ 281474976710656)
    (h : ∀ b w', New w b (.cells (List.replicate c (.int k 0)).toArray e) w' → Ow w' b e k (some ⟨b, 0, none⟩) c [] → K (.slice (some ⟨b, 0, none⟩) 0 c) w') : OE P n (.makeSlice t x y) ty fr w K := by
  subst hj
  exact oe_makeSlice_cap ht hi rfl hx hy hb hl fun b w' hn => h b w' hn (Ow.made hn hl)
def fieldB (P : Program) (s i : Nat) : Option (Nat × Nat) :=
  match P.underlying s with
  | some (.struct fs) => (fs[i]?).map fun f => (f.offset, f.type)
  | _ => none
theorem dv_field {s i off ft : Nat} {x : Operand} {cs : Array Value} {v : Value} (hf : fieldB P s i = some (off, ft)) (ha : aggB P ft = some false) (hx : EV n fr x (.agg cs)) (hc : cs[off]? = some v) : DV P n (.field s x i) ty fr w v := fun _ _ _ _ => by
  unfold EV at hx
  unfold fieldB at hf
  split at hf
  · rename_i fs hs
    simp only [Option.map_eq_some_iff, Prod.mk.injEq] at hf
    obtain ⟨f, hfl, rfl, rfl⟩ := hf
    simp [execOp, hx, Instr.field, underlying, hs, hfl, asAgg, part, run_isAgg ha, hc]
  · cases hf
end
theorem Ow.rep {w' : World} {b T l : Nat} {k : IntKind} (h : w'.heap[b]? = some (.cells ((List.replicate l (0 : Int)).map (Value.int k)).toArray T)) (hc : l ≤ 281474976710656) : Ow w' b T k (some ⟨b, 0, none⟩) l (List.replicate l 0) := by
  have := Ow.full (w := w') h (by simpa using hc)
  simpa using this
theorem quo_c {k : IntKind} {a b z : Int} (h0 : 0 ≤ a) (hb : 0 ≤ b) (hw : k.wrap (a / b) = z) : k.wrap (a.tdiv b) = z := by rw [Int.tdiv_eq_ediv_of_nonneg h0]; exact hw
theorem rem_c {a b z : Int} (h0 : 0 ≤ a) (hw : a % b = z) : a.tmod b = z := by rw [Int.tmod_eq_emod_of_nonneg h0]; exact hw
theorem shl_v {a b : Int} {K : Nat} (hb : b = (K : Nat)) (hK : K ≤ 64) (h0 : 0 ≤ a) (h1 : a * 2 ^ K < 18446744073709551616) : IntKind.u64.wrap (a * 2 ^ (min b.toNat IntKind.u64.bits)) = a * 2 ^ K := by
  subst hb
  have e : min ((K : Nat) : Int).toNat IntKind.u64.bits = K := by simp only [Int.toNat_natCast, IntKind.bits]; omega
  rw [e]
  exact wn_u64 (Int.mul_nonneg h0 (Int.le_of_lt (Int.pow_pos (by decide)))) h1
end Go.Proofs.Ytmbpomcbdopgnaa.Fw
namespace Go.Proofs.Ytmbpomcbdopgnaa.Fw
open Go
def u256 (a3 a2 a1 a0 : Int) : Int := a0 + 18446744073709551616 * (a1 + 18446744073709551616 * (a2 + 18446744073709551616 * a3))
def wz (a3 a2 a1 a0 : Int) : Int := if a3 / 9223372036854775808 = 0 then u256 a3 a2 a1 a0 else u256 a3 a2 a1 a0 - 115792089237316195423570985008687907853269984665640564039457584007913129639936
theorem wz_lo {a3 a2 a1 a0 : Int} (h : a3 / 9223372036854775808 = 0) : sg false (valB (2 ^ 64) [a0, a1, a2, a3]) = wz a3 a2 a1 a0 := by
  have e : (2 : Int) ^ 64 = 18446744073709551616 := by decide
  unfold wz
  rw [if_pos h, e]
  simp [sg, valB, u256]
theorem wz_hi {a3 a2 a1 a0 : Int} (h : ¬ a3 / 9223372036854775808 = 0) :
    sg true (valB (2 ^ 64) (trimL [18446744073709551615 - a0, 18446744073709551615 - a1, 18446744073709551615 - a2, 18446744073709551615 - a3]) + valB (2 ^ 64) [1]) = wz a3 a2 a1 a0 := by
  have e : (2 : Int) ^ 64 = 18446744073709551616 := by decide
  unfold wz
  rw [if_neg h, trimL_val, e]
  simp only [sg, valB, u256, if_true]
  omega
theorem getD_take_or (xs : List Int) (n : Nat) : (n = 0 ∨ (xs.take n).getD (n - 1) 0 ≠ 0) = (n = 0 ∨ xs.getD (n - 1) 0 ≠ 0) := by
  by_cases h : n = 0
  · simp [h]
  · rw [getD_take xs n (n - 1) (by omega)]
theorem add_app {B : Int} {xs ys L : List Int} {i : Nat} {c c2 z : Int} (hl : L.length = i) (h : valB B L + c * B ^ i = valB B (xs.take i) + valB B (ys.take i)) (hz : z + B * c2 = xs.getD i 0 + ys.getD i 0 + c) :
    valB B (L ++ [z]) + c2 * B ^ (i + 1) = valB B (xs.take (i + 1)) + valB B (ys.take (i + 1)) := by
  rw [valB_snoc, hl, valB_take_succ', valB_take_succ', Int.pow_succ]
  have e : B ^ i * (z + B * c2) = B ^ i * (xs.getD i 0 + ys.getD i 0 + c) := by rw [hz]
  simp only [Int.mul_add] at e
  have e2 : c2 * (B ^ i * B) = B ^ i * (B * c2) := by rw [Int.mul_comm c2, Int.mul_assoc]
  have e3 : c * B ^ i = B ^ i * c := Int.mul_comm _ _
  omega
theorem sub_app {B : Int} {xs ys L : List Int} {i : Nat} {c c2 z : Int} (hl : L.length = i) (h : valB B L - c * B ^ i = valB B (xs.take i) - valB B (ys.take i)) (hz : z = xs.getD i 0 - ys.getD i 0 - c + B * c2) :
    valB B (L ++ [z]) - c2 * B ^ (i + 1) = valB B (xs.take (i + 1)) - valB B (ys.take (i + 1)) := by
  rw [valB_snoc, hl, valB_take_succ', valB_take_succ', Int.pow_succ]
  have e : B ^ i * z = B ^ i * (xs.getD i 0 - ys.getD i 0 - c + B * c2) := by rw [hz]
  simp only [Int.mul_add, Int.mul_sub] at e
  have e2 : c2 * (B ^ i * B) = B ^ i * (B * c2) := by rw [Int.mul_comm c2, Int.mul_assoc]
  have e3 : c * B ^ i = B ^ i * c := Int.mul_comm _ _
  omega
theorem okW.snoc {B : Int} {L : List Int} {z : Int} (h : okW B L) (h0 : 0 ≤ z) (h1 : z < B) : okW B (L ++ [z]) := h.append (okW.cons h0 h1 okW.nil)
theorem sub_app_fin {B : Int} {xs ys L : List Int} {i : Nat} {c : Int} (hB : 0 < B) (hl : L.length = i) (hi : xs.length ≤ i) (hy : ys.length ≤ xs.length) (hok : okW B L) (hc : 0 ≤ c ∧ c ≤ 1) (hle : valB B ys ≤ valB B xs) (h : valB B L - c * B ^ i = valB B (xs.take i) - valB B (ys.take i)) :
    valB B L = valB B xs - valB B ys := by
  rw [valB_take_ge xs i hi, valB_take_ge ys i (by omega)] at h
  have h1 := valB_lt (Int.le_of_lt hB) hok
  rw [hl] at h1
  have hc' : c = 0 ∨ c = 1 := by omega
  rcases hc' with rfl | rfl
  · omega
  · omega
theorem add_app_fin {B : Int} {xs ys L : List Int} {i : Nat} {c : Int} (hl : L.length = i) (hi : xs.length ≤ i) (hy : ys.length ≤ xs.length) (h : valB B L + c * B ^ i = valB B (xs.take i) + valB B (ys.take i)) :
    valB B (L ++ [c]) = valB B xs + valB B ys ∧ (c = 0 → valB B L = valB B xs + valB B ys) := by
  rw [valB_take_ge xs i hi, valB_take_ge ys i (by omega)] at h
  have e3 : c * B ^ i = B ^ i * c := Int.mul_comm _ _
  refine ⟨by rw [valB_snoc, hl]; omega, fun hc => ?_⟩
  subst hc
  omega
theorem left_inv {xs L : List Int} {i N : Nat} {c c2 z x : Int} (hl : L.length = N / 32 + i) (h : valB (2 ^ 32) L + (2 ^ 32) ^ L.length * c = 2 ^ N * valB (2 ^ 32) (xs.take i)) (hx : x = xs.getD i 0) (hz : z + 2 ^ 32 * c2 = c + x * 2 ^ (N % 32)) :
    valB (2 ^ 32) (L ++ [z]) + (2 ^ 32) ^ (L ++ [z]).length * c2 = 2 ^ N * valB (2 ^ 32) (xs.take (i + 1)) := by
  subst hx
  have hp : ((2 : Int) ^ 32) ^ L.length * 2 ^ (N % 32) = 2 ^ N * (2 ^ 32) ^ i := by
    rw [← Int.pow_mul, ← Int.pow_mul, ← Int.pow_add, ← Int.pow_add, hl]
    congr 1
    omega
  generalize (2 : Int) ^ 32 = B at *
  rw [valB_snoc, valB_take_succ', List.length_append, List.length_singleton, Int.pow_succ, Int.mul_add, ← Int.mul_assoc (2 ^ N), ← hp]
  have e : B ^ L.length * (z + B * c2) = B ^ L.length * (c + xs.getD i 0 * 2 ^ (N % 32)) := by rw [hz]
  simp only [Int.mul_add] at e
  have e2 : B ^ L.length * B * c2 = B ^ L.length * (B * c2) := Int.mul_assoc _ _ _
  have e4 : B ^ L.length * 2 ^ (N % 32) * xs.getD i 0 = B ^ L.length * (xs.getD i 0 * 2 ^ (N % 32)) := by rw [Int.mul_assoc, Int.mul_comm (2 ^ (N % 32))]
  omega
theorem left_cy {c x p : Int} (hp : 0 < p) (h0 : 0 ≤ c) (h1 : c < p) (hx0 : 0 ≤ x) (hx : x < 4294967296) : c + x * p < 4294967296 * p := by
  have : (x + 1) * p ≤ 4294967296 * p := Int.mul_le_mul_of_nonneg_right (by omega) (by omega)
  rw [Int.add_mul] at this
  omega
theorem lt64 {x : Int} (h : x < 18446744073709551616) : x < 2 ^ IntKind.u64.bits := by
  have e : (2 : Int) ^ IntKind.u64.bits = 18446744073709551616 := by decide
  omega
theorem vsl {A : Option Addr} {l l' c : Nat} (h : l' = l) : Value.slice A l c = Value.slice A l' c := by rw [h]
theorem left_p (N : Nat) : (2 : Int) ^ (N % 32) ≤ 4294967296 := by
  have h : ((2 : Int) ^ (N % 32)) ≤ 2 ^ 32 := pow_le_of (by decide) (by omega)
  have e : (2 : Int) ^ 32 = 4294967296 := by decide
  omega
theorem left_c2 {c p : Int} (h : c < 4294967296 * p) : c / 4294967296 < p := by omega
theorem left_fin {xs L : List Int} {i N : Nat} {c : Int} (h : valB (2 ^ 32) L + (2 ^ 32) ^ L.length * c = 2 ^ N * valB (2 ^ 32) (xs.take i)) (hi : xs.length ≤ i) : valB (2 ^ 32) (L ++ [c]) = 2 ^ N * valB (2 ^ 32) xs := by
  rw [valB_take_ge xs i hi] at h
  rw [valB_snoc]; exact h
theorem left_fin0 {xs L : List Int} {i N : Nat} {c : Int} (h : valB (2 ^ 32) L + (2 ^ 32) ^ L.length * c = 2 ^ N * valB (2 ^ 32) (xs.take i)) (hi : xs.length ≤ i) (hc : c = 0) : valB (2 ^ 32) L = 2 ^ N * valB (2 ^ 32) xs := by
  subst hc
  rw [valB_take_ge xs i hi] at h
  omega
theorem left_sz {x y : Int} {m s : Nat} (h : y = 2 ^ m * x) (hs : x < 2 ^ s) : y < 2 ^ (s + m) := by
  subst h
  rw [Int.pow_add, Int.mul_comm]
  exact Int.mul_lt_mul_of_pos_right hs (two_pos m)
theorem sg_natAbs {neg : Bool} {x : Int} (h : 0 ≤ x) : ((sg neg x).natAbs : Int) = x := by cases neg <;> simp [sg] <;> omega
theorem Wc.eq {m T : Nat} {k : IntKind} {w : World} {A : Option Addr} {l c : Nat} {x y : Int} (h : Wc m T k w A l c x) (e : x = y) : Wc m T k w A l c y := e ▸ h
theorem Ws.eq {m T : Nat} {k : IntKind} {w : World} {A : Option Addr} {l c : Nat} {x y : Int} (h : Ws m T k w A l c x) (e : x = y) : Ws m T k w A l c y := e ▸ h
theorem Num.tight {m T : Nat} {k : IntKind} {w : World} {neg : Bool} {A : Option Addr} {l c : Nat} {z z' : Int} {s s' : Nat} (h : Num m T k w neg A l c z s) (hz : z = z') (hs : z'.natAbs < 2 ^ s') : Num m T k w neg A l c z' s' := by
  subst hz
  obtain ⟨xs, h1, h2, h3, h4, h5, h6, h7, h8⟩ := h
  exact ⟨xs, h1, h2, h3, h4, h5, h6, h7, hs⟩
theorem Ws.lo {m T : Nat} {k : IntKind} {w : World} {A : Option Addr} {l c s : Nat} {x : Int} (h : Ws m T k w A l c x) (hs : 2 ^ s ≤ x) : s < m * l := by
  obtain ⟨xs, rfl, hc, hw, ho, rfl⟩ := h
  have := valB_sz ho rfl
  rcases Nat.lt_or_ge s (m * xs.length) with h | h
  · exact h
  · have := pow_le_of (B := 2) (by decide) h
    omega
theorem Wc.lo {m T : Nat} {k : IntKind} {w : World} {A : Option Addr} {l c s : Nat} {x : Int} (h : Wc m T k w A l c x) (hs : 2 ^ s ≤ x) : s < m * l := h.ws.lo hs
theorem wz_rg {a3 a2 a1 a0 : Int} (h3 : 0 ≤ a3 ∧ a3 < 18446744073709551616) (h2 : 0 ≤ a2 ∧ a2 < 18446744073709551616) (h1 : 0 ≤ a1 ∧ a1 < 18446744073709551616) (h0 : 0 ≤ a0 ∧ a0 < 18446744073709551616) :
    -57896044618658097711785492504343953926634992332820282019728792003956564819968 ≤ wz a3 a2 a1 a0 ∧ wz a3 a2 a1 a0 < 57896044618658097711785492504343953926634992332820282019728792003956564819968 := by
  unfold wz u256
  split <;> omega
theorem wz_lt {a3 a2 a1 a0 : Int} (h3 : 0 ≤ a3 ∧ a3 < 18446744073709551616) (h2 : 0 ≤ a2 ∧ a2 < 18446744073709551616) (h1 : 0 ≤ a1 ∧ a1 < 18446744073709551616) (h0 : 0 ≤ a0 ∧ a0 < 18446744073709551616) : (wz a3 a2 a1 a0).natAbs < 2 ^ 256 := by
  have := wz_rg h3 h2 h1 h0
  have e : (2 : Nat) ^ 256 = 115792089237316195423570985008687907853269984665640564039457584007913129639936 := by decide
  omega
theorem val8 (a3 a2 a1 a0 : Int) : valB (2 ^ 32) [a0 % 4294967296, a0 / 4294967296 % 4294967296, a1 % 4294967296, a1 / 4294967296 % 4294967296, a2 % 4294967296, a2 / 4294967296 % 4294967296, a3 % 4294967296, a3 / 4294967296 % 4294967296] =
    u256 (a3 % 18446744073709551616) (a2 % 18446744073709551616) (a1 % 18446744073709551616) (a0 % 18446744073709551616) := by
  have e : (2 : Int) ^ 32 = 4294967296 := by decide
  rw [e]
  simp only [valB, u256]
  omega
theorem wz_lo32 {a3 a2 a1 a0 : Int} (h3 : 0 ≤ a3 ∧ a3 < 18446744073709551616) (h2 : 0 ≤ a2 ∧ a2 < 18446744073709551616) (h1 : 0 ≤ a1 ∧ a1 < 18446744073709551616) (h0 : 0 ≤ a0 ∧ a0 < 18446744073709551616) (h : a3 / 9223372036854775808 = 0) :
    sg false (valB (2 ^ 32) [a0 % 4294967296, a0 / 4294967296 % 4294967296, a1 % 4294967296, a1 / 4294967296 % 4294967296, a2 % 4294967296, a2 / 4294967296 % 4294967296, a3 % 4294967296, a3 / 4294967296 % 4294967296]) = wz a3 a2 a1 a0 := by
  rw [val8, Int.emod_eq_of_lt h3.1 h3.2, Int.emod_eq_of_lt h2.1 h2.2, Int.emod_eq_of_lt h1.1 h1.2, Int.emod_eq_of_lt h0.1 h0.2]
  simp [sg, wz, h]
theorem wz_hi32 {a3 a2 a1 a0 : Int} (h3 : 0 ≤ a3 ∧ a3 < 18446744073709551616) (h2 : 0 ≤ a2 ∧ a2 < 18446744073709551616) (h1 : 0 ≤ a1 ∧ a1 < 18446744073709551616) (h0 : 0 ≤ a0 ∧ a0 < 18446744073709551616) (h : ¬ a3 / 9223372036854775808 = 0) :
    sg true (2 ^ 256 * valB (2 ^ 32) [1] - valB (2 ^ 32) [a0 % 4294967296, a0 / 4294967296 % 4294967296, a1 % 4294967296, a1 / 4294967296 % 4294967296, a2 % 4294967296, a2 / 4294967296 % 4294967296, a3 % 4294967296, a3 / 4294967296 % 4294967296]) = wz a3 a2 a1 a0 := by
  rw [val8, Int.emod_eq_of_lt h3.1 h3.2, Int.emod_eq_of_lt h2.1 h2.2, Int.emod_eq_of_lt h1.1 h1.2, Int.emod_eq_of_lt h0.1 h0.2]
  have e : (2 : Int) ^ 256 = 115792089237316195423570985008687907853269984665640564039457584007913129639936 := by decide
  rw [e]
  simp [sg, wz, h, valB]
  omega
theorem u64_rg {x : Int} (h : IntKind.u64.has x) : 0 ≤ x ∧ x < 18446744073709551616 := by
  simp [IntKind.has, IntKind.min, IntKind.max, IntKind.signed, IntKind.bits] at h
  omega
def nbits (x : Nat) : Nat := if x = 0 then 0 else x.log2 + 1
theorem nbits_zero : nbits 0 = 0 := rfl
theorem nbits_lt (x : Nat) : x < 2 ^ nbits x := by
  unfold nbits
  by_cases h : x = 0
  · simp [h]
  · rw [if_neg h]; exact Nat.lt_log2_self
theorem nbits_le {x : Nat} (h : x ≠ 0) : 2 ^ (nbits x - 1) ≤ x := by
  unfold nbits
  rw [if_neg h]
  exact Nat.log2_self_le h
theorem nbits_pos {x : Nat} (h : x ≠ 0) : 0 < nbits x := by unfold nbits; rw [if_neg h]; omega
theorem nbits_of {x b : Nat} (h0 : x ≠ 0) (h1 : x < 2 ^ b) (h2 : 2 ^ (b - 1) ≤ x) : nbits x = b := by
  have h3 := nbits_lt x
  have h4 := nbits_le h0
  have hp := nbits_pos h0
  have a1 : nbits x - 1 < b := (Nat.pow_lt_pow_iff_right (a := 2) (by decide)).1 (by omega)
  have a2 : b - 1 < nbits x := (Nat.pow_lt_pow_iff_right (a := 2) (by decide)).1 (by omega)
  have hb : 0 < b := by
    rcases Nat.eq_zero_or_pos b with h | h
    · subst h; simp at h1; omega
    · exact h
  omega
theorem nbits_bitLen {x : Nat} (h : x < 18446744073709551616) : Lib.bitLen x = nbits x := by
  by_cases h0 : x = 0
  · subst h0; rfl
  · have := Lib.bitLenAux_bounds 64 x h h0
    exact (nbits_of h0 this.2.2 this.2.1).symm
theorem nbits_le_iff {x b : Nat} : nbits x ≤ b ↔ x < 2 ^ b := by
  constructor
  · intro h
    exact Nat.lt_of_lt_of_le (nbits_lt x) (Nat.pow_le_pow_right (by decide) h)
  · intro h
    by_cases h0 : x = 0
    · subst h0; exact Nat.zero_le _
    · have := nbits_le h0
      have hp := nbits_pos h0
      have a1 : nbits x - 1 < b := (Nat.pow_lt_pow_iff_right (a := 2) (by decide)).1 (by omega)
      omega
theorem nbits_half {x : Nat} (h : x ≠ 0) : nbits x = nbits (x / 2) + 1 := by
  unfold nbits
  rw [if_neg h, Nat.log2_def]
  by_cases h1 : x / 2 = 0
  · rw [if_pos h1, if_neg (by omega)]
  · rw [if_neg h1, if_pos (by omega)]
theorem nbits_top {m : Nat} {xs : List Int} (ho : okW (2 ^ m) xs) (hn : 0 < xs.length) (ht : 0 < xs.getD (xs.length - 1) 0) : nbits (valB (2 ^ m) xs).toNat = m * (xs.length - 1) + nbits (xs.getD (xs.length - 1) 0).toNat := by
  have e := list_snoc xs hn
  have hv : valB (2 ^ m) xs = valB (2 ^ m) (xs.take (xs.length - 1)) + (2 ^ m) ^ (xs.length - 1) * xs.getD (xs.length - 1) 0 := by
    have h1 := valB_take_succ (B := 2 ^ m) xs (xs.length - 1) (by omega)
    rw [Nat.sub_add_cancel hn, List.take_length] at h1
    exact h1
  have hlo := valB_nonneg (Int.le_of_lt (two_pos m)) (ho.take (xs.length - 1))
  have hhi := valB_lt (Int.le_of_lt (two_pos m)) (ho.take (xs.length - 1))
  rw [List.length_take, Nat.min_eq_left (by omega)] at hhi
  generalize valB (2 ^ m) (xs.take (xs.length - 1)) = lo at *
  generalize xs.getD (xs.length - 1) 0 = t at *
  generalize valB (2 ^ m) xs = v at *
  obtain ⟨T, rfl⟩ := Int.eq_ofNat_of_zero_le (Int.le_of_lt ht)
  obtain ⟨L, rfl⟩ := Int.eq_ofNat_of_zero_le hlo
  have hp : ((2 : Int) ^ m) ^ (xs.length - 1) = ((2 ^ (m * (xs.length - 1)) : Nat) : Int) := by rw [← Int.pow_mul]; simp
  rw [hp] at hv hhi
  generalize hP : 2 ^ (m * (xs.length - 1)) = P at *
  have hv' : v.toNat = L + P * T := by
    rw [hv, ← Int.natCast_mul]
    omega
  have hL : L < P := by omega
  have hPp : 0 < P := by omega
  have hT0 : T ≠ 0 := by omega
  rw [hv']
  have h1 := nbits_lt T
  have h2 := nbits_le hT0
  have h3 := nbits_pos hT0
  simp only [Int.toNat_natCast]
  refine nbits_of (by have := Nat.mul_pos hPp (Nat.pos_of_ne_zero hT0); omega) ?_ ?_
  · rw [Nat.pow_add, hP]
    have : P * (T + 1) ≤ P * 2 ^ nbits T := Nat.mul_le_mul_left _ h1
    rw [Nat.mul_add] at this
    omega
  · rw [show m * (xs.length - 1) + nbits T - 1 = m * (xs.length - 1) + (nbits T - 1) by omega, Nat.pow_add, hP]
    have : P * 2 ^ (nbits T - 1) ≤ P * T := Nat.mul_le_mul_left _ h2
    omega
theorem canon_top {m : Nat} {xs : List Int} (ho : okW (2 ^ m) xs) (hc : canon xs) (hn : 0 < xs.length) : 0 < xs.getD (xs.length - 1) 0 := by
  have h1 := (ho.getD (two_pos m) (xs.length - 1)).1
  have h2 : xs.getD (xs.length - 1) 0 ≠ 0 := by
    intro h
    apply hc
    rw [List.getLast?_eq_getElem?]
    rw [List.getD_eq_getElem?_getD, List.getElem?_eq_getElem (by omega)] at h
    rw [List.getElem?_eq_getElem (by omega)]
    simpa using h
  omega
theorem nbits_len {m : Nat} {xs : List Int} (ho : okW (2 ^ m) xs) : nbits (valB (2 ^ m) xs).toNat ≤ m * xs.length := by
  refine nbits_le_iff.2 ?_
  have h1 := valB_sz ho rfl
  have h2 := valB_nonneg (Int.le_of_lt (two_pos m)) ho
  have e : ((2 ^ (m * xs.length) : Nat) : Int) = 2 ^ (m * xs.length) := by simp
  omega
theorem cmp_lt {x y : Int} (h : x < y) : cmpR (-1) x y := by unfold cmpR; omega
theorem cmp_gt {x y : Int} (h : y < x) : cmpR 1 x y := by unfold cmpR; omega
theorem cmpR.gt {r x y : Int} (h : cmpR r x y) : 0 < r ↔ y < x := by unfold cmpR at h; omega
theorem cmp_len32 {xs ys : List Int} (hx : okW (2 ^ 32) xs) (hy : okW (2 ^ 32) ys) (cx : canon xs) (cy : canon ys) (h : (xs.length : Int) ≠ ys.length) (h2 : xs.length < ys.length) : cmpR (-1) (valB (2 ^ 32) xs) (valB (2 ^ 32) ys) :=
  cmp_lt (lt_of_len (by decide) hx hy cy h2)
theorem cmp_len32' {xs ys : List Int} (hx : okW (2 ^ 32) xs) (hy : okW (2 ^ 32) ys) (cx : canon xs) (cy : canon ys) (h2 : ys.length < xs.length) : cmpR 1 (valB (2 ^ 32) xs) (valB (2 ^ 32) ys) :=
  cmp_gt (lt_of_len (by decide) hy hx cx h2)
theorem len_le32 {T : Nat} {k : IntKind} {w w' : World} {A D : Option Addr} {l c l' d : Nat} {x y : Int} (h : Wc 32 T k w A l c x) (h' : Wc 32 T k w' D l' d y) (hle : y ≤ x) : l' ≤ l := by
  obtain ⟨xs, rfl, hc, hw, ho, hk, rfl⟩ := h
  obtain ⟨ys, rfl, hc', hw', ho', hk', rfl⟩ := h'
  rcases Nat.lt_or_ge xs.length ys.length with h | h
  · have := lt_of_len (B := 2 ^ 32) (by decide) ho ho' hk' h
    omega
  · exact h
end Go.Proofs.Ytmbpomcbdopgnaa.Fw
