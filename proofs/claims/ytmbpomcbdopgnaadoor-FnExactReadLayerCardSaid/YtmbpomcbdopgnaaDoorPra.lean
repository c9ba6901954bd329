/- Walks and plain mathematics, packed by a program of this session: declarations that the rows reach. -/
import Derived.WalkKit
import Derived.OrdersHeld
import Derived.KernelRfl
import Derived.Lib.ItoaNum
import Derived.ProofKit
import Derived.OpenShut
import Derived.ShutString
import Derived.ChangeOld
import Derived.SizedLaws
import Derived.ReadAgain
import Derived.ChangeBears
import Derived.Laws.Concat
import Derived.Laws.Strings
import Derived.Laws.BytesString
import Derived.Deep.Slices
import Derived.Lib.Join
import Derived.Lib.LaidTab
import Derived.Lib.AppendIntMem
import Derived.Lib.SmallJoins
import Derived.WideLaws
import Derived.Lib.SplitLaws
import Derived.Lib.AtoiTie
import Derived.Lib.ParseIntBTie
import Derived.Lib.IndexMore
set_option linter.unusedVariables false
namespace Go.Proofs.YtmbpomcbdopgnaaDoor.Fw
open Go
abbrev Fr := Nat → Value
def upd (fr : Fr) (d : Nat) (v : Value) : Fr := fun i => bif Nat.beq i d then v else fr i
def putO (fr : Fr) : Option Tmp → Value → Fr
  | some d, v => upd fr d v
  | none, _ => fr
def actOf (n : Nat) (fr : Fr) : Act := ⟨Array.ofFn (fun i : Fin n => fr i), []⟩
theorem actOf_put (n : Nat) (fr : Fr) (dst : Option Tmp) (v : Value) : (actOf n fr).put dst v = actOf n (putO fr dst v) := by
  cases dst with
  | none => rfl
  | some d =>
    simp only [Act.put, actOf, putO]
    congr 1
    apply Array.ext_getElem?
    intro i
    simp only [Array.getElem?_setIfInBounds, Array.getElem?_ofFn, Array.size_ofFn, upd]
    by_cases h : d = i
    · subst h; by_cases hl : d < n <;> simp [hl]
    · have : Nat.beq i d = false := by
        rw [← Bool.not_eq_true]; intro hb; exact h (Nat.eq_of_beq_eq_true hb).symm
      simp [h, this]
theorem actOf_getD (n : Nat) (fr : Fr) (t : Nat) (h : Nat.blt t n = true) : (actOf n fr).tmps.getD t undef = fr t := by
  have h' : t < n := by simpa using h
  simp [actOf, h']
def EV (n : Nat) (fr : Fr) (x : Operand) (v : Value) : Prop := (actOf n fr).eval x = v
theorem T {n : Nat} {fr : Fr} {t : Nat} {v : Value} (h : Nat.blt t n = true) (e : fr t = v) : EV n fr (.tmp t) v := by
  show (actOf n fr).tmps.getD t undef = v; rw [actOf_getD n fr t h]; exact e
theorem C {n : Nat} {fr : Fr} {v : Value} : EV n fr (.const v) v := rfl
def fr0 (args : List Value) : Fr := fun i => args.getD i undef
def RunK (P : Program) (f n : Nat) (R : Ending → World → Prop) (k : List Item) (fr : Fr) (w : World) : Prop :=
  ∀ (b : Frame) (cs : List Frame), b.fn = f → b.kind = .normal →
    ∃ e w' frm, R e w' ∧ Comes P (lone (b.at (actOf n fr) k) cs w) (lone frm cs w') e ∧ frm.fn = f ∧ frm.leaving P w' e
section
variable {P : Program} {f n : Nat} {R : Ending → World → Prop} {k : List Item} {fr : Fr} {w : World}
theorem RunK.step {k' : List Item} {fr' : Fr} {w' : World}
    (hs : ∀ (b : Frame) (cs : List Frame), Go.step P (lone (b.at (actOf n fr) k) cs w) = .next (lone (b.at (actOf n fr') k') cs w'))
    (h : RunK P f n R k' fr' w') : RunK P f n R k fr w := by
  intro b cs hb hk
  obtain ⟨e, w2, frm, hR, hc, hf, hl⟩ := h b cs hb hk
  exact ⟨e, w2, frm, hR, Comes.of_steps (.one (hs b cs)) hc, hf, hl⟩
theorem rk_seq {a c : Code} (h : RunK P f n R (.code a :: .code c :: k) fr w) : RunK P f n R (.code (.seq a c) :: k) fr w :=
  h.step fun _ _ => step_seq
theorem rk_block {id : Nat} {c : Code} (h : RunK P f n R (.code c :: .inBlock id :: k) fr w) : RunK P f n R (.code (.block id c) :: k) fr w :=
  h.step fun _ _ => step_block
theorem rk_inBlock {id : Nat} (h : RunK P f n R k fr w) : RunK P f n R (.inBlock id :: k) fr w :=
  h.step fun _ _ => step_inBlock
theorem rk_skip (h : RunK P f n R k fr w) : RunK P f n R (.code .skip :: k) fr w :=
  h.step fun _ _ => step_skip
theorem rk_exit {id : Nat} {k' : List Item} (he : exitTo id k = some k') (h : RunK P f n R k' fr w) : RunK P f n R (.code (.exit id) :: k) fr w :=
  h.step fun _ _ => step_exit he
theorem rk_inLoop {c : Code} (h : RunK P f n R (.code c :: .inLoop c :: k) fr w) : RunK P f n R (.inLoop c :: k) fr w :=
  h.step fun _ _ => step_inLoop
theorem rk_ct {c : Operand} {x y : Code} (hc : EV n fr c (.bool true)) (h : RunK P f n R (.code x :: k) fr w) : RunK P f n R (.code (.cond c x y) :: k) fr w :=
  RunK.step (fun b cs => by rw [step_cond (t := true) hc]; rfl) h
theorem rk_cf {c : Operand} {x y : Code} (hc : EV n fr c (.bool false)) (h : RunK P f n R (.code y :: k) fr w) : RunK P f n R (.code (.cond c x y) :: k) fr w :=
  RunK.step (fun b cs => by rw [step_cond (t := false) hc]; rfl) h
theorem rk_loop {body : Code} (I : Nat → Fr → World → Prop) (d0 : Nat) (h0 : I d0 fr w)
    (hr : ∀ d fr w, I d fr w → (∀ d' fr' w', d' < d → I d' fr' w' → RunK P f n R (.inLoop body :: k) fr' w') →
      RunK P f n R (.code body :: .inLoop body :: k) fr w) : RunK P f n R (.code (.loop body) :: k) fr w := by
  have key : ∀ d fr w, I d fr w → RunK P f n R (.code body :: .inLoop body :: k) fr w := by
    intro d
    induction d using Nat.strongRecOn with
    | _ d ih =>
      intro fr w hI
      exact hr d fr w hI fun d' fr' w' hd hI' => rk_inLoop (ih d' hd fr' w' hI')
  exact RunK.step (fun b cs => step_loop) (key d0 fr w h0)
theorem rk_join {c : Code} (J : Fr → World → Prop) (h2 : ∀ fr w, J fr w → RunK P f n R k fr w) (h1 : (∀ fr w, J fr w → RunK P f n R k fr w) → RunK P f n R (.code c :: k) fr w) :
    RunK P f n R (.code c :: k) fr w := h1 h2
theorem rk_ret {fn : Func} {v : Value} (hf : P.funcs[f]? = some fn) (hr : (results fn (actOf n fr).tmps).run P w = .ok v w) (hR : R (.returned v) w) :
    RunK P f n R (.code .ret :: k) fr w := by
  intro b cs hb hk
  refine ⟨.returned v, w, { b.at (actOf n fr) (.code .ret :: k) with mode := .returning }, hR, Steps.one step_ret, hb, rfl, rfl, hk, fn, ?_, hr⟩
  have : ({ b.at (actOf n fr) (.code .ret :: k) with mode := .returning } : Frame).fn = f := hb
  rw [this]; exact hf
theorem calls_run {fn : Func} {c : Code} {args : List Value} (hf : P.funcs[f]? = some fn) (hb : fn.body = some c) (hn : fn.ntmps = n) (ha : Nat.ble args.length n = true)
    (h : RunK P f n R [.code c] (fr0 args) w) : Calls P f args.toArray w R := by
  intro cs
  let b : Frame := { (default : Frame) with fn := f, kind := .normal }
  have henter : Frame.enter P f args.toArray .normal = b.at (actOf n (fr0 args)) [.code c] := by
    have ha := Nat.le_of_ble_eq_true ha
    have : (args.toArray ++ Array.replicate (fn.ntmps - args.toArray.size) undef) = (actOf n (fr0 args)).tmps := by
      subst hn
      apply Array.ext
      · simp [actOf]; omega
      · intro i h1 h2
        simp only [actOf, Array.getElem_ofFn, fr0, Array.getElem_append]
        split
        · rename_i hlt
          simp at hlt
          simp [List.getD_eq_getElem?_getD, List.getElem?_eq_getElem hlt]
        · rename_i hlt
          simp at hlt
          simp [List.getD_eq_getElem?_getD, List.getElem?_eq_none hlt]
    simp only [Frame.enter, Frame.at, hf, b, Option.map_some, Option.getD_some, Option.bind_some, hb, this]
    rfl
  rw [henter]
  exact h b cs rfl rfl
def rSem (n : Nat) (fr : Fr) : ResultVar → Sem Value
  | .tmp t => pure ((actOf n fr).tmps.getD t undef)
  | .cell a t => do loadVar t (← asAddr ((actOf n fr).tmps.getD a undef))
def RV (P : Program) (n : Nat) (fr : Fr) (w : World) (r : ResultVar) (v : Value) : Prop := (rSem n fr r).run P w = .ok v w
theorem rv_tmp {t : Nat} {v : Value} (h : Nat.blt t n = true) (e : fr t = v) : RV P n fr w (.tmp t) v := by
  show Result.ok ((actOf n fr).tmps.getD t undef) w = _; rw [actOf_getD n fr t h, e]
theorem results_eq (fn : Func) : results fn (actOf n fr).tmps = (do
    let vs ← fn.results.mapM (rSem n fr)
    pure (if h : vs.size = 1 then vs[0] else .tuple vs)) := by
  unfold results
  congr 1
theorem res1 {fn : Func} {r : ResultVar} {v : Value} (h : fn.results = #[r]) (h1 : RV P n fr w r v) : (results fn (actOf n fr).tmps).run P w = .ok v w := by
  unfold RV at h1
  rw [results_eq, h]
  simp [h1]
theorem res2 {fn : Func} {r s : ResultVar} {v u : Value} (h : fn.results = #[r, s]) (h1 : RV P n fr w r v) (h2 : RV P n fr w s u) :
    (results fn (actOf n fr).tmps).run P w = .ok (.tuple #[v, u]) w := by
  unfold RV at h1 h2
  rw [results_eq, h]
  simp [Sem.run_bind, h1, h2]
end
end Go.Proofs.YtmbpomcbdopgnaaDoor.Fw
set_option linter.unusedVariables false
set_option linter.unusedSimpArgs false
namespace Go.Proofs.YtmbpomcbdopgnaaDoor.Fw
open Go
def NQ (P : Program) (f n : Nat) (R : Ending → World → Prop) (k : List Item) : Exit → Act → World → Prop :=
  fun e a w => e = .normal ∧ ∃ fr, a = actOf n fr ∧ RunK P f n R k fr w
def LW (P : Program) (f n : Nat) (R : Ending → World → Prop) (k : List Item) (ops : Array Oper) (l : List Oper) (fr : Fr) (w : World) : Prop :=
  wpList P ops (NQ P f n R k) l (actOf n fr) w
section
variable {P : Program} {f n : Nat} {R : Ending → World → Prop} {k : List Item} {fr : Fr} {w : World} {ops : Array Oper} {rest : List Oper}
theorem rk_code {c : Code} (h : c.wp P (NQ P f n R k) (actOf n fr) w) : RunK P f n R (.code c :: k) fr w := by
  intro b cs hb hk
  obtain ⟨e, a', w', ⟨he, fr', ha, hr⟩, harr⟩ := h b k cs
  subst he; subst ha
  obtain ⟨e2, w2, frm, hR, hc, hf, hl⟩ := hr b cs hb hk
  exact ⟨e2, w2, frm, hR, Comes.of_steps harr hc, hf, hl⟩
theorem rk_reg {id : Nat} {l : List Oper} (h : LW P f n R k l.toArray l fr w) : RunK P f n R (.code (.region id l.toArray false) :: k) fr w :=
  rk_code (wp_region_lit h)
theorem lw_nil (h : RunK P f n R k fr w) : LW P f n R k ops [] fr w := wpList_nil ⟨rfl, fr, rfl, h⟩
def DV (P : Program) (n : Nat) (op : Op) (ty : TypeId) (fr : Fr) (w : World) (v : Value) : Prop :=
  ∀ dst pos af g, (execOp (actOf n fr).eval ⟨dst, op, ty, pos, af, g⟩).run P w = .ok (.value v) w
def OE (P : Program) (n : Nat) (op : Op) (ty : TypeId) (fr : Fr) (w : World) (K : Value → World → Prop) : Prop :=
  ∀ dst pos af g (Kk : Act → World → Prop) (Q : Exit → Act → World → Prop), (∀ v w', K v w' → Kk (actOf n (putO fr dst v)) w') →
    (⟨dst, op, ty, pos, af, g⟩ : Oper).wp P (actOf n fr) w Kk Q
theorem OE.of_run {op : Op} {ty : TypeId} {K : Value → World → Prop} {v : Value} {w' : World}
    (h : ∀ dst pos af g, (execOp (actOf n fr).eval ⟨dst, op, ty, pos, af, g⟩).run P w = .ok (.value v) w') (hK : K v w') : OE P n op ty fr w K := by
  intro dst pos af g Kk Q hk
  unfold Oper.wp
  rw [h]
  show Kk ((actOf n fr).put dst v) w'
  rw [actOf_put]
  exact hk v w' hK
theorem OE.of_skip {op : Op} {ty : TypeId} {K : Value → World → Prop} {w' : World}
    (h : ∀ dst pos af g, (execOp (actOf n fr).eval ⟨dst, op, ty, pos, af, g⟩).run P w = .ok .skip w') (hK : K undef w') : OE P n op ty fr w K := by
  intro dst pos af g Kk Q hk
  unfold Oper.wp
  rw [h]
  show Kk ((actOf n fr).put dst undef) w'
  rw [actOf_put]
  exact hk undef w' hK
theorem OE.mono {op : Op} {ty : TypeId} {K K' : Value → World → Prop} (h : OE P n op ty fr w K) (hK : ∀ v w', K v w' → K' v w') : OE P n op ty fr w K' :=
  fun dst pos af g Kk Q hk => h dst pos af g Kk Q fun v w' hv => hk v w' (hK v w' hv)
theorem lw_v {dst : Option Tmp} {op : Op} {ty : TypeId} {pos : String} {af : Array Edge} (v : Value) (h : DV P n op ty fr w v)
    (hk : LW P f n R k ops rest (putO fr dst v) w) : LW P f n R k ops (⟨dst, op, ty, pos, af, none⟩ :: rest) fr w :=
  wpList_plain rfl fun Kk hK => by
    unfold Oper.wp
    rw [h]
    show Kk ((actOf n fr).put dst v) w
    rw [actOf_put]
    exact hK _ _ hk
theorem lw_e {dst : Option Tmp} {op : Op} {ty : TypeId} {pos : String} {af : Array Edge}
    (h : OE P n op ty fr w fun v w' => LW P f n R k ops rest (putO fr dst v) w') : LW P f n R k ops (⟨dst, op, ty, pos, af, none⟩ :: rest) fr w :=
  wpList_plain rfl fun Kk hK => h dst pos af none Kk _ fun v w' hv => hK _ _ hv
theorem yielded_act {g d : Nat} {v : Bool} (hd : (ops[g]?).bind (·.dst) = some d) (hn : Nat.blt d n = true) (hv : fr d = .bool v) :
    yielded ops (actOf n fr).tmps g = some v := by
  have h' : d < n := by simpa using hn
  unfold yielded
  rw [hd]
  simp [actOf, h', hv]
theorem lw_vy {dst : Option Tmp} {op : Op} {ty : TypeId} {pos : String} {af : Array Edge} {g d : Nat} {b : Bool} (v : Value)
    (hd : (ops[g]?).bind (·.dst) = some d) (hn : Nat.blt d n = true) (hv : fr d = .bool b) (h : DV P n op ty fr w v)
    (hk : LW P f n R k ops rest (putO fr dst v) w) : LW P f n R k ops (⟨dst, op, ty, pos, af, some (g, b)⟩ :: rest) fr w :=
  wpList_step fun Kk hK => by
    have hy := yielded_act (ops := ops) hd hn hv
    simp only [Region.wanted, hy, beq_self_eq_true, if_true]
    unfold Oper.wp
    rw [h]
    show Kk ((actOf n fr).put dst v) w
    rw [actOf_put]
    exact hK _ _ hk
theorem lw_ey {dst : Option Tmp} {op : Op} {ty : TypeId} {pos : String} {af : Array Edge} {g d : Nat} {b : Bool}
    (hd : (ops[g]?).bind (·.dst) = some d) (hn : Nat.blt d n = true) (hv : fr d = .bool b)
    (h : OE P n op ty fr w fun v w' => LW P f n R k ops rest (putO fr dst v) w') : LW P f n R k ops (⟨dst, op, ty, pos, af, some (g, b)⟩ :: rest) fr w :=
  wpList_step fun Kk hK => by
    have hy := yielded_act (ops := ops) hd hn hv
    simp only [Region.wanted, hy, beq_self_eq_true, if_true]
    exact h dst pos af _ Kk _ fun v w' hv => hK _ _ hv
theorem lw_no {dst : Option Tmp} {op : Op} {ty : TypeId} {pos : String} {af : Array Edge} {g d : Nat} {b : Bool}
    (hd : (ops[g]?).bind (·.dst) = some d) (hn : Nat.blt d n = true) (hv : fr d = .bool (!b))
    (hk : LW P f n R k ops rest (putO fr dst undef) w) : LW P f n R k ops (⟨dst, op, ty, pos, af, some (g, b)⟩ :: rest) fr w :=
  wpList_step fun Kk hK => by
    have hy := yielded_act (ops := ops) hd hn hv
    have : (some (!b) == some b) = false := by cases b <;> rfl
    simp only [Region.wanted, hy, this, Bool.false_eq_true, if_false]
    rw [actOf_put]
    exact hK _ _ hk
theorem yielded_undef {g d : Nat} (hd : (ops[g]?).bind (·.dst) = some d) (hv : fr d = undef) :
    yielded ops (actOf n fr).tmps g = none := by
  unfold yielded
  rw [hd]
  by_cases h' : d < n
  · simp [actOf, h', hv, undef]
  · simp [actOf, h']
theorem lw_nou {dst : Option Tmp} {op : Op} {ty : TypeId} {pos : String} {af : Array Edge} {g d : Nat} {b : Bool}
    (hd : (ops[g]?).bind (·.dst) = some d) (hv : fr d = undef)
    (hk : LW P f n R k ops rest (putO fr dst undef) w) : LW P f n R k ops (⟨dst, op, ty, pos, af, some (g, b)⟩ :: rest) fr w :=
  wpList_step fun Kk hK => by
    have hy := yielded_undef (n := n) (ops := ops) hd hv
    have : ((none : Option Bool) == some b) = false := by cases b <;> rfl
    simp only [Region.wanted, hy, this, Bool.false_eq_true, if_false]
    rw [actOf_put]
    exact hK _ _ hk
end
section
variable {P : Program} {ops : Array Oper} {Q : Exit → Act → World → Prop} {md : Region.Mode} {S : World → Prop} {fin : List Nat}
def wpAnyJ (P : Program) (md : Region.Mode) (ops : Array Oper) (Q : Exit → Act → World → Prop) (S : World → Prop) (fin : List Nat) : Nat → Array Bool → Act → World → Prop
  | 0, listed, a, w => Region.ready md ops listed = [] ∧ Q .normal a w
  | fuel + 1, listed, a, w =>
    (Region.ready md ops listed = [] → Q .normal a w) ∧
    ∀ i ∈ Region.ready md ops listed, wpOp P ops Q i (fun a' w' => (i ∈ fin ∨ S w') ∧ wpAnyJ P md ops Q S fin fuel (listed.setIfInBounds i true) a' w') a w
theorem wpAny_of_J : ∀ (fuel : Nat) (listed : Array Bool) (a : Act) (w : World), wpAnyJ P md ops Q S fin fuel listed a w → wpAny P md ops Q fuel listed a w
  | 0, _, _, _, h => h
  | fuel + 1, _, _, _, h => ⟨h.1, fun i hi => wpOp_mono (fun a' w' h' => wpAny_of_J fuel _ a' w' h'.2) (h.2 i hi)⟩
def finOk (md : Region.Mode) (ops : Array Oper) (fin : List Nat) (i : Nat) : Bool :=
  fin.all fun j => j == i || ((ops[j]?).map fun o => o.after.any fun e => Region.binds md e && e.on == i).getD true
theorem wpAnyJ_first {G : World → Prop} {i : Nat} {oi : Oper} {v : Value} (hi : ops[i]? = some oi) (hsel : ∀ (j : Nat) (o : Oper) cs b, ops[j]? = some o → o.op ≠ .select cs b)
    (hQ : ∀ c a w, Q (.panic c) (a.put oi.dst v) w → Q (.panic c) a w)
    (hF : i ∈ fin ∨ ∀ j oj, ops[j]? = some oj → j ≠ i → (∀ e ∈ oj.after, Region.binds md e = true → e.on ≠ i) → j ∉ fin)
    (hG : ∀ j oj w, ops[j]? = some oj → j ≠ i → (∀ e ∈ oj.after, Region.binds md e = true → e.on ≠ i) → (j ∈ fin ∨ S w) → G w) :
    ∀ (fuel : Nat) (listed : Array Bool) (a : Act) (w : World),
      (∀ j oj, ops[j]? = some oj → j ≠ i → listed.getD j true = false → (∀ e ∈ oj.after, Region.binds md e = true → e.on ≠ i) → oi.apart ops oj = true) →
      i ∈ Region.ready md ops listed → YieldsIf P ops G oi v a → G w → (i ∈ fin ∨ S w) →
      wpAnyJ P md ops Q S fin fuel (listed.setIfInBounds i true) (a.put oi.dst v) w → wpAnyJ P md ops Q S fin (fuel + 1) listed a w := by
  intro fuel
  induction fuel with
  | zero =>
    intro listed a w _ hr hy hGw hSw H
    refine ⟨fun h => (by rw [h] at hr; cases hr), fun j hj => ?_⟩
    by_cases hji : j = i
    · subst hji; exact hy.wpOp hi hGw ⟨hSw, H⟩
    · have := ready_mono hj hji
      rw [H.1] at this
      cases this
  | succ fuel ih =>
    intro listed a w hfree hr hy hGw hSw H
    refine ⟨fun h => (by rw [h] at hr; cases hr), fun j hj => ?_⟩
    by_cases hji : j = i
    · subst hji; exact hy.wpOp hi hGw ⟨hSw, H⟩
    · have h1 := H.2 j (ready_mono hj hji)
      obtain ⟨hjun, oj, hoj, hall⟩ := mem_ready.1 hj
      have hnot : ∀ e ∈ oj.after, Region.binds md e = true → e.on ≠ i := fun e he hb heq => by
        have h1 := hall e he hb
        have h0 := (mem_ready.1 hr).1
        rw [heq] at h1
        rcases Nat.lt_or_ge i listed.size with h' | h'
        · simp [h'] at h0 h1; rw [h0] at h1; cases h1
        · simp [Array.getElem?_eq_none h'] at h1
      have h2 := wpOp_putIf hoj (hfree j oj hoj hji hjun hnot) (fun cs b => hsel i oi cs b hi) (fun cs b => hsel j oj cs b hoj) hQ hy h1
      have hfree' : ∀ k ok, ops[k]? = some ok → k ≠ i → (listed.setIfInBounds j true).getD k true = false →
          (∀ e ∈ ok.after, Region.binds md e = true → e.on ≠ i) → oi.apart ops ok = true := fun k ok hk hki hun hno => by
        refine hfree k ok hk hki ?_ hno
        by_cases hjk : j = k
        · subst hjk; exact hjun
        · rw [getD_set_ne true hjk] at hun; exact hun
      refine wpOp_mono (fun a' w' h3 => ⟨h3.2.1, ih (listed.setIfInBounds j true) a' w' hfree' (ready_mono hr (Ne.symm hji)) h3.1 (hG j oj w' hoj hji hnot h3.2.1) ?_ ?_⟩) h2
      · rcases hF with h5 | h5
        · exact .inl h5
        · exact .inr (h3.2.1.resolve_left (h5 j oj hoj hji hnot))
      · rw [Array.setIfInBounds_comm _ _ hji]
        exact h3.2.2
theorem finOk_spec {i : Nat} (h : finOk md ops fin i = true) {j : Nat} {oj : Oper} (hj : ops[j]? = some oj) (hji : j ≠ i)
    (hno : ∀ e ∈ oj.after, Region.binds md e = true → e.on ≠ i) : j ∉ fin := by
  intro hm
  have h1 := List.all_eq_true.1 h j hm
  simp only [Bool.or_eq_true, beq_iff_eq, hji, false_or, hj, Option.map_some, Option.getD_some, Array.any_eq_true, Bool.and_eq_true] at h1
  obtain ⟨x, hx, hb, hi⟩ := h1
  exact hno _ (Array.getElem_mem hx) hb hi
theorem wpAnyJ_load {i : Nat} {oi : Oper} {v : Value} {fuel : Nat} {listed : Array Bool} {a : Act} {w : World} (hi : ops[i]? = some oi)
    (hs : Region.noSelect ops = true) (hf : Region.free md ops listed i = true) (hr : (Region.ready md ops listed).contains i = true) (hfin : finOk md ops fin i = true)
    (hQ : ∀ c a w, Q (.panic c) (a.put oi.dst v) w → Q (.panic c) a w) (hy : YieldsIf P ops S oi v a) (hS : S w)
    (h : wpAnyJ P md ops Q S fin fuel (listed.setIfInBounds i true) (a.put oi.dst v) w) : wpAnyJ P md ops Q S fin (fuel + 1) listed a w :=
  wpAnyJ_first (G := S) hi (Region.noSelect_spec hs) hQ (.inr fun j oj hj hji hno => finOk_spec hfin hj hji hno)
    (fun j oj w hj hji hno hor => hor.resolve_left (finOk_spec hfin hj hji hno)) fuel listed a w (Region.free_spec hi hf) (by simpa using hr) hy hS (.inr hS) h
theorem wpAnyJ_pure {i : Nat} {oi : Oper} {v : Value} {fuel : Nat} {listed : Array Bool} {a : Act} {w : World} (hi : ops[i]? = some oi)
    (hs : Region.noSelect ops = true) (hf : Region.free md ops listed i = true) (hr : (Region.ready md ops listed).contains i = true) (hfin : finOk md ops fin i = true)
    (hQ : ∀ c a w, Q (.panic c) (a.put oi.dst v) w → Q (.panic c) a w) (hy : YieldsIf P ops (fun _ => True) oi v a) (hS : S w)
    (h : wpAnyJ P md ops Q S fin fuel (listed.setIfInBounds i true) (a.put oi.dst v) w) : wpAnyJ P md ops Q S fin (fuel + 1) listed a w :=
  wpAnyJ_first (G := fun _ => True) hi (Region.noSelect_spec hs) hQ (.inr fun j oj hj hji hno => finOk_spec hfin hj hji hno)
    (fun _ _ _ _ _ _ _ => trivial) fuel listed a w (Region.free_spec hi hf) (by simpa using hr) hy trivial (.inr hS) h
theorem wpAnyJ_last {i : Nat} {oi : Oper} {v : Value} {fuel : Nat} {listed : Array Bool} {a : Act} {w : World} (hi : ops[i]? = some oi)
    (hs : Region.noSelect ops = true) (hf : Region.free md ops listed i = true) (hr : (Region.ready md ops listed).contains i = true) (hfin : fin.contains i = true)
    (hQ : ∀ c a w, Q (.panic c) (a.put oi.dst v) w → Q (.panic c) a w) (hy : YieldsIf P ops (fun _ => True) oi v a)
    (h : wpAnyJ P md ops Q S fin fuel (listed.setIfInBounds i true) (a.put oi.dst v) w) : wpAnyJ P md ops Q S fin (fuel + 1) listed a w :=
  wpAnyJ_first (G := fun _ => True) hi (Region.noSelect_spec hs) hQ (.inl (by simpa using hfin))
    (fun _ _ _ _ _ _ _ => trivial) fuel listed a w (Region.free_spec hi hf) (by simpa using hr) hy trivial (.inl (by simpa using hfin)) h
theorem wpAnyJ_all {rs : List Nat} {fuel : Nat} {listed : Array Bool} {a : Act} {w : World} (hr : Region.ready md ops listed = rs) (hne : rs ≠ [])
    (h : ∀ i ∈ rs, wpOp P ops Q i (fun a' w' => (i ∈ fin ∨ S w') ∧ wpAnyJ P md ops Q S fin fuel (listed.setIfInBounds i true) a' w') a w) : wpAnyJ P md ops Q S fin (fuel + 1) listed a w :=
  ⟨fun h0 => absurd (hr ▸ h0) hne, hr ▸ h⟩
theorem wpAnyJ_done {listed : Array Bool} {a : Act} {w : World} (hr : Region.ready md ops listed = []) (h : Q .normal a w) :
    ∀ fuel, wpAnyJ P md ops Q S fin fuel listed a w
  | 0 => ⟨hr, h⟩
  | _ + 1 => ⟨fun _ => h, by rw [hr]; simp⟩
end
def AW (P : Program) (f n : Nat) (R : Ending → World → Prop) (k : List Item) (ops : Array Oper) (S : World → Prop) (fin : List Nat) (fuel : Nat) (listed : Array Bool) (fr : Fr) (w : World) : Prop :=
  wpAnyJ P .any ops (NQ P f n R k) S fin fuel listed (actOf n fr) w
section
variable {P : Program} {f n : Nat} {R : Ending → World → Prop} {k : List Item} {fr : Fr} {w : World} {ops : Array Oper} {S : World → Prop} {fin : List Nat} {fuel : Nat} {listed : Array Bool}
def Drew (w w' : World) : Prop := w' = { w with drawn := w.drawn + 1 }
theorem rk_any {id : Nat} (S : World → Prop) (fin : List Nat) (hm : P.follows .mixedOrders = true)
    (h : ∀ w', Drew w w' → AW P f n R k ops S fin ops.size (Array.replicate ops.size false) fr w') : RunK P f n R (.code (.region id ops true) :: k) fr w :=
  rk_code (wp_region_any hm (wpAny_of_J _ _ _ _ (h _ rfl)))
theorem nq_panic {c : List PanicEntry} {a : Act} : NQ P f n R k (.panic c) a w → False := fun h => by cases h.1
inductive GY (ops : Array Oper) (n : Nat) (fr : Fr) : Option (Nat × Bool) → Prop
  | none : GY ops n fr none
  | yes {g d : Nat} {b : Bool} (hd : (ops[g]?).bind (·.dst) = some d) (hn : Nat.blt d n = true) (hv : fr d = .bool b) : GY ops n fr (some (g, b))
theorem GY.wanted {dst : Option Tmp} {op : Op} {ty : TypeId} {pos : String} {af : Array Edge} {g : Option (Nat × Bool)} (h : GY ops n fr g) :
    Region.wanted ⟨dst, op, ty, pos, af, g⟩ (yielded ops (actOf n fr).tmps) = true := by
  cases h with
  | none => rfl
  | yes hd hn hv =>
    have hy := yielded_act (ops := ops) hd hn hv
    simp [Region.wanted, hy]
theorem aw_load (i : Nat) {dst : Option Tmp} {op : Op} {ty : TypeId} {pos : String} {af : Array Edge} {g : Option (Nat × Bool)} (v : Value) (hi : ops[i]? = some ⟨dst, op, ty, pos, af, g⟩)
    (hc : (Region.noSelect ops && Region.free .any ops listed i && (Region.ready .any ops listed).contains i && finOk .any ops fin i) = true)
    (hg : GY ops n fr g) (hS : S w) (h : ∀ w, S w → DV P n op ty fr w v)
    (hk : AW P f n R k ops S fin fuel (listed.setIfInBounds i true) (putO fr dst v) w) : AW P f n R k ops S fin (fuel + 1) listed fr w := by
  simp only [Bool.and_eq_true] at hc
  obtain ⟨⟨⟨h1, h2⟩, h3⟩, h4⟩ := hc
  refine wpAnyJ_load (v := v) hi h1 h2 h3 h4 (fun c a w hq => (nq_panic hq).elim) (.inl ⟨hg.wanted, fun w hw => h w hw _ _ _ _⟩) hS ?_
  show wpAnyJ _ _ _ _ _ _ _ _ ((actOf n fr).put dst v) w
  rw [actOf_put]
  exact hk
theorem aw_pure (i : Nat) {dst : Option Tmp} {op : Op} {ty : TypeId} {pos : String} {af : Array Edge} {g : Option (Nat × Bool)} (v : Value) (hi : ops[i]? = some ⟨dst, op, ty, pos, af, g⟩)
    (hc : (Region.noSelect ops && Region.free .any ops listed i && (Region.ready .any ops listed).contains i && finOk .any ops fin i) = true)
    (hg : GY ops n fr g) (hS : S w) (h : ∀ w, DV P n op ty fr w v)
    (hk : AW P f n R k ops S fin fuel (listed.setIfInBounds i true) (putO fr dst v) w) : AW P f n R k ops S fin (fuel + 1) listed fr w := by
  simp only [Bool.and_eq_true] at hc
  obtain ⟨⟨⟨h1, h2⟩, h3⟩, h4⟩ := hc
  refine wpAnyJ_pure (v := v) hi h1 h2 h3 h4 (fun c a w hq => (nq_panic hq).elim) (.inl ⟨hg.wanted, fun w hw => h w _ _ _ _⟩) hS ?_
  show wpAnyJ _ _ _ _ _ _ _ _ ((actOf n fr).put dst v) w
  rw [actOf_put]
  exact hk
theorem aw_last (i : Nat) {dst : Option Tmp} {op : Op} {ty : TypeId} {pos : String} {af : Array Edge} {g : Option (Nat × Bool)} (v : Value) (hi : ops[i]? = some ⟨dst, op, ty, pos, af, g⟩)
    (hc : (Region.noSelect ops && Region.free .any ops listed i && (Region.ready .any ops listed).contains i && fin.contains i) = true)
    (hg : GY ops n fr g) (h : ∀ w, DV P n op ty fr w v)
    (hk : AW P f n R k ops S fin fuel (listed.setIfInBounds i true) (putO fr dst v) w) : AW P f n R k ops S fin (fuel + 1) listed fr w := by
  simp only [Bool.and_eq_true] at hc
  obtain ⟨⟨⟨h1, h2⟩, h3⟩, h4⟩ := hc
  refine wpAnyJ_last (v := v) hi h1 h2 h3 h4 (fun c a w hq => (nq_panic hq).elim) (.inl ⟨hg.wanted, fun w hw => h w _ _ _ _⟩) ?_
  show wpAnyJ _ _ _ _ _ _ _ _ ((actOf n fr).put dst v) w
  rw [actOf_put]
  exact hk
theorem wpOp_oe (i : Nat) {dst : Option Tmp} {op : Op} {ty : TypeId} {pos : String} {af : Array Edge} {g : Option (Nat × Bool)} (hi : ops[i]? = some ⟨dst, op, ty, pos, af, g⟩)
    (hg : GY ops n fr g) {K : Fr → World → Prop} {Kk : Act → World → Prop} {Q : Exit → Act → World → Prop} (hKk : ∀ fr w, K fr w → Kk (actOf n fr) w) (h : OE P n op ty fr w fun v w' => K (putO fr dst v) w') :
    wpOp P ops Q i Kk (actOf n fr) w := by
  unfold wpOp
  simp only [hi, hg.wanted, if_true]
  exact .inl (h _ _ _ _ _ _ fun v w' hv => hKk _ _ hv)
theorem aw_one (i : Nat) {dst : Option Tmp} {op : Op} {ty : TypeId} {pos : String} {af : Array Edge} {g : Option (Nat × Bool)} (hi : ops[i]? = some ⟨dst, op, ty, pos, af, g⟩)
    (hr : Region.ready .any ops listed = [i]) (hg : GY ops n fr g)
    (h : OE P n op ty fr w fun v w' => (fin.contains i = true ∨ S w') ∧ AW P f n R k ops S fin fuel (listed.setIfInBounds i true) (putO fr dst v) w') : AW P f n R k ops S fin (fuel + 1) listed fr w := by
  refine wpAnyJ_all (rs := [i]) hr (by simp) ?_
  intro j hj
  obtain rfl : j = i := by simpa using hj
  exact wpOp_oe j hi hg (K := fun fr w => (fin.contains j = true ∨ S w) ∧ AW P f n R k ops S fin fuel (listed.setIfInBounds j true) fr w)
    (fun fr w hh => ⟨hh.1.imp (by simp) id, hh.2⟩) h
theorem aw_done (hr : Region.ready .any ops listed = []) (h : RunK P f n R k fr w) : AW P f n R k ops S fin fuel listed fr w :=
  wpAnyJ_done hr ⟨rfl, fr, rfl, h⟩ _
end
end Go.Proofs.YtmbpomcbdopgnaaDoor.Fw
set_option linter.unusedVariables false
set_option linter.unusedSimpArgs false
namespace Go.Proofs.YtmbpomcbdopgnaaDoor.Fw
open Go Go.RowKit
abbrev Ext (w w' : World) : Prop := Below w.heap.size w w'
structure St (b : Nat) (w w' : World) : Prop where
  os : w'.os = w.os
  tape : w'.tape = w.tape
  output : w'.output = w.output
  size : w'.heap.size = w.heap.size
  block : ∀ k, k ≠ b → w'.heap[k]? = w.heap[k]?
structure New (w : World) (b : Nat) (o : Obj) (w' : World) : Prop where
  eq : b = w.heap.size
  ext : Ext w w'
  blk : w'.heap[b]? = some o
  size : w'.heap.size = w.heap.size + 1
theorem lt_of_blk {w : World} {b : Nat} {o : Obj} (h : w.heap[b]? = some o) : b < w.heap.size := (Array.getElem?_eq_some_iff.1 h).1
theorem Ext.blk {w w' : World} (e : Ext w w') {b : Nat} {o : Obj} (h : w.heap[b]? = some o) : w'.heap[b]? = some o := (e.block b (lt_of_blk h)).trans h
theorem St.blk {b : Nat} {w w' : World} (e : St b w w') {b' : Nat} {o : Obj} (h : w.heap[b']? = some o) (hne : b' ≠ b) : w'.heap[b']? = some o := (e.block b' hne).trans h
theorem below_ext {N : Nat} {w0 w w' : World} (h : Below N w0 w) (hN : N ≤ w.heap.size) (e : Ext w w') : Below N w0 w' := h.trans (e.mono hN)
theorem below_st {N : Nat} {w0 w w' : World} {b : Nat} (h : Below N w0 w) (hb : N ≤ b) (e : St b w w') : Below N w0 w' :=
  h.trans ⟨e.os, e.tape, e.output, Nat.le_of_eq e.size.symm, fun k hk => e.block k (Nat.ne_of_lt (Nat.lt_of_lt_of_le hk hb))⟩
theorem Drew.ext {w w' : World} (h : Drew w w') : Ext w w' := by
  subst h; exact ⟨rfl, rfl, rfl, Nat.le_refl _, fun _ _ => rfl⟩
theorem new_alloc (w : World) (o : Obj) : New w w.heap.size o (w.alloc o) :=
  ⟨rfl, (Below.refl _ _).alloc (Nat.le_refl _) o, heap_alloc_new w o, by simp⟩
section
variable {P : Program} {n : Nat} {fr : Fr} {w : World} {ty : TypeId}
theorem dv_move {x : Operand} {v : Value} (h : EV n fr x v) : DV P n (.move x) ty fr w v := fun _ _ _ _ => by
  unfold EV at h; simp [execOp, h]
theorem dv_assign {x : Operand} {v : Value} (h : EV n fr x v) : DV P n (.assign x) ty fr w v := fun _ _ _ _ => by
  unfold EV at h; simp [execOp, h]
theorem dv_pick_t {c x y : Operand} {v : Value} (hc : EV n fr c (.bool true)) (hx : EV n fr x v) : DV P n (.pick c x y) ty fr w v := fun _ _ _ _ => by
  unfold EV at hc hx
  simp [execOp, hc, hx, asBool]
theorem dv_pick_f {c x y : Operand} {v : Value} (hc : EV n fr c (.bool false)) (hy : EV n fr y v) : DV P n (.pick c x y) ty fr w v := fun _ _ _ _ => by
  unfold EV at hc hy
  simp [execOp, hc, hy, asBool]
theorem dv_extract {x : Operand} {vs : Array Value} {i : Nat} {v : Value} (hx : EV n fr x (.tuple vs)) (hi : vs[i]? = some v) : DV P n (.extract x i) ty fr w v := fun _ _ _ _ => by
  unfold EV at hx
  simp [execOp, hx, Instr.extract, hi]
theorem dv_not {x : Operand} {b : Bool} {t : TypeId} (hx : EV n fr x (.bool b)) : DV P n (.unOp .not t x) ty fr w (.bool (!b)) := fun _ _ _ _ => by
  unfold EV at hx
  simp [execOp, hx, Op.unary]
theorem dv_notd {x : Operand} {p : Prop} [Decidable p] {t : TypeId} (hx : EV n fr x (.bool (decide p))) : DV P n (.unOp .not t x) ty fr w (.bool (decide (¬ p))) := fun _ _ _ _ => by
  unfold EV at hx
  simp [execOp, hx, Op.unary]
theorem dv_neg {x : Operand} {k : IntKind} {a z : Int} {t : TypeId} (hx : EV n fr x (.int k a)) (hz : k.wrap (0 - a) = z) : DV P n (.unOp .neg t x) ty fr w (.int k z) := fun _ _ _ _ => by
  unfold EV at hx
  subst hz
  simp [execOp, hx, Op.unary, Op.intArith]
theorem dv_add {x y : Operand} {k : IntKind} {a b z : Int} {t t' : TypeId} (hx : EV n fr x (.int k a)) (hy : EV n fr y (.int k b)) (hz : k.wrap (a + b) = z) : DV P n (.binOp .add t x y t') ty fr w (.int k z) := fun _ _ _ _ => by
  unfold EV at hx hy; subst hz
  simp [execOp, hx, hy, eqGuard, binOp, Op.intArith]
theorem dv_sub {x y : Operand} {k : IntKind} {a b z : Int} {t t' : TypeId} (hx : EV n fr x (.int k a)) (hy : EV n fr y (.int k b)) (hz : k.wrap (a - b) = z) : DV P n (.binOp .sub t x y t') ty fr w (.int k z) := fun _ _ _ _ => by
  unfold EV at hx hy; subst hz
  simp [execOp, hx, hy, eqGuard, binOp, Op.intArith]
theorem dv_mul {x y : Operand} {k : IntKind} {a b z : Int} {t t' : TypeId} (hx : EV n fr x (.int k a)) (hy : EV n fr y (.int k b)) (hz : k.wrap (a * b) = z) : DV P n (.binOp .mul t x y t') ty fr w (.int k z) := fun _ _ _ _ => by
  unfold EV at hx hy; subst hz
  simp [execOp, hx, hy, eqGuard, binOp, Op.intArith]
theorem dv_quo {x y : Operand} {k : IntKind} {a b z : Int} {t t' : TypeId} (hx : EV n fr x (.int k a)) (hy : EV n fr y (.int k b)) (hb : b ≠ 0) (hz : k.wrap (a.tdiv b) = z) : DV P n (.binOp .quo t x y t') ty fr w (.int k z) := fun _ _ _ _ => by
  unfold EV at hx hy; subst hz
  simp [execOp, hx, hy, eqGuard, binOp, Op.intDiv, hb]
theorem dv_rem {x y : Operand} {k : IntKind} {a b z : Int} {t t' : TypeId} (hx : EV n fr x (.int k a)) (hy : EV n fr y (.int k b)) (hb : b ≠ 0) (hz : a.tmod b = z) : DV P n (.binOp .rem t x y t') ty fr w (.int k z) := fun _ _ _ _ => by
  unfold EV at hx hy; subst hz
  simp [execOp, hx, hy, eqGuard, binOp, Op.intDiv, hb]
theorem dv_lss {x y : Operand} {k : IntKind} {a b : Int} {t t' : TypeId} (hx : EV n fr x (.int k a)) (hy : EV n fr y (.int k b)) : DV P n (.binOp .lss t x y t') ty fr w (.bool (decide (a < b))) := fun _ _ _ _ => by
  unfold EV at hx hy
  simp [execOp, hx, hy, eqGuard, binOp, Op.intCmp]
theorem dv_leq {x y : Operand} {k : IntKind} {a b : Int} {t t' : TypeId} (hx : EV n fr x (.int k a)) (hy : EV n fr y (.int k b)) : DV P n (.binOp .leq t x y t') ty fr w (.bool (decide (a ≤ b))) := fun _ _ _ _ => by
  unfold EV at hx hy
  simp [execOp, hx, hy, eqGuard, binOp, Op.intCmp]
theorem dv_gtr {x y : Operand} {k : IntKind} {a b : Int} {t t' : TypeId} (hx : EV n fr x (.int k a)) (hy : EV n fr y (.int k b)) : DV P n (.binOp .gtr t x y t') ty fr w (.bool (decide (b < a))) := fun _ _ _ _ => by
  unfold EV at hx hy
  simp [execOp, hx, hy, eqGuard, binOp, Op.intCmp]
theorem dv_geq {x y : Operand} {k : IntKind} {a b : Int} {t t' : TypeId} (hx : EV n fr x (.int k a)) (hy : EV n fr y (.int k b)) : DV P n (.binOp .geq t x y t') ty fr w (.bool (decide (b ≤ a))) := fun _ _ _ _ => by
  unfold EV at hx hy
  simp [execOp, hx, hy, eqGuard, binOp, Op.intCmp]
theorem dv_eql {x y : Operand} {k : IntKind} {a b : Int} {t t' : TypeId} (hx : EV n fr x (.int k a)) (hy : EV n fr y (.int k b)) : DV P n (.binOp .eql t x y t') ty fr w (.bool (decide (a = b))) := fun _ _ _ _ => by
  unfold EV at hx hy
  simp [execOp, hx, hy, eqGuard, binOp, Op.intCmp]
  by_cases h : a = b <;> simp [h]
theorem dv_neq {x y : Operand} {k : IntKind} {a b : Int} {t t' : TypeId} (hx : EV n fr x (.int k a)) (hy : EV n fr y (.int k b)) : DV P n (.binOp .neq t x y t') ty fr w (.bool (decide (a ≠ b))) := fun _ _ _ _ => by
  unfold EV at hx hy
  simp [execOp, hx, hy, eqGuard, binOp, Op.intCmp]
  by_cases h : a = b <;> simp [h, bne]
theorem dv_eqlb {x y : Operand} {a b : Bool} {t t' : TypeId} (ht : P.underlying t = some .bool) (hx : EV n fr x (.bool a)) (hy : EV n fr y (.bool b)) : DV P n (.binOp .eql t x y t') ty fr w (.bool (a == b)) := fun _ _ _ _ => by
  unfold EV at hx hy
  simp [execOp, hx, hy, eqGuard, run_eql_bool w t a b ht]
theorem dv_neqb {x y : Operand} {a b : Bool} {t t' : TypeId} (ht : P.underlying t = some .bool) (hx : EV n fr x (.bool a)) (hy : EV n fr y (.bool b)) : DV P n (.binOp .neq t x y t') ty fr w (.bool (a != b)) := fun _ _ _ _ => by
  unfold EV at hx hy
  simp [execOp, hx, hy, eqGuard, run_neq_bool w t a b ht, bne]
theorem dv_shl {x y : Operand} {k k' : IntKind} {a b z : Int} {t t' : TypeId} (hx : EV n fr x (.int k a)) (hy : EV n fr y (.int k' b)) (hb : 0 ≤ b) (hz : k.wrap (a * 2 ^ (min b.toNat k.bits)) = z) : DV P n (.binOp .shl t x y t') ty fr w (.int k z) := fun _ _ _ _ => by
  unfold EV at hx hy; subst hz
  simp [execOp, hx, hy, eqGuard, binOp, Op.shift, Int.not_lt.2 hb]
theorem dv_shr {x y : Operand} {k k' : IntKind} {a b z : Int} {t t' : TypeId} (hx : EV n fr x (.int k a)) (hy : EV n fr y (.int k' b)) (hb : 0 ≤ b) (hz : a.fdiv (2 ^ (min b.toNat k.bits)) = z) : DV P n (.binOp .shr t x y t') ty fr w (.int k z) := fun _ _ _ _ => by
  unfold EV at hx hy; subst hz
  simp [execOp, hx, hy, eqGuard, binOp, Op.shift, Int.not_lt.2 hb]
def bitV (k : IntKind) (op : BinOp) (x y : Int) : Int :=
  let a := BitVec.ofInt k.bits x
  let b := BitVec.ofInt k.bits y
  match op with
  | .and => k.wrap (a &&& b).toNat
  | .or => k.wrap (a ||| b).toNat
  | .xor => k.wrap (a ^^^ b).toNat
  | _ => 0
theorem dv_or {x y : Operand} {k : IntKind} {a b z : Int} {t t' : TypeId} (hx : EV n fr x (.int k a)) (hy : EV n fr y (.int k b)) (hz : bitV k .or a b = z) : DV P n (.binOp .or t x y t') ty fr w (.int k z) := fun _ _ _ _ => by
  unfold EV at hx hy; subst hz
  simp [execOp, hx, hy, eqGuard, binOp, Op.intBits, bitV]
theorem dv_conv {x : Operand} {k k' : IntKind} {a z : Int} {t t' : TypeId} {d : TypeDesc} (h1 : P.underlying t = some d) (ht : P.underlying t' = some (.int k')) (hx : EV n fr x (.int k a)) (hz : k'.wrap a = z) : DV P n (.convert t t' x) ty fr w (.int k' z) := fun _ _ _ _ => by
  unfold EV at hx; subst hz
  cases d <;> simp [execOp, hx, convert, underlying, h1, ht, Conv.intToInt]
def mx (a b : Int) : Int := if b > a then b else a
theorem dv_len {x : Operand} {ad : Option Addr} {l c : Nat} {t e : TypeId} (ht : P.underlying t = some (.slice e)) (hx : EV n fr x (.slice ad l c)) :
    DV P n (.call { callee := .builtin .len, args := #[x], argTypes := #[t] }) ty fr w (.int .i64 l) := fun _ _ _ _ => by
  unfold EV at hx
  simp [execOp, resolve, invoke, builtin, hx, Builtin.len_, underlying, ht, goInt]
theorem dv_lens {x : Operand} {s : ByteArray} {t : TypeId} (ht : P.underlying t = some .string) (hx : EV n fr x (.string s)) :
    DV P n (.call { callee := .builtin .len, args := #[x], argTypes := #[t] }) ty fr w (.int .i64 s.size) := fun _ _ _ _ => by
  unfold EV at hx
  simp [execOp, resolve, invoke, builtin, hx, Builtin.len_, underlying, ht, goInt]
def fieldOffB (P : Program) (s i : Nat) : Option Nat :=
  match P.underlying s with
  | some (.struct fs) => match fs[i]? with
    | some f => match P.info? f.type with
      | some inf => if inf.size = 0 then none else some f.offset
      | none => none
    | none => none
  | _ => none
theorem dv_fieldAddr {s i : Nat} {x : Operand} {a a' : Addr} {off : Nat} (hf : fieldOffB P s i = some off) (hx : EV n fr x (.pointer (some a))) (ha : a.add off = a') :
    DV P n (.fieldAddr s x i) ty fr w (.pointer (some a')) := fun _ _ _ _ => by
  unfold EV at hx
  subst ha
  unfold fieldOffB at hf
  split at hf
  · rename_i fs hs
    split at hf
    · rename_i fl hfl
      split at hf
      · rename_i inf hin
        split at hf
        · cases hf
        · rename_i hne
          obtain rfl : fl.offset = off := by simpa using hf
          simp [execOp, hx, Instr.fieldAt, underlying, hs, hfl, Instr.sureAddr, fieldPlace, sizeOf, typeInfo, hin, hne]
      · cases hf
    · cases hf
  · cases hf
def sizeB (P : Program) (t : Nat) : Option Nat := (P.info? t).map (·.size)
theorem dv_indexAddr {t e : TypeId} {x i : Operand} {a a' : Addr} {l c sz : Nat} {k : IntKind} {j : Int} (ht : P.underlying t = some (.slice e)) (hs : sizeB P e = some sz)
    (hx : EV n fr x (.slice (some a) l c)) (hi : EV n fr i (.int k j)) (h0 : 0 ≤ j) (h1 : j < l) (ha : a.add (j.toNat * sz) = a') : DV P n (.indexAddr t x i) ty fr w (.pointer (some a')) := fun _ _ _ _ => by
  unfold EV at hx hi
  subst ha
  unfold sizeB at hs
  cases hin : P.info? e with
  | none => simp [hin] at hs
  | some inf =>
    obtain rfl : inf.size = sz := by simpa [hin] using hs
    simp [execOp, hx, hi, Instr.indexAt, asIntOf, underlying, ht, h0, h1, sizeOf, typeInfo, hin]
theorem dv_slice_h {t e : TypeId} {x h : Operand} {A : Option Addr} {l c sz : Nat} {k : IntKind} {j : Int} (ht : P.underlying t = some (.slice e)) (hs : sizeB P e = some sz)
    (hx : EV n fr x (.slice A l c)) (hh : EV n fr h (.int k j)) (h0 : 0 ≤ j) (h1 : j ≤ c) : DV P n (.slice t x none (some h) none) ty fr w (.slice A j.toNat c) := fun _ _ _ _ => by
  unfold EV at hx hh
  unfold sizeB at hs
  cases hin : P.info? e with
  | none => simp [hin] at hs
  | some inf =>
    obtain rfl : inf.size = sz := by simpa [hin] using hs
    simp [execOp, hx, hh, Instr.sliceAt, underlying, ht, Instr.slice, Instr.sliceBounds, Instr.sliceBound, asIntOf, h0, h1, sizeOf, typeInfo, hin]
    intro _
    cases A <;> simp [Addr.add]
theorem dv_index_s {t : TypeId} {x i : Operand} {s : ByteArray} {k : IntKind} {j z : Int} (ht : P.underlying t = some .string)
    (hx : EV n fr x (.string s)) (hi : EV n fr i (.int k j)) (h0 : 0 ≤ j) (h1 : j.toNat < s.size) (hz : ((s[j.toNat]'h1).toNat : Int) = z) : DV P n (.index t x i) ty fr w (.int .u8 z) := fun _ _ _ _ => by
  unfold EV at hx hi
  subst hz
  simp [execOp, hx, hi, Instr.index, asIntOf, underlying, ht, h0, h1]
def aggB (P : Program) (t : Nat) : Option Bool := (P.underlying t).map fun | .struct _ | .array _ _ => true | _ => false
theorem run_isAgg {t : Nat} {b : Bool} (h : aggB P t = some b) : (isAgg t).run P w = .ok b w := by
  unfold aggB at h
  cases hu : P.underlying t with
  | none => simp [hu] at h
  | some d =>
    simp only [hu, Option.map_some, Option.some.injEq] at h
    subst h
    cases d <;> simp [isAgg, underlying, hu]
theorem run_sizeOf {t sz : Nat} (h : sizeB P t = some sz) : (sizeOf t).run P w = .ok sz w := by
  unfold sizeB at h
  cases hin : P.info? t with
  | none => simp [hin] at h
  | some inf =>
    obtain rfl : inf.size = sz := by simpa [hin] using h
    simp [sizeOf, typeInfo, hin]
theorem dv_load {t : TypeId} {x : Operand} {a : Addr} {v : Value} (ht : aggB P t = some false) (hx : EV n fr x (.pointer (some a))) (hc : w.cell? a = some v) : DV P n (.load t x) ty fr w v := fun _ _ _ _ => by
  unfold EV at hx
  simp [execOp, hx, Instr.loadAt, Instr.sureAddr, loadVar, run_isAgg ht, hc]
theorem dv_load1 {t : TypeId} {x : Operand} {b o T : Nat} {cs : Array Value} {fz : Nat × Nat} {v : Value} (ht : aggB P t = some false) (hx : EV n fr x (.pointer (some ⟨b, o, none⟩))) (hb : w.heap[b]? = some (.cells cs T fz))
    (hc : cs[o]? = some v) : DV P n (.load t x) ty fr w v :=
  dv_load ht hx (by rw [cell_of_row w b o cs T fz hb]; exact hc)
def rdC (cs : List Value) : Nat → Nat → Option (List Value)
  | 0, 0 => some []
  | 0, m + 1 => match cs with
    | [] => none
    | c :: r => (rdC r 0 m).map (c :: ·)
  | o + 1, m => match cs with
    | [] => if m = 0 then some [] else none
    | _ :: r => rdC r o m
theorem rdC_get : ∀ (cs : List Value) (o m : Nat) (l : List Value), rdC cs o m = some l → l.length = m ∧ ∀ j, j < m → cs[o + j]? = l[j]? ∧ l[j]? ≠ none := by
  intro cs
  induction cs with
  | nil =>
    intro o m l h
    cases o <;> cases m <;> simp [rdC] at h <;> subst h <;> simp
  | cons c r ih =>
    intro o m l h
    cases o with
    | zero =>
      cases m with
      | zero => simp [rdC] at h; subst h; simp
      | succ m =>
        simp only [rdC, Option.map_eq_some_iff] at h
        obtain ⟨l', h1, rfl⟩ := h
        obtain ⟨h2, h3⟩ := ih 0 m l' h1
        refine ⟨by simp [h2], fun j hj => ?_⟩
        cases j with
        | zero => simp
        | succ j =>
          have := h3 j (by omega)
          simp only [Nat.zero_add] at this
          simpa using this
    | succ o =>
      simp only [rdC] at h
      obtain ⟨h2, h3⟩ := ih o m l h
      refine ⟨h2, fun j hj => ?_⟩
      have := h3 j hj
      rw [show o + 1 + j = (o + j) + 1 by omega]
      simpa using this
theorem loadVar_cells {t : TypeId} {b o m T : Nat} {cs l : List Value} {fz : Nat × Nat} (ht : aggB P t = some true) (hs : sizeB P t = some m)
    (hb : w.heap[b]? = some (.cells cs.toArray T fz)) (hc : rdC cs o m = some l) : (loadVar t ⟨b, o, none⟩).run P w = .ok (.agg l.toArray) w := by
  obtain ⟨hl, hg⟩ := rdC_get cs o m l hc
  have hld : (loadCells ⟨b, o, none⟩ l.length).run P w = .ok l.toArray w := by
    refine run_loadCells_list _ _ l fun j v hj => ?_
    have hjl : j < l.length := (List.getElem?_eq_some_iff.1 hj).1
    have h1 := (hg j (by omega)).1
    rw [hj] at h1
    have : (⟨b, o, none⟩ : Addr).add j = ⟨b, o + j, none⟩ := by unfold Addr.add; split <;> simp_all
    rw [this, cell_of_row w b (o + j) cs.toArray T fz hb]
    simpa using h1
  rw [hl] at hld
  simp [loadVar, run_isAgg ht, run_sizeOf hs, hld]
theorem dv_loads {t : TypeId} {x : Operand} {b o m T : Nat} {cs l : List Value} {fz : Nat × Nat} (ht : aggB P t = some true) (hs : sizeB P t = some m) (hx : EV n fr x (.pointer (some ⟨b, o, none⟩)))
    (hb : w.heap[b]? = some (.cells cs.toArray T fz)) (hc : rdC cs o m = some l) : DV P n (.load t x) ty fr w (.agg l.toArray) := fun _ _ _ _ => by
  unfold EV at hx
  have := loadVar_cells (w := w) ht hs hb hc
  simp [execOp, hx, Instr.loadAt, Instr.sureAddr, this]
theorem rv_cells {a : Nat} {t : TypeId} {b m T : Nat} {cs l : List Value} {fz : Nat × Nat} (ht : aggB P t = some true) (hs : sizeB P t = some m) (hn : Nat.blt a n = true) (hx : fr a = .pointer (some ⟨b, 0, none⟩))
    (hb : w.heap[b]? = some (.cells cs.toArray T fz)) (hc : rdC cs 0 m = some l) : RV P n fr w (.cell a t) (.agg l.toArray) := by
  have := loadVar_cells (w := w) ht hs hb hc
  show (do loadVar t (← asAddr ((actOf n fr).tmps.getD a undef)) : Sem Value).run P w = _
  rw [actOf_getD n fr a hn, hx]
  simp [asAddr, this]
theorem oe_box {T : TypeId} {x : Operand} {v : Value} {cs : Array Value} {K : Value → World → Prop} (hx : EV n fr x v) (hc : v.cells = cs)
    (h : ∀ b w', New w b (.cells cs T) w' → K (.pointer (some ⟨b, 0, none⟩)) w') : OE P n (.box T x) ty fr w K :=
  OE.of_run (v := .pointer (some ⟨w.heap.size, 0, none⟩)) (w' := w.alloc (.cells cs T)) (fun _ _ _ _ => by
    unfold EV at hx
    simp [execOp, hx, Instr.box, newVar, newRow, hc]) (h _ _ (new_alloc w _))
def zeroB (P : Program) (t : Nat) : Option (Array Value) := ((P.info? t).bind (·.zero)).map (·.cells)
theorem oe_alloc {T : TypeId} {cs : Array Value} {K : Value → World → Prop} (hz : zeroB P T = some cs)
    (h : ∀ b w', New w b (.cells cs T) w' → K (.pointer (some ⟨b, 0, none⟩)) w') : OE P n (.alloc T) ty fr w K :=
  OE.of_run (v := .pointer (some ⟨w.heap.size, 0, none⟩)) (w' := w.alloc (.cells cs T)) (fun _ _ _ _ => by
    unfold zeroB at hz
    cases hi : P.info? T with
    | none => simp [hi] at hz
    | some inf =>
      cases hzz : inf.zero with
      | none => simp [hi, hzz] at hz
      | some z =>
        have : z.cells = cs := by simpa [hi, hzz] using hz
        simp [execOp, Instr.alloc, zeroValue, typeInfo, hi, hzz, newVar, newRow, this]) (h _ _ (new_alloc w _))
def stC (cs : List Value) : Nat → List Value → Option (List Value)
  | _, [] => some cs
  | 0, v :: vs => match cs with
    | [] => none
    | _ :: r => (stC r 0 vs).map (v :: ·)
  | o + 1, v :: vs => match cs with
    | [] => none
    | c :: r => (stC r o (v :: vs)).map (c :: ·)
theorem stC_nil (cs : List Value) (o : Nat) : stC cs o [] = some cs := by cases o <;> simp [stC]
theorem stC_step : ∀ (cs : List Value) (o : Nat) (v : Value) (vs l : List Value), stC cs o (v :: vs) = some l → o < cs.length ∧ stC (cs.set o v) (o + 1) vs = some l := by
  intro cs
  induction cs with
  | nil => intro o v vs l h; cases o <;> simp [stC] at h
  | cons c r ih =>
    intro o v vs l h
    cases o with
    | zero =>
      simp only [stC, Option.map_eq_some_iff] at h
      obtain ⟨l', h1, rfl⟩ := h
      refine ⟨by simp, ?_⟩
      cases vs with
      | nil => rw [stC_nil] at h1; simp at h1; subst h1; simp [stC_nil]
      | cons u us => simp [stC, h1]
    | succ o =>
      simp only [stC, Option.map_eq_some_iff] at h
      obtain ⟨l', h1, rfl⟩ := h
      obtain ⟨h2, h3⟩ := ih o v vs l' h1
      refine ⟨by simpa using h2, ?_⟩
      cases vs with
      | nil => rw [stC_nil] at h3 ⊢; simpa using h3
      | cons u us => simp [stC, h3]
theorem st_setCell {w : World} {b o T : Nat} {cs : Array Value} {v : Value} (hb : w.heap[b]? = some (.cells cs T)) : St b w (w.setCell ⟨b, o, none⟩ v) :=
  ⟨rfl, rfl, rfl, by simp, fun k hk => heap_setCell_other w ⟨b, o, none⟩ k v hk⟩
theorem St.refl (b : Nat) (w : World) : St b w w := ⟨rfl, rfl, rfl, rfl, fun _ _ => rfl⟩
theorem St.trans {b : Nat} {w w1 w2 : World} (h : St b w w1) (h2 : St b w1 w2) : St b w w2 :=
  ⟨h2.os.trans h.os, h2.tape.trans h.tape, h2.output.trans h.output, h2.size.trans h.size, fun k hk => (h2.block k hk).trans (h.block k hk)⟩
theorem run_storeCells : ∀ (vs : List Value) (i : Nat) (w : World) (b o T : Nat) (cs l : List Value), (∀ v ∈ vs, v.oneCell' = true) → w.heap[b]? = some (.cells cs.toArray T) → stC cs (o + i) vs = some l →
    ∃ w', (storeCells ⟨b, o, none⟩ vs i).run P w = .ok () w' ∧ St b w w' ∧ w'.heap[b]? = some (.cells l.toArray T) := by
  intro vs
  induction vs with
  | nil =>
    intro i w b o T cs l _ hb h
    rw [stC_nil] at h
    obtain rfl : cs = l := by simpa using h
    exact ⟨w, rfl, St.refl _ _, hb⟩
  | cons v vs ih =>
    intro i w b o T cs l h1 hb h
    obtain ⟨hlt, h2⟩ := stC_step cs (o + i) v vs l h
    have ha : (⟨b, o, none⟩ : Addr).add i = ⟨b, o + i, none⟩ := by unfold Addr.add; split <;> simp_all
    have hcell : w.cell? ⟨b, o + i, none⟩ = some cs[o + i] := by rw [cell_of_row w b (o + i) cs.toArray T (0, 0) hb]; simp [hlt]
    have hfz : w.frozen? ⟨b, o + i, none⟩ = false := frozen_of_row w b (o + i) cs.toArray T hb
    have hb' : (w.setCell ⟨b, o + i, none⟩ v).heap[b]? = some (.cells (cs.set (o + i) v).toArray T) := by
      rw [heap_setCell_same w b (o + i) cs.toArray T v hb]
      simp
    obtain ⟨w', hr, hst, hbl⟩ := ih (i + 1) (w.setCell ⟨b, o + i, none⟩ v) b o T (cs.set (o + i) v) l (fun u hu => h1 u (List.mem_cons_of_mem _ hu)) hb' (by rw [← Nat.add_assoc]; exact h2)
    refine ⟨w', ?_, (st_setCell hb).trans hst, hbl⟩
    simp only [storeCells, Sem.run_bind, ha, run_store P w _ v .plain (h1 v (by simp)), hcell, hfz]
    simpa using hr
theorem oe_store {t : TypeId} {x y : Operand} {v : Value} {b o T m : Nat} {cs l vs : List Value} {K : Value → World → Prop} (hx : EV n fr x (.pointer (some ⟨b, o, none⟩))) (hy : EV n fr y v)
    (hs : sizeB P t = some m) (hv : v.cells = vs.toArray) (hm : vs.length = m) (h1 : vs.all (·.oneCell') = true) (hb : w.heap[b]? = some (.cells cs.toArray T)) (hl : stC cs o vs = some l)
    (h : ∀ w', St b w w' → w'.heap[b]? = some (.cells l.toArray T) → K undef w') : OE P n (.store t x y) ty fr w K := by
  obtain ⟨w', hr, hst, hbl⟩ := run_storeCells (P := P) vs 0 w b o T cs l (fun u hu => List.all_eq_true.1 h1 u hu) hb (by simpa using hl)
  refine OE.of_skip (w' := w') (fun _ _ _ _ => ?_) (h w' hst hbl)
  unfold EV at hx hy
  subst hm
  simp [execOp, hx, hy, Instr.storeAt, Instr.sureAddr, storeVar, run_sizeOf hs, hv, hr]
def Ct (P : Program) (f : FuncId) (args : List Value) (w : World) (R : Value → World → Prop) : Prop :=
  Calls P f args.toArray w fun e w' => ∃ v, e = .returned v ∧ R v w'
theorem Ct.mono {f : FuncId} {args : List Value} {R R' : Value → World → Prop} (h : Ct P f args w R) (hr : ∀ v w', R v w' → R' v w') : Ct P f args w R' :=
  Calls.mono h fun e w' ⟨v, he, hv⟩ => ⟨v, he, hr v w' hv⟩
theorem ct_run {f : Nat} {fn : Func} {c : Code} {args : List Value} {R : Value → World → Prop} (hf : P.funcs[f]? = some fn) (hb : fn.body = some c) (hn : fn.ntmps = n) (ha : Nat.ble args.length n = true)
    (h : RunK P f n (fun e w' => ∃ v, e = .returned v ∧ R v w') [.code c] (fr0 args) w) : Ct P f args w R := calls_run hf hb hn ha h
def callOk (P : Program) (g : Nat) : Bool :=
  match P.funcs[g]? with
  | some fn => fn.name != "runtime.NumGoroutine" && fn.body.isSome
  | none => false
theorem oe_callf {g : Nat} {args : Array Operand} {tys : Array TypeId} {vs : List Value} {R : Value → World → Prop} {K : Value → World → Prop} (hg : callOk P g = true) (ha : args.map (actOf n fr).eval = vs.toArray)
    (h : Ct P g vs w R) (hK : ∀ v w', R v w' → K v w') : OE P n (.call { callee := .value (.func g), args := args, argTypes := tys }) ty fr w K := by
  intro dst pos af gd Kk Q hk
  have hf : ∃ fn, P.funcs[g]? = some fn ∧ fn.name ≠ "runtime.NumGoroutine" ∧ fn.body ≠ none := by
    unfold callOk at hg
    split at hg
    · rename_i fn hfn
      refine ⟨fn, hfn, ?_, ?_⟩
      · simp only [Bool.and_eq_true, bne_iff_ne] at hg; exact hg.1
      · simp only [Bool.and_eq_true] at hg; intro hbd; rw [hbd] at hg; exact absurd hg.2 (by simp)
    · cases hg
  obtain ⟨fn, hfn, hnm, hbd⟩ := hf
  have hrun : (execOp (actOf n fr).eval ⟨dst, .call { callee := .value (.func g), args := args, argTypes := tys }, ty, pos, af, gd⟩).run P w = .ok (.enter g vs.toArray) w := by
    have hev : (actOf n fr).eval (.func g) = .func (.func g) #[] #[] := rfl
    simp [execOp, resolve, hev, Deferred.ofValue, invoke, callFunc, hfn, hnm, hbd, ha]
  unfold Oper.wp
  rw [hrun]
  show Calls P g vs.toArray w _
  refine Calls.mono h fun e w' ⟨v, he, hv⟩ => ?_
  subst he
  show Kk ((actOf n fr).put dst v) w'
  rw [actOf_put]
  exact hk v w' (hK v w' hv)
theorem ar1 {a : Operand} {v : Value} (h : EV n fr a v) : (#[a] : Array Operand).map (actOf n fr).eval = [v].toArray := by unfold EV at h; simp [h]
theorem ar2 {a b : Operand} {v u : Value} (h : EV n fr a v) (h2 : EV n fr b u) : (#[a, b] : Array Operand).map (actOf n fr).eval = [v, u].toArray := by unfold EV at h h2; simp [h, h2]
theorem ar3 {a b c : Operand} {v u x : Value} (h : EV n fr a v) (h2 : EV n fr b u) (h3 : EV n fr c x) : (#[a, b, c] : Array Operand).map (actOf n fr).eval = [v, u, x].toArray := by unfold EV at h h2 h3; simp [h, h2, h3]
end
end Go.Proofs.YtmbpomcbdopgnaaDoor.Fw
set_option linter.unusedVariables false
set_option linter.unusedSimpArgs false
namespace Go.Proofs.YtmbpomcbdopgnaaDoor.Fw
open Go Go.RowKit
section
variable {P : Program} {n : Nat} {fr : Fr} {w : World} {ty : TypeId}
def placesB (P : Program) (t : Nat) : Option (List (Nat × Nat)) :=
  match P.underlying t with
  | some (.struct fs) => fs.toList.mapM fun f => (sizeB P f.type).map fun m => (f.offset, m)
  | _ => none
def fillL (place : Nat → Option (Nat × Nat)) (cs : List Value) : List (Nat × Value) → Option (List Value)
  | [] => some cs
  | (i, v) :: rest => match place i with
    | none => none
    | some (off, size) => bif v.cells.size == size && Nat.ble (off + size) cs.length then match stC cs off v.cells.toList with
        | some cs' => fillL place cs' rest
        | none => none
      else none
theorem fold_stC : ∀ (vs : List Value) (cs l : List Value) (off j : Nat), stC cs (off + j) vs = some l →
    (vs.zipIdx j).foldl (fun (a : Array Value) (x : Value × Nat) => a.setIfInBounds (off + x.2) x.1) cs.toArray = l.toArray ∧ off + j + vs.length ≤ max cs.length (off + j) := by
  intro vs
  induction vs with
  | nil => intro cs l off j h; rw [stC_nil] at h; simp at h; subst h; simp; omega
  | cons v vs ih =>
    intro cs l off j h
    obtain ⟨h1, h2⟩ := stC_step cs (off + j) v vs l h
    obtain ⟨h3, h4⟩ := ih (cs.set (off + j) v) l off (j + 1) h2
    simp only [List.zipIdx_cons, List.foldl_cons]
    refine ⟨?_, ?_⟩
    · rw [← h3]; simp
    · simp at h4 ⊢; omega
theorem fill_of : ∀ (parts : List (Nat × Value)) (place : Nat → Option (Nat × Nat)) (cs l : List Value), fillL place cs parts = some l → Instr.fill place cs.toArray parts = some l.toArray := by
  intro parts
  induction parts with
  | nil => intro place cs l h; simp [fillL] at h; subst h; simp [Instr.fill]
  | cons p rest ih =>
    intro place cs l h
    obtain ⟨i, v⟩ := p
    simp only [fillL] at h
    split at h
    · cases h
    · rename_i off size hp
      cases hc : (v.cells.size == size && Nat.ble (off + size) cs.length) with
      | false => rw [hc] at h; cases h
      | true =>
        rw [hc] at h
        simp only [cond_true] at h
        simp only [Bool.and_eq_true, beq_iff_eq, Nat.ble_eq] at hc
        obtain ⟨hsz, hle⟩ := hc
        split at h
        · rename_i cs' hst
          have hf := fold_stC v.cells.toList cs cs' off 0 (by simpa using hst)
          simp only [Instr.fill, hp]
          have hcond : ¬ ((decide (v.cells.size ≠ size) || decide (off + v.cells.size > cs.toArray.size)) = true) := by
            simp [hsz, hle]
          rw [if_neg hcond]
          have e1 : (v.cells.zipIdx.foldl (fun (a : Array Value) (x : Value × Nat) => a.setIfInBounds (off + x.2) x.1) cs.toArray) = cs'.toArray := by
            have h3 := hf.1
            rw [← h3, ← Array.foldl_toList]
            simp
          have h5 := ih place cs' l h
          rw [← e1] at h5
          exact h5
        · cases h
def zcB (P : Program) (t : Nat) : Option (List Value) := (zeroB P t).map (·.toList)
theorem places_spec {t : Nat} {pl : List (Nat × Nat)} (h : placesB P t = some pl) :
    ∃ fs, P.underlying t = some (.struct fs) ∧ ∀ w : World, ((fs.mapM fun f => do pure (f.offset, ← sizeOf f.type)) : Sem (Array (Nat × Nat))).run P w = .ok pl.toArray w := by
  unfold placesB at h
  split at h
  · rename_i fs hs
    refine ⟨fs, hs, fun w => ?_⟩
    have gen : ∀ (l : List Field) (pl : List (Nat × Nat)), (l.mapM fun f => (sizeB P f.type).map fun m => (f.offset, m)) = some pl →
        ((l.mapM fun f => do pure (f.offset, ← sizeOf f.type)) : Sem (List (Nat × Nat))).run P w = .ok pl w := by
      intro l
      induction l with
      | nil => intro pl h; simp at h; subst h; simp
      | cons f l ih =>
        intro pl h
        simp only [List.mapM_cons, Option.bind_eq_bind, Option.bind_eq_some_iff, Option.map_eq_some_iff, Option.pure_def, Option.some.injEq] at h
        obtain ⟨x, ⟨m, hm, rfl⟩, xs, hxs, rfl⟩ := h
        have hi := ih xs hxs
        simp only [bind_pure_comp] at hi
        simp [List.mapM_cons, run_sizeOf hm, hi]
    have h1 := gen fs.toList pl h
    rw [Array.mapM_eq_mapM_toList]
    simp only [Sem.run_map, h1]
    rfl
  · cases h
theorem run_zero {t : Nat} {zc : List Value} (h : zcB P t = some zc) (w : World) : ∃ z, (zeroValue t).run P w = .ok z w ∧ z.cells = zc.toArray := by
  unfold zcB zeroB at h
  cases hi : P.info? t with
  | none => simp [hi] at h
  | some inf =>
    cases hz : inf.zero with
    | none => simp [hi, hz] at h
    | some z =>
      refine ⟨z, by simp [zeroValue, typeInfo, hi, hz], ?_⟩
      simp only [hi, hz, Option.bind_some, Option.map_some, Option.some.injEq] at h
      rw [← h]
def EVs (n : Nat) (fr : Fr) : List (Nat × Operand) → List (Nat × Value) → Prop
  | [], [] => True
  | (i, x) :: r, (j, v) :: s => i = j ∧ EV n fr x v ∧ EVs n fr r s
  | _, _ => False
theorem EVs.map : ∀ {ps : List (Nat × Operand)} {pv : List (Nat × Value)}, EVs n fr ps pv → ps.map (fun (i, x) => (i, (actOf n fr).eval x)) = pv
  | [], [], _ => rfl
  | (i, x) :: r, (j, v) :: s, h => by
    obtain ⟨rfl, h1, h2⟩ := h
    unfold EV at h1
    simp [h1, EVs.map h2]
  | [], _ :: _, h => h.elim
  | _ :: _, [], h => h.elim
theorem dv_build {t : TypeId} {ps : List (Nat × Operand)} {pv : List (Nat × Value)} {zc l : List Value} {pl : List (Nat × Nat)} (hz : zcB P t = some zc) (hp : placesB P t = some pl) (hx : EVs n fr ps pv)
    (hl : fillL (fun i => pl[i]?) zc pv = some l) : DV P n (.build t ps.toArray) ty fr w (.agg l.toArray) := fun _ _ _ _ => by
  obtain ⟨fs, hs, hpl⟩ := places_spec hp
  obtain ⟨z, hzr, hzc⟩ := run_zero hz w
  have hf := fill_of pv (fun i => pl.toArray[i]?) zc l (by simpa using hl)
  have hm := hx.map
  have hm2 : (ps.toArray.map fun (i, x) => (i, (actOf n fr).eval x)).toList = pv := by simpa using hm
  simp only [execOp, Instr.build, Sem.run_bind, hzr, Result.andThen_ok, underlying, Sem.run_pure, run_program, hs, hpl, hzc]
  rw [hm2, hf]
  rfl
theorem oe_makeSlice {t e : TypeId} {x y : Operand} {kl kc : IntKind} {l : Nat} {z : Value} {bytes : Nat} {K : Value → World → Prop} (ht : P.underlying t = some (.slice e))
    (hi : (P.info? e).map (fun i => (i.zero, i.size, i.bytes)) = some (some z, 1, bytes)) (hz : z.cells = #[z]) (hx : EV n fr x (.int kl l)) (hy : EV n fr y (.int kc l)) (hb : bytes * l ≤ 281474976710656) (hl : l ≤ 281474976710656)
    (h : ∀ b w', New w b (.cells (List.replicate l z).toArray e) w' → K (.slice (some ⟨b, 0, none⟩) l l) w') : OE P n (.makeSlice t x y) ty fr w K := by
  cases hin : P.info? e with
  | none => simp [hin] at hi
  | some inf =>
    simp only [hin, Option.map_some, Option.some.injEq, Prod.mk.injEq] at hi
    obtain ⟨h1, h2, h3⟩ := hi
    subst h3
    have hb' : (inf.bytes : Int) * (l : Int) ≤ 281474976710656 := by
      have h : ((inf.bytes * l : Nat) : Int) ≤ 281474976710656 := by omega
      rwa [Int.natCast_mul] at h
    have hr := run_make (P := P) w t e inf z ht hin h1 kl kc l l (by omega) (Int.le_refl _) hb' (by omega)
    simp only [Int.toNat_natCast, h2, Nat.mul_one, hz] at hr
    have hm : madeCells #[z] l = (List.replicate l z).toArray := by rw [← toList_madeCells_one]
    rw [hm] at hr
    refine OE.of_run (fun _ _ _ _ => ?_) (h _ _ (new_alloc w _))
    unfold EV at hx hy
    simp [execOp, hx, hy, hr]
theorem oe_makeSlice_cap {t e : TypeId} {x y : Operand} {kl kc : IntKind} {c : Nat} {z : Value} {bytes : Nat} {K : Value → World → Prop} (ht : P.underlying t = some (.slice e))
    (hi : (P.info? e).map (fun i => (i.zero, i.size, i.bytes)) = some (some z, 1, bytes)) (hz : z.cells = #[z]) (hx : EV n fr x (.int kl 0)) (hy : EV n fr y (.int kc c)) (hb : bytes * c ≤ 281474976710656) (hl : c ≤ 281474976710656)
    (h : ∀ b w', New w b (.cells (List.replicate c z).toArray e) w' → K (.slice (some ⟨b, 0, none⟩) 0 c) w') : OE P n (.makeSlice t x y) ty fr w K := by
  cases hin : P.info? e with
  | none => simp [hin] at hi
  | some inf =>
    simp only [hin, Option.map_some, Option.some.injEq, Prod.mk.injEq] at hi
    obtain ⟨h1, h2, h3⟩ := hi
    subst h3
    have hb' : (inf.bytes : Int) * (c : Int) ≤ 281474976710656 := by
      have h : ((inf.bytes * c : Nat) : Int) ≤ 281474976710656 := by omega
      rwa [Int.natCast_mul] at h
    have hr := run_make (P := P) w t e inf z ht hin h1 kl kc 0 c (by omega) (by omega) hb' (by omega)
    simp only [Int.toNat_natCast, Int.toNat_zero, h2, Nat.mul_one, hz] at hr
    have hm : madeCells #[z] c = (List.replicate c z).toArray := by rw [← toList_madeCells_one]
    rw [hm] at hr
    refine OE.of_run (fun _ _ _ _ => ?_) (h _ _ (new_alloc w _))
    unfold EV at hx hy
    simp [execOp, hx, hy, hr]
theorem oe_buildSlice {t e : TypeId} {len sz : Nat} {ps : List (Nat × Operand)} {pv : List (Nat × Value)} {zc init l : List Value} {K : Value → World → Prop} (ht : P.underlying t = some (.slice e)) (hs : sizeB P e = some sz)
    (hlen : Nat.ble (len * sz) 16777216 = true) (hpos : Nat.beq (len * sz) 0 = false) (hz : zcB P e = some zc) (hin : ((Array.range (len * sz)).map (zc.toArray[· % zc.toArray.size]!)).toList = init) (hx : EVs n fr ps pv)
    (hl : fillL (fun i => some (i * sz, sz)) init pv = some l)
    (h : ∀ b w', New w b (.cells l.toArray e) w' → K (.slice (some ⟨b, 0, none⟩) len len) w') : OE P n (.buildSlice t len ps.toArray) ty fr w K :=
  OE.of_run (v := .slice (some ⟨w.heap.size, 0, none⟩) len len) (w' := w.alloc (.cells l.toArray e)) (fun _ _ _ _ => by
    obtain ⟨z, hzr, hzc⟩ := run_zero hz w
    have hf := fill_of pv (fun i => some (i * sz, sz)) init l hl
    have hm := hx.map
    have hm2 : (ps.toArray.map fun (i, x) => (i, (actOf n fr).eval x)).toList = pv := by simpa using hm
    have h1 : ¬ (len * sz > 2 ^ 24) := by simp at hlen; simp; omega
    have h2 : ¬ (len * sz = 0) := by intro h0; rw [h0] at hpos; cases hpos
    have hin' : ((Array.range (len * sz)).map (zc.toArray[· % zc.toArray.size]!)) = init.toArray := by rw [← hin]
    simp only [execOp, Instr.buildSlice, Sem.run_bind, underlying, Sem.run_pure, run_program, ht, Result.andThen_ok, run_sizeOf hs, if_neg h1, if_neg h2, hzr, hzc, hin', hm2, hf, newRow, run_newObj]
    rfl) (h _ _ (new_alloc w _))
end
def Wd (w : World) (T : Nat) (k : IntKind) (A : Option Addr) (xs : List Int) : Prop :=
  (xs = [] ∧ A = none) ∨ ∃ (g off : Nat) (cs : Array Value) (fz : Nat × Nat), A = some ⟨g, off, none⟩ ∧ w.heap[g]? = some (.cells cs T fz) ∧ ∀ i x, xs[i]? = some x → cs[off + i]? = some (.int k x)
theorem Wd.nil {w : World} {T : Nat} {k : IntKind} : Wd w T k none [] := .inl ⟨rfl, rfl⟩
theorem Wd.ext {w w' : World} {T : Nat} {k : IntKind} {A : Option Addr} {xs : List Int} (h : Wd w T k A xs) (e : Ext w w') : Wd w' T k A xs := by
  rcases h with h | ⟨g, off, cs, fz, hA, hg, hc⟩
  · exact .inl h
  · exact .inr ⟨g, off, cs, fz, hA, e.blk hg, hc⟩
theorem Wd.st {w w' : World} {T T' b : Nat} {k : IntKind} {A : Option Addr} {xs : List Int} {cs' : Array Value} {fz' : Nat × Nat} (h : Wd w T k A xs) (e : St b w w') (hb : w.heap[b]? = some (.cells cs' T' fz')) (hT : T' ≠ T) : Wd w' T k A xs := by
  rcases h with h | ⟨g, off, cs, fz, hA, hg, hc⟩
  · exact .inl h
  · refine .inr ⟨g, off, cs, fz, hA, e.blk hg ?_, hc⟩
    intro he
    subst he
    rw [hg] at hb
    injection hb with hb
    injection hb with _ hb _
    exact hT hb.symm
theorem Wd.at {w : World} {T : Nat} {k : IntKind} {A : Option Addr} {xs : List Int} (h : Wd w T k A xs) (hp : 0 < xs.length) : ∃ g off, A = some ⟨g, off, none⟩ := by
  rcases h with h | ⟨g, off, cs, fz, hA, hg, hc⟩
  · rw [h.1] at hp; simp at hp
  · exact ⟨g, off, hA⟩
theorem Wd.cell {w : World} {T : Nat} {k : IntKind} {g off : Nat} {xs : List Int} (h : Wd w T k (some ⟨g, off, none⟩) xs) {i : Nat} (hi : i < xs.length) : w.cell? ⟨g, off + i, none⟩ = some (.int k (xs.getD i 0)) := by
  rcases h with h | ⟨g', off', cs, fz, hA, hg, hc⟩
  · cases h.2
  · obtain ⟨rfl, rfl⟩ : g = g' ∧ off = off' := by simpa using hA
    rw [cell_of_row w g (off + i) cs T fz hg]
    have := hc i _ (List.getElem?_eq_getElem hi)
    simpa [List.getD_eq_getElem?_getD, List.getElem?_eq_getElem hi] using this
theorem Wd.take {w : World} {T : Nat} {k : IntKind} {A : Option Addr} {xs : List Int} (h : Wd w T k A xs) (m : Nat) : Wd w T k A (xs.take m) := by
  rcases h with h | ⟨g, off, cs, fz, hA, hg, hc⟩
  · exact .inl ⟨by rw [h.1]; simp, h.2⟩
  · refine .inr ⟨g, off, cs, fz, hA, hg, fun i x hi => hc i x ?_⟩
    rw [List.getElem?_take] at hi
    split at hi
    · exact hi
    · cases hi
theorem Wd.own {w : World} {T : Nat} {k : IntKind} {b : Nat} {xs : List Int} {r : List Value} {fz : Nat × Nat} (hb : w.heap[b]? = some (.cells (xs.map (Value.int k) ++ r).toArray T fz)) : Wd w T k (some ⟨b, 0, none⟩) xs := by
  refine .inr ⟨b, 0, _, fz, rfl, hb, fun i x hi => ?_⟩
  obtain ⟨hl, hv⟩ := List.getElem?_eq_some_iff.1 hi
  simp [List.getElem?_append_left, hl, hv]
theorem addr_add {g off i : Nat} : (⟨g, off, none⟩ : Addr).add (i * 1) = ⟨g, off + i, none⟩ := by unfold Addr.add; split <;> simp_all
section
variable {P : Program} {n : Nat} {fr : Fr} {w : World} {ty : TypeId}
theorem dv_loadW {t : TypeId} {x : Operand} {b T i : Nat} {k : IntKind} {L : List Int} {fz : Nat × Nat} {v : Int} (ht : aggB P t = some false) (hx : EV n fr x (.pointer (some ⟨b, i, none⟩))) (hb : w.heap[b]? = some (.cells (L.map (Value.int k)).toArray T fz))
    (hi : i < L.length) (hv : L.getD i 0 = v) : DV P n (.load t x) ty fr w (.int k v) :=
  dv_load1 ht hx hb (by simp [hi, ← hv, List.getD_eq_getElem?_getD])
theorem oe_storeW {t : TypeId} {x y : Operand} {b T i : Nat} {k : IntKind} {L : List Int} {z : Int} {K : Value → World → Prop} (hs : sizeB P t = some 1) (hx : EV n fr x (.pointer (some ⟨b, i, none⟩))) (hy : EV n fr y (.int k z))
    (hb : w.heap[b]? = some (.cells (L.map (Value.int k)).toArray T)) (hi : i < L.length)
    (h : ∀ w', St b w w' → w'.heap[b]? = some (.cells ((L.set i z).map (Value.int k)).toArray T) → K undef w') : OE P n (.store t x y) ty fr w K := by
  have hl : stC (L.map (Value.int k)) i [.int k z] = some ((L.set i z).map (Value.int k)) := by
    clear h hb hy hx
    induction L generalizing i with
    | nil => simp at hi
    | cons c L ih =>
      cases i with
      | zero => simp [stC]
      | succ i => simp [stC, ih (by simpa using hi)]
  exact oe_store hx hy hs rfl rfl rfl hb hl h
end
def valB (B : Int) : List Int → Int
  | [] => 0
  | x :: xs => x + B * valB B xs
def okW (B : Int) (xs : List Int) : Prop := ∀ x ∈ xs, 0 ≤ x ∧ x < B
def canon (xs : List Int) : Prop := xs.getLast? ≠ some 0
def sg (neg : Bool) (v : Int) : Int := if neg then -v else v
def Num (m T : Nat) (k : IntKind) (w : World) (neg : Bool) (A : Option Addr) (l c : Nat) (z : Int) (s : Nat) : Prop :=
  ∃ xs : List Int, xs.length = l ∧ l ≤ c ∧ Wd w T k A xs ∧ okW (2 ^ m) xs ∧ canon xs ∧ (neg = true → l ≠ 0) ∧ z = sg neg (valB (2 ^ m) xs) ∧ z.natAbs < 2 ^ s
section
variable {m T : Nat} {k : IntKind} {w w' : World} {neg : Bool} {A : Option Addr} {l c : Nat} {z : Int} {s : Nat}
theorem Num.ext (h : Num m T k w neg A l c z s) (e : Ext w w') : Num m T k w' neg A l c z s := by
  obtain ⟨xs, h1, h2, h3, h4⟩ := h
  exact ⟨xs, h1, h2, h3.ext e, h4⟩
theorem Num.st {b T' : Nat} {cs' : Array Value} {fz' : Nat × Nat} (h : Num m T k w neg A l c z s) (e : St b w w') (hb : w.heap[b]? = some (.cells cs' T' fz')) (hT : T' ≠ T) : Num m T k w' neg A l c z s := by
  obtain ⟨xs, h1, h2, h3, h4⟩ := h
  exact ⟨xs, h1, h2, h3.st e hb hT, h4⟩
theorem Num.to {z' : Int} {s' : Nat} (h : Num m T k w neg A l c z s) (hz : z = z') (hs : s ≤ s') : Num m T k w neg A l c z' s' := by
  subst hz
  obtain ⟨xs, h1, h2, h3, h4, h5, h6, h7, h8⟩ := h
  exact ⟨xs, h1, h2, h3, h4, h5, h6, h7, Nat.lt_of_lt_of_le h8 (Nat.pow_le_pow_right (by decide) hs)⟩
theorem Num.zero {c : Nat} : Num m T k w false none 0 c 0 s :=
  ⟨[], rfl, Nat.zero_le _, .nil, fun x hx => (by cases hx), by simp [canon], by simp, by simp [sg, valB], by simp; exact Nat.pos_of_ne_zero (by simp)⟩
theorem Num.lt (h : Num m T k w neg A l c z s) : z.natAbs < 2 ^ s := by obtain ⟨xs, h1, h2, h3, h4, h5, h6, h7, h8⟩ := h; exact h8
theorem Num.cap (h : Num m T k w neg A l c z s) : l ≤ c := by obtain ⟨xs, h1, h2, _⟩ := h; exact h2
end
end Go.Proofs.YtmbpomcbdopgnaaDoor.Fw
set_option linter.unusedVariables false
namespace Go.Proofs.YtmbpomcbdopgnaaDoor.Fw
open Go Go.RowKit
theorem vt {q : Prop} [Decidable q] (h : q) : Value.bool true = Value.bool (decide q) := by rw [decide_eq_true h]
theorem vf {q : Prop} [Decidable q] (h : ¬ q) : Value.bool false = Value.bool (decide q) := by rw [decide_eq_false h]
theorem vb {p q : Prop} [Decidable p] [Decidable q] (h : p ↔ q) : Value.bool (decide p) = Value.bool (decide q) := by congr 1; exact decide_eq_decide.2 h
theorem vi {k : IntKind} {a b : Int} (h : a = b) : Value.int k a = Value.int k b := by rw [h]
theorem tu2 {a b a' b' : Value} (h1 : a = a') (h2 : b = b') : Value.tuple #[a, b] = Value.tuple #[a', b'] := by rw [h1, h2]
theorem wr_i64 {x : Int} (h0 : -9223372036854775808 ≤ x) (h1 : x ≤ 9223372036854775807) : IntKind.i64.wrap x = x := by rw [IntKind.wrap_i64]; omega
theorem wr_u64 (x : Int) : IntKind.u64.wrap x = x % 18446744073709551616 := by simp [IntKind.wrap, IntKind.signed, IntKind.bits]
theorem wr_u32 (x : Int) : IntKind.u32.wrap x = x % 4294967296 := by simp [IntKind.wrap, IntKind.signed, IntKind.bits]
theorem wr_u8 (x : Int) : IntKind.u8.wrap x = x % 256 := by simp [IntKind.wrap, IntKind.signed, IntKind.bits]
theorem wn_u64 {x : Int} (h0 : 0 ≤ x) (h1 : x < 18446744073709551616) : IntKind.u64.wrap x = x := by rw [wr_u64]; omega
theorem wn_u8 {x : Int} (h0 : 0 ≤ x) (h1 : x < 256) : IntKind.u8.wrap x = x := by rw [wr_u8]; omega
theorem shr_c {a m : Int} {n : Nat} (h0 : 0 ≤ a) (hm : (2 : Int) ^ n = m) : a.fdiv (2 ^ n) = a / m := by
  subst hm
  exact Int.fdiv_eq_ediv_of_nonneg a (Int.le_of_lt (Int.pow_pos (by decide)))
theorem shl_c {k : IntKind} {a m z : Int} {n : Nat} (hm : (2 : Int) ^ n = m) (hw : k.wrap (a * m) = z) : k.wrap (a * 2 ^ n) = z := by subst hm; exact hw
theorem or_add {k : IntKind} {a b : Int} {i : Nat} (hk : k.signed = false) (h0 : 0 ≤ a) (h1 : a < 2 ^ i) (hb0 : 0 ≤ b) (hb : b % 2 ^ i = 0) (hb1 : b < 2 ^ k.bits) (ha1 : a < 2 ^ k.bits) : bitV k .or a b = a + b ∧ bitV k .or b a = a + b := by
  obtain ⟨n, rfl⟩ := Int.eq_ofNat_of_zero_le h0
  obtain ⟨m, rfl⟩ := Int.eq_ofNat_of_zero_le hb0
  have hn : n < 2 ^ i := by have : ((2 ^ i : Nat) : Int) = 2 ^ i := by simp
                            omega
  have hm : m % 2 ^ i = 0 := by have : ((m % 2 ^ i : Nat) : Int) = (m : Int) % 2 ^ i := by simp
                                omega
  have hmk : m < 2 ^ k.bits := by have : ((2 ^ k.bits : Nat) : Int) = 2 ^ k.bits := by simp
                                  omega
  have hnk : n < 2 ^ k.bits := by have : ((2 ^ k.bits : Nat) : Int) = 2 ^ k.bits := by simp
                                  omega
  have e : m = 2 ^ i * (m / 2 ^ i) := by have := Nat.div_add_mod m (2 ^ i); omega
  have hor : m ||| n = m + n := by rw [e, ← Nat.two_pow_add_eq_or_of_lt hn]
  have hlt : m + n < 2 ^ k.bits := by rw [← hor]; exact Nat.or_lt_two_pow hmk hnk
  have hw : k.wrap ((m + n : Nat) : Int) = (m : Int) + n := by
    cases k <;> simp [IntKind.signed] at hk <;> simp [IntKind.bits] at hlt <;> simp [IntKind.wrap, IntKind.signed, IntKind.bits] <;> omega
  have hl : ∀ x y : Nat, x < 2 ^ k.bits → y < 2 ^ k.bits → bitV k .or (x : Int) (y : Int) = k.wrap ((x ||| y : Nat) : Int) := fun x y hx hy => by
    simp only [bitV, BitVec.ofInt_natCast, BitVec.toNat_or, BitVec.toNat_ofNat, Nat.mod_eq_of_lt hx, Nat.mod_eq_of_lt hy]
  refine ⟨?_, ?_⟩
  · rw [hl n m hnk hmk, Nat.or_comm, hor, hw]; omega
  · rw [hl m n hmk hnk, hor, hw]; omega
theorem mul_bd {a b A B : Int} (h1 : -A ≤ a) (h2 : a ≤ A) (h3 : -B ≤ b) (h4 : b ≤ B) : -(A * B) ≤ a * b ∧ a * b ≤ A * B := by
  have hA : 0 ≤ A := by omega
  have hB : 0 ≤ B := by omega
  have e : (a * b).natAbs ≤ (A * B).natAbs := by
    rw [Int.natAbs_mul, Int.natAbs_mul]
    exact Nat.mul_le_mul (by omega) (by omega)
  have hAB : 0 ≤ A * B := Int.mul_nonneg hA hB
  omega
end Go.Proofs.YtmbpomcbdopgnaaDoor.Fw
set_option linter.unusedVariables false
set_option linter.unusedSimpArgs false
namespace Go.Proofs.YtmbpomcbdopgnaaDoor.Fw
section
variable {B : Int}
theorem okW.tail {x : Int} {xs : List Int} (h : okW B (x :: xs)) : okW B xs := fun y hy => h y (List.mem_cons_of_mem _ hy)
theorem okW.head {x : Int} {xs : List Int} (h : okW B (x :: xs)) : 0 ≤ x ∧ x < B := h x (by simp)
theorem okW.nil : okW B [] := fun x hx => by cases hx
theorem okW.cons {x : Int} {xs : List Int} (h0 : 0 ≤ x) (h1 : x < B) (h : okW B xs) : okW B (x :: xs) := by
  intro y hy
  rcases List.mem_cons.1 hy with rfl | hy
  · exact ⟨h0, h1⟩
  · exact h y hy
theorem okW.append {xs ys : List Int} (h : okW B xs) (h2 : okW B ys) : okW B (xs ++ ys) := by
  intro y hy
  rcases List.mem_append.1 hy with hy | hy
  · exact h y hy
  · exact h2 y hy
theorem okW.take {xs : List Int} (h : okW B xs) (n : Nat) : okW B (xs.take n) := fun y hy => h y (List.mem_of_mem_take hy)
theorem okW.drop {xs : List Int} (h : okW B xs) (n : Nat) : okW B (xs.drop n) := fun y hy => h y (List.mem_of_mem_drop hy)
theorem okW.getD {xs : List Int} (h : okW B xs) (hB : 0 < B) (i : Nat) : 0 ≤ xs.getD i 0 ∧ xs.getD i 0 < B := by
  by_cases hi : i < xs.length
  · have := h xs[i] (List.getElem_mem hi)
    simpa [List.getD_eq_getElem?_getD, hi] using this
  · simp [List.getD_eq_getElem?_getD, List.getElem?_eq_none (by omega : xs.length ≤ i), hB]
theorem okW.set {xs : List Int} (h : okW B xs) {z : Int} (h0 : 0 ≤ z) (h1 : z < B) (i : Nat) : okW B (xs.set i z) := by
  intro y hy
  rcases List.mem_or_eq_of_mem_set hy with hy | hy
  · exact h y hy
  · subst hy; exact ⟨h0, h1⟩
theorem okW.replicate (hB : 0 < B) (n : Nat) : okW B (List.replicate n 0) := by
  intro y hy; rw [List.eq_of_mem_replicate hy]; exact ⟨Int.le_refl _, hB⟩
theorem valB_nonneg (hB : 0 ≤ B) : ∀ {xs : List Int}, okW B xs → 0 ≤ valB B xs
  | [], _ => Int.le_refl _
  | x :: xs, h => by
    have := valB_nonneg hB h.tail
    have h1 := h.head
    simp only [valB]
    have := Int.mul_nonneg hB this
    omega
theorem valB_lt (hB : 0 ≤ B) : ∀ {xs : List Int}, okW B xs → valB B xs < B ^ xs.length
  | [], _ => by simp [valB]
  | x :: xs, h => by
    have ih := valB_lt hB h.tail
    have h1 := h.head
    simp only [valB, List.length_cons, Int.pow_succ]
    have h2 : B * (valB B xs + 1) ≤ B * B ^ xs.length := Int.mul_le_mul_of_nonneg_left (by omega) hB
    rw [Int.mul_add, Int.mul_one] at h2
    rw [Int.mul_comm (B ^ xs.length) B]
    omega
theorem valB_append (xs ys : List Int) : valB B (xs ++ ys) = valB B xs + B ^ xs.length * valB B ys := by
  induction xs with
  | nil => simp [valB]
  | cons x xs ih => simp only [List.cons_append, valB, ih, List.length_cons, Int.pow_succ]; grind
theorem valB_snoc (xs : List Int) (y : Int) : valB B (xs ++ [y]) = valB B xs + B ^ xs.length * y := by
  rw [valB_append]; simp [valB]
theorem take_snoc (xs : List Int) (i : Nat) (h : i < xs.length) : xs.take (i + 1) = xs.take i ++ [xs.getD i 0] := by
  rw [List.take_succ_eq_append_getElem h]; simp [List.getD_eq_getElem?_getD, h]
theorem valB_take_succ (xs : List Int) (i : Nat) (h : i < xs.length) : valB B (xs.take (i + 1)) = valB B (xs.take i) + B ^ i * xs.getD i 0 := by
  rw [take_snoc xs i h, valB_snoc, List.length_take, Nat.min_eq_left (by omega)]
theorem valB_take_ge (xs : List Int) (i : Nat) (h : xs.length ≤ i) : valB B (xs.take i) = valB B xs := by rw [List.take_of_length_le h]
theorem valB_take_succ' (xs : List Int) (i : Nat) : valB B (xs.take (i + 1)) = valB B (xs.take i) + B ^ i * xs.getD i 0 := by
  by_cases h : i < xs.length
  · exact valB_take_succ xs i h
  · rw [List.take_of_length_le (by omega), List.take_of_length_le (by omega), List.getD_eq_getElem?_getD, List.getElem?_eq_none (by omega)]; simp
theorem valB_split (xs : List Int) (i : Nat) : valB B xs = valB B (xs.take i) + B ^ (min i xs.length) * valB B (xs.drop i) := by
  conv => lhs; rw [← List.take_append_drop i xs, valB_append, List.length_take]
theorem valB_zeros (n : Nat) : valB B (List.replicate n 0) = 0 := by
  induction n with
  | zero => rfl
  | succ n ih => simp [List.replicate_succ, valB, ih]
theorem getD_set_neQ (xs : List Int) (i j : Nat) (z : Int) (h : i ≠ j) : (xs.set i z).getD j 0 = xs.getD j 0 := by simp [List.getD_eq_getElem?_getD, h]
theorem valB_set (xs : List Int) (i : Nat) (z : Int) (h : i < xs.length) : valB B (xs.set i z) = valB B xs + B ^ i * (z - xs.getD i 0) := by
  induction xs generalizing i with
  | nil => simp at h
  | cons x xs ih =>
    cases i with
    | zero => simp [valB]; omega
    | succ i =>
      have := ih i (by simpa using h)
      simp only [List.set_cons_succ, valB, this, Int.pow_succ, List.getD_cons_succ]
      grind
def trimL (xs : List Int) : List Int := (xs.reverse.dropWhile (· == 0)).reverse
theorem trimL_snoc_zero (xs : List Int) : trimL (xs ++ [0]) = trimL xs := by simp [trimL]
theorem trimL_snoc (xs : List Int) {x : Int} (h : x ≠ 0) : trimL (xs ++ [x]) = xs ++ [x] := by simp [trimL, h]
theorem list_snoc (xs : List Int) (h : 0 < xs.length) : xs = xs.take (xs.length - 1) ++ [xs.getD (xs.length - 1) 0] := by
  have := take_snoc xs (xs.length - 1) (by omega)
  rw [Nat.sub_add_cancel h] at this
  rw [← this, List.take_of_length_le (Nat.le_refl _)]
theorem trimL_spec (n : Nat) : ∀ xs : List Int, xs.length = n → trimL xs = xs.take (trimL xs).length ∧ (trimL xs).length ≤ xs.length ∧ canon (trimL xs) ∧ valB B (trimL xs) = valB B xs := by
  induction n with
  | zero =>
    intro xs h
    obtain rfl := List.eq_nil_of_length_eq_zero h
    simp [trimL, canon]
  | succ n ih =>
    intro xs h
    rw [list_snoc xs (by omega), show xs.length - 1 = n by omega]
    by_cases hz : xs.getD n 0 = 0
    · rw [hz, trimL_snoc_zero]
      obtain ⟨h1, h2, h3, h4⟩ := ih (xs.take n) (by simp; omega)
      refine ⟨?_, ?_, h3, ?_⟩
      · rw [List.take_append_of_le_length h2]; exact h1
      · simp at h2 ⊢; omega
      · rw [h4, valB_snoc]; simp
    · rw [trimL_snoc _ hz]
      refine ⟨by rw [List.take_of_length_le (Nat.le_refl _)], Nat.le_refl _, ?_, rfl⟩
      simpa [canon, List.getD_eq_getElem?_getD] using hz
theorem trimL_take (xs : List Int) : trimL xs = xs.take (trimL xs).length := (trimL_spec (B := 0) _ xs rfl).1
theorem trimL_len (xs : List Int) : (trimL xs).length ≤ xs.length := (trimL_spec (B := 0) _ xs rfl).2.1
theorem trimL_canon (xs : List Int) : canon (trimL xs) := (trimL_spec (B := 0) _ xs rfl).2.2.1
theorem trimL_val (xs : List Int) : valB B (trimL xs) = valB B xs := (trimL_spec _ xs rfl).2.2.2
theorem trimL_ok {xs : List Int} (h : okW B xs) : okW B (trimL xs) := by rw [trimL_take]; exact h.take _
theorem canon_ge (hB : 0 < B) {xs : List Int} (h : okW B xs) (hc : canon xs) (hn : 0 < xs.length) : B ^ (xs.length - 1) ≤ valB B xs := by
  have e := list_snoc xs hn
  have hx : xs.getD (xs.length - 1) 0 ≠ 0 := by
    intro h0
    apply hc
    rw [List.getLast?_eq_getElem?]
    have hl : xs.length - 1 < xs.length := by omega
    simp only [List.getD_eq_getElem?_getD, List.getElem?_eq_getElem hl, Option.getD_some] at h0
    rw [List.getElem?_eq_getElem hl, h0]
  have h1 := h.getD hB (xs.length - 1)
  have h2 := valB_nonneg (Int.le_of_lt hB) (h.take (xs.length - 1))
  rw [e, valB_snoc]
  have hl : (xs.take (xs.length - 1)).length = xs.length - 1 := by simp
  have h3 : B ^ (xs.length - 1) * 1 ≤ B ^ (xs.length - 1) * xs.getD (xs.length - 1) 0 := Int.mul_le_mul_of_nonneg_left (by omega) (Int.le_of_lt (Int.pow_pos hB))
  rw [hl]
  have e2 : (xs.take (xs.length - 1) ++ [xs.getD (xs.length - 1) 0]).length = xs.length := by simp; omega
  rw [e2]
  omega
theorem canon_pos (hB : 0 < B) {xs : List Int} (h : okW B xs) (hc : canon xs) : 0 < xs.length ↔ 0 < valB B xs := by
  constructor
  · intro hn
    have := canon_ge hB h hc hn
    have : 0 < B ^ (xs.length - 1) := Int.pow_pos hB
    omega
  · intro hv
    cases xs with
    | nil => simp [valB] at hv
    | cons x xs => simp
theorem pow_le_of {m n : Nat} (hB : 1 ≤ B) (h : m ≤ n) : B ^ m ≤ B ^ n := by
  obtain ⟨d, rfl⟩ := Nat.le.dest h
  rw [Int.pow_add]
  have h1 : (1 : Int) ≤ B ^ d := Int.pow_pos (by omega)
  have h2 : (0 : Int) ≤ B ^ m := Int.le_of_lt (Int.pow_pos (by omega))
  have := Int.mul_le_mul_of_nonneg_left h1 h2
  omega
theorem lt_of_len (hB : 1 ≤ B) {xs ys : List Int} (hx : okW B xs) (hy : okW B ys) (hcy : canon ys) (h : xs.length < ys.length) : valB B xs < valB B ys := by
  have h1 := valB_lt (by omega) hx
  have h2 := canon_ge (by omega) hy hcy (by omega)
  have h3 := pow_le_of hB (show xs.length ≤ ys.length - 1 by omega)
  omega
theorem lt_of_word (hB : 0 < B) {xs ys : List Int} (hx : okW B xs) (hy : okW B ys) (i : Nat) (hlx : i < xs.length) (hly : i < ys.length) (hd : valB B (xs.drop (i + 1)) = valB B (ys.drop (i + 1))) (hw : xs.getD i 0 < ys.getD i 0) :
    valB B xs < valB B ys := by
  have e1 := valB_split (B := B) xs (i + 1)
  have e2 := valB_split (B := B) ys (i + 1)
  rw [Nat.min_eq_left (by omega)] at e1 e2
  rw [valB_take_succ xs i hlx] at e1
  rw [valB_take_succ ys i hly] at e2
  have b1 := valB_lt (Int.le_of_lt hB) (hx.take i)
  rw [List.length_take, Nat.min_eq_left (by omega)] at b1
  have b2 := valB_nonneg (Int.le_of_lt hB) (hy.take i)
  have h3 : B ^ i * (xs.getD i 0 + 1) ≤ B ^ i * ys.getD i 0 := Int.mul_le_mul_of_nonneg_left (by omega) (Int.le_of_lt (Int.pow_pos hB))
  rw [Int.mul_add, Int.mul_one] at h3
  rw [e1, e2, hd]
  omega
end
end Go.Proofs.YtmbpomcbdopgnaaDoor.Fw
set_option linter.unusedVariables false
namespace Go.Proofs.YtmbpomcbdopgnaaDoor.Fw
open Go Go.RowKit
section
variable {P : Program} {n : Nat} {fr : Fr} {w : World} {ty : TypeId}
theorem dv_indexW {t e : TypeId} {x y : Operand} {g o l c i : Nat} {k : IntKind} {j : Int} (ht : P.underlying t = some (.slice e)) (hs : sizeB P e = some 1)
    (hx : EV n fr x (.slice (some ⟨g, o, none⟩) l c)) (hy : EV n fr y (.int k j)) (hj : j = (i : Nat)) (hl : i < l) : DV P n (.indexAddr t x y) ty fr w (.pointer (some ⟨g, o + i, none⟩)) :=
  dv_indexAddr ht hs hx hy (by omega) (by omega) (by subst hj; exact addr_add)
theorem dv_indexO {t e : TypeId} {x y : Operand} {g l c i : Nat} {k : IntKind} {j : Int} (ht : P.underlying t = some (.slice e)) (hs : sizeB P e = some 1)
    (hx : EV n fr x (.slice (some ⟨g, 0, none⟩) l c)) (hy : EV n fr y (.int k j)) (hj : j = (i : Nat)) (hl : i < l) : DV P n (.indexAddr t x y) ty fr w (.pointer (some ⟨g, i, none⟩)) :=
  dv_indexAddr ht hs hx hy (by omega) (by omega) (by subst hj; rw [show ((i : Nat) : Int).toNat = i from rfl, addr_add, Nat.zero_add])
theorem dv_sliceH {t e : TypeId} {x h : Operand} {ad : Option Addr} {l c sz i : Nat} {k : IntKind} {j : Int} (ht : P.underlying t = some (.slice e)) (hs : sizeB P e = some sz)
    (hx : EV n fr x (.slice ad l c)) (hh : EV n fr h (.int k j)) (hj : j = (i : Nat)) (h1 : i ≤ c) : DV P n (.slice t x none (some h) none) ty fr w (.slice ad i c) := by
  subst hj
  exact dv_slice_h ht hs hx hh (by omega) (by omega)
theorem oe_makeW {t e : TypeId} {x y : Operand} {kl kc k : IntKind} {l bytes : Nat} {j : Int} {K : Value → World → Prop} (ht : P.underlying t = some (.slice e))
    (hi : (P.info? e).map (fun i => (i.zero, i.size, i.bytes)) = some (some (.int k 0), 1, bytes)) (hx : EV n fr x (.int kl j)) (hy : EV n fr y (.int kc j)) (hj : j = (l : Nat)) (hb : bytes * l ≤ 281474976710656) (hl : l ≤ 281474976710656)
    (h : ∀ b w', New w b (.cells ((List.replicate l (0 : Int)).map (Value.int k)).toArray e) w' → K (.slice (some ⟨b, 0, none⟩) l l) w') : OE P n (.makeSlice t x y) ty fr w K := by
  subst hj
  refine oe_makeSlice ht hi rfl hx hy hb hl fun b w' hn => h b w' ?_
  rw [List.map_replicate]
  exact hn
end
theorem Wd.ownW {w : World} {T : Nat} {k : IntKind} {b : Nat} {xs : List Int} {fz : Nat × Nat} (hb : w.heap[b]? = some (.cells (xs.map (Value.int k)).toArray T fz)) : Wd w T k (some ⟨b, 0, none⟩) xs :=
  Wd.own (r := []) (by simpa using hb)
theorem Wd.trim {w : World} {T : Nat} {k : IntKind} {A : Option Addr} {xs : List Int} (h : Wd w T k A xs) : Wd w T k A (trimL xs) := by rw [trimL_take]; exact h.take _
def Wc (m T : Nat) (k : IntKind) (w : World) (A : Option Addr) (l c : Nat) (x : Int) : Prop :=
  ∃ xs : List Int, xs.length = l ∧ l ≤ c ∧ Wd w T k A xs ∧ okW (2 ^ m) xs ∧ canon xs ∧ x = valB (2 ^ m) xs
def Ws (m T : Nat) (k : IntKind) (w : World) (A : Option Addr) (l c : Nat) (x : Int) : Prop :=
  ∃ xs : List Int, xs.length = l ∧ l ≤ c ∧ Wd w T k A xs ∧ okW (2 ^ m) xs ∧ x = valB (2 ^ m) xs
section
variable {m T : Nat} {k : IntKind} {w w' : World} {neg : Bool} {A : Option Addr} {l c : Nat} {z x : Int} {s : Nat}
theorem Wc.ws (h : Wc m T k w A l c x) : Ws m T k w A l c x := by obtain ⟨xs, h1, h2, h3, h4, h5, h6⟩ := h; exact ⟨xs, h1, h2, h3, h4, h6⟩
theorem Wc.ext (h : Wc m T k w A l c x) (e : Ext w w') : Wc m T k w' A l c x := by obtain ⟨xs, h1, h2, h3, h4⟩ := h; exact ⟨xs, h1, h2, h3.ext e, h4⟩
theorem Ws.ext (h : Ws m T k w A l c x) (e : Ext w w') : Ws m T k w' A l c x := by obtain ⟨xs, h1, h2, h3, h4⟩ := h; exact ⟨xs, h1, h2, h3.ext e, h4⟩
theorem Wc.st {b T' : Nat} {cs' : Array Value} {fz' : Nat × Nat} (h : Wc m T k w A l c x) (e : St b w w') (hb : w.heap[b]? = some (.cells cs' T' fz')) (hT : T' ≠ T) : Wc m T k w' A l c x := by
  obtain ⟨xs, h1, h2, h3, h4⟩ := h; exact ⟨xs, h1, h2, h3.st e hb hT, h4⟩
theorem Ws.st {b T' : Nat} {cs' : Array Value} {fz' : Nat × Nat} (h : Ws m T k w A l c x) (e : St b w w') (hb : w.heap[b]? = some (.cells cs' T' fz')) (hT : T' ≠ T) : Ws m T k w' A l c x := by
  obtain ⟨xs, h1, h2, h3, h4⟩ := h; exact ⟨xs, h1, h2, h3.st e hb hT, h4⟩
theorem two_pos (m : Nat) : (0 : Int) < 2 ^ m := Int.pow_pos (by decide)
theorem Ws.nonneg (h : Ws m T k w A l c x) : 0 ≤ x := by obtain ⟨xs, h1, h2, h3, h4, h5⟩ := h; rw [h5]; exact valB_nonneg (Int.le_of_lt (two_pos m)) h4
theorem Wc.nonneg (h : Wc m T k w A l c x) : 0 ≤ x := h.ws.nonneg
theorem Wc.cap (h : Wc m T k w A l c x) : l ≤ c := by obtain ⟨xs, h1, h2, _⟩ := h; exact h2
theorem Wc.pos (h : Wc m T k w A l c x) : 0 < l ↔ 0 < x := by
  obtain ⟨xs, h1, h2, h3, h4, h5, h6⟩ := h
  rw [← h1, h6]; exact canon_pos (two_pos m) h4 h5
theorem Wc.zero {c : Nat} : Wc m T k w none 0 c 0 := ⟨[], rfl, Nat.zero_le _, .nil, .nil, by simp [canon], rfl⟩
theorem Num.wc (h : Num m T k w neg A l c z s) : Wc m T k w A l c (z.natAbs : Int) := by
  obtain ⟨xs, h1, h2, h3, h4, h5, h6, h7, h8⟩ := h
  refine ⟨xs, h1, h2, h3, h4, h5, ?_⟩
  have := valB_nonneg (Int.le_of_lt (two_pos m)) h4
  rw [h7]
  cases neg <;> simp [sg] <;> omega
theorem Num.neg_iff (h : Num m T k w neg A l c z s) : neg = true ↔ z < 0 := by
  obtain ⟨xs, h1, h2, h3, h4, h5, h6, h7, h8⟩ := h
  have h9 := valB_nonneg (Int.le_of_lt (two_pos m)) h4
  have h10 := canon_pos (two_pos m) h4 h5
  rw [h7]
  cases neg
  · simp [sg]; exact h9
  · simp only [true_iff, sg, if_true]
    have := h6 rfl
    have := h10.1 (by omega)
    omega
theorem Num.neg_eq (h : Num m T k w neg A l c z s) : neg = decide (z < 0) := by
  have := h.neg_iff
  cases neg
  · exact (decide_eq_false (fun hz => by have := this.2 hz; cases this)).symm
  · exact (decide_eq_true (this.1 rfl)).symm
theorem Num.pos_iff (h : Num m T k w neg A l c z s) : 0 < l ↔ z ≠ 0 := by
  have := h.wc.pos
  omega
theorem Wc.num {neg' : Bool} (h : Wc m T k w A l c x) (hn : neg' = true → x ≠ 0) (hz : z = sg neg' x) (hs : x < 2 ^ s) : Num m T k w neg' A l c z s := by
  have hp := h.pos
  have h0 := h.nonneg
  obtain ⟨xs, h1, h2, h3, h4, h5, h6⟩ := h
  refine ⟨xs, h1, h2, h3, h4, h5, fun hh => ?_, by rw [hz, h6], ?_⟩
  · have := hn hh
    omega
  · have e : (z.natAbs : Int) = x := by rw [hz]; cases neg' <;> simp [sg] <;> omega
    have e2 : ((2 ^ s : Nat) : Int) = 2 ^ s := by simp
    omega
theorem Num.ltI (h : Num m T k w neg A l c z s) : (z.natAbs : Int) < 2 ^ s := by
  have := h.lt
  have e2 : ((2 ^ s : Nat) : Int) = 2 ^ s := by simp
  omega
theorem valB_sz {xs : List Int} {n : Nat} (h : okW (2 ^ m) xs) (hl : xs.length = n) : valB (2 ^ m) xs < 2 ^ (m * n) := by
  have := valB_lt (Int.le_of_lt (two_pos m)) h
  rw [hl, ← Int.pow_mul] at this
  exact this
theorem okW_lit {B : Int} {xs : List Int} (h : ∀ x ∈ xs, 0 ≤ x ∧ x < B) : okW B xs := h
theorem sz_add {x y : Int} {s t : Nat} (hx : x < 2 ^ s) (hy : y < 2 ^ t) : x + y < 2 ^ (max s t + 1) := by
  have h1 := pow_le_of (B := 2) (by decide) (Nat.le_max_left s t)
  have h2 := pow_le_of (B := 2) (by decide) (Nat.le_max_right s t)
  rw [Int.pow_succ]
  omega
theorem sg_add {na nb : Bool} {x y : Int} (ha : na = true ↔ x < 0) (hb : nb = true ↔ y < 0) (h : (na == nb) = true) : sg na ((x.natAbs : Int) + (y.natAbs : Int)) = x + y := by
  cases na <;> cases nb <;> simp at h ha hb <;> simp [sg] <;> omega
theorem sg_sub {na nb : Bool} {x y : Int} (ha : na = true ↔ x < 0) (hb : nb = true ↔ y < 0) (h : (na == nb) = false) : sg na ((x.natAbs : Int) - (y.natAbs : Int)) = x + y := by
  cases na <;> cases nb <;> simp at h ha hb <;> simp [sg] <;> omega
theorem sg_sub' {na nb : Bool} {x y : Int} (ha : na = true ↔ x < 0) (hb : nb = true ↔ y < 0) (h : (na == nb) = false) : sg nb ((y.natAbs : Int) - (x.natAbs : Int)) = x + y := by
  cases na <;> cases nb <;> simp at h ha hb <;> simp [sg] <;> omega
theorem sg_not {na : Bool} {x : Int} (ha : na = true ↔ x < 0) : sg (!na) (x.natAbs : Int) = -x := by
  cases na <;> simp at ha <;> simp [sg] <;> omega
theorem sg_mul {na nb : Bool} {x y : Int} (ha : na = true ↔ x < 0) (hb : nb = true ↔ y < 0) : sg (na != nb) ((x.natAbs : Int) * (y.natAbs : Int)) = x * y := by
  have ex : (x.natAbs : Int) = if na then -x else x := by cases na <;> simp at ha <;> simp <;> omega
  have ey : (y.natAbs : Int) = if nb then -y else y := by cases nb <;> simp at hb <;> simp <;> omega
  rw [ex, ey]
  cases na <;> cases nb <;> simp [sg, Int.mul_neg, Int.neg_mul]
theorem Wc.len (hm : 0 < m) (h : Wc m T k w A l c x) (hs : x < 2 ^ s) : m * l < s + m ∨ l = 0 := by
  obtain ⟨xs, h1, h2, h3, h4, h5, h6⟩ := h
  by_cases hl : l = 0
  · exact .inr hl
  · refine .inl ?_
    have hg := canon_ge (two_pos m) h4 h5 (by omega)
    rw [← h6, h1, ← Int.pow_mul] at hg
    have hlt : (2 : Int) ^ (m * (l - 1)) < 2 ^ s := by omega
    have : m * (l - 1) < s := by
      rcases Nat.lt_or_ge (m * (l - 1)) s with h | h
      · exact h
      · have := pow_le_of (B := 2) (by decide) h
        omega
    rw [Nat.mul_sub, Nat.mul_one] at this
    have : m ≤ m * l := Nat.le_mul_of_pos_right m (by omega)
    omega
theorem Num.len (hm : 0 < m) (h : Num m T k w neg A l c z s) : m * l < s + m ∨ l = 0 := by
  refine h.wc.len hm ?_
  have := h.lt
  have e2 : ((2 ^ s : Nat) : Int) = 2 ^ s := by simp
  omega
end
end Go.Proofs.YtmbpomcbdopgnaaDoor.Fw
set_option linter.unusedVariables false
set_option linter.unusedSimpArgs false
namespace Go.Proofs.YtmbpomcbdopgnaaDoor.Fw
section
variable {B : Int}
theorem getD_take (xs : List Int) (n i : Nat) (h : i < n) : (xs.take n).getD i 0 = xs.getD i 0 := by
  simp [List.getD_eq_getElem?_getD, List.getElem?_take, h]
theorem trim_less (xs : List Int) (n : Nat) (h0 : 0 < n) (hn : n ≤ xs.length) (h : (xs.take n).getD (n - 1) 0 = 0) : trimL (xs.take (n - 1)) = trimL (xs.take n) := by
  rw [getD_take xs n (n - 1) (by omega)] at h
  obtain ⟨m, rfl⟩ : ∃ m, n = m + 1 := ⟨n - 1, by omega⟩
  rw [take_snoc xs m (by omega)]
  simp only [Nat.add_sub_cancel] at h ⊢
  rw [h, trimL_snoc_zero]
theorem trim_done (xs : List Int) (n : Nat) (hn : n ≤ xs.length) (ht : trimL (xs.take n) = trimL xs) (h : n = 0 ∨ (xs.take n).getD (n - 1) 0 ≠ 0) : (trimL xs).length = n := by
  rw [← ht]
  by_cases h0 : n = 0
  · subst h0; simp [trimL]
  · have h := h.resolve_left h0
    rw [getD_take xs n (n - 1) (by omega)] at h
    obtain ⟨m, rfl⟩ : ∃ m, n = m + 1 := ⟨n - 1, by omega⟩
    simp only [Nat.add_sub_cancel] at h
    rw [take_snoc xs m (by omega), trimL_snoc _ h]
    simp; omega
theorem getD_ge (xs : List Int) (i : Nat) (h : xs.length ≤ i) : xs.getD i 0 = 0 := by simp [List.getD_eq_getElem?_getD, List.getElem?_eq_none h]
theorem drop_step (xs ys : List Int) (n : Nat) (h0 : 0 < n) (hx : n ≤ xs.length) (hy : n ≤ ys.length) (h : xs.drop n = ys.drop n) (he : xs.getD (n - 1) 0 = ys.getD (n - 1) 0) : xs.drop (n - 1) = ys.drop (n - 1) := by
  rw [List.drop_eq_getElem_cons (by omega : n - 1 < xs.length), List.drop_eq_getElem_cons (by omega : n - 1 < ys.length)]
  simp only [List.getD_eq_getElem?_getD, List.getElem?_eq_getElem (by omega : n - 1 < xs.length), List.getElem?_eq_getElem (by omega : n - 1 < ys.length), Option.getD_some] at he
  rw [he, Nat.sub_add_cancel (by omega), h]
theorem cmp_word (hB : 0 < B) {xs ys : List Int} (hx : okW B xs) (hy : okW B ys) (n : Nat) (h0 : 0 < n) (hlx : n ≤ xs.length) (hly : n ≤ ys.length) (h : xs.drop n = ys.drop n) (hw : xs.getD (n - 1) 0 < ys.getD (n - 1) 0) : valB B xs < valB B ys :=
  lt_of_word hB hx hy (n - 1) (by omega) (by omega) (by rw [Nat.sub_add_cancel (by omega), h]) hw
end
end Go.Proofs.YtmbpomcbdopgnaaDoor.Fw
set_option linter.unusedVariables false
set_option linter.unusedSimpArgs false
namespace Go.Proofs.YtmbpomcbdopgnaaDoor.Fw
open Go Go.RowKit
def cmpR (r x y : Int) : Prop := (r < 0 ↔ x < y) ∧ (r = 0 ↔ x = y)
theorem cmpR.ge {r x y : Int} (h : cmpR r x y) : 0 ≤ r ↔ y ≤ x := by unfold cmpR at h; omega
theorem cmpR.eq {r x y : Int} (h : cmpR r x y) : r = 0 ↔ x = y := h.2
theorem sz_sub {x y : Int} {s : Nat} (hx : x < 2 ^ s) (h : 0 ≤ y) : x - y < 2 ^ s := by omega
def sgnI (n : Int) : Int := if n < 0 then -1 else if 0 < n then 1 else 0
theorem cmp_same {B : Int} {xs ys : List Int} (h : xs = ys) : cmpR 0 (valB B xs) (valB B ys) := by subst h; exact ⟨by simp, by simp⟩
end Go.Proofs.YtmbpomcbdopgnaaDoor.Fw
set_option linter.unusedVariables false
set_option linter.unusedSimpArgs false
namespace Go.Proofs.YtmbpomcbdopgnaaDoor.Fw
open Go Go.RowKit
def Ow (w : World) (base T : Nat) (k : IntKind) (A : Option Addr) (c : Nat) (L : List Int) : Prop := w.ownsRow base T 1 (.slice A L.length c) L.length (L.map (Value.int k)) ∧ base ≤ w.heap.size
theorem own_keep {w w' : World} {base T n : Nat} {v : Value} {xs : List Value} (h : w.ownsRow base T 1 v n xs) (hk : ∀ g o, w.heap[g]? = some o → base ≤ g → (∃ cs fz, o = .cells cs T fz) → w'.heap[g]? = some o) : w'.ownsRow base T 1 v n xs := by
  refine ⟨h.1, ?_⟩
  rcases h.2 with h | ⟨g, cap, cur, hv, hb, hg, r⟩
  · exact .inl h
  · exact .inr ⟨g, cap, cur, hv, hb, hk g _ hg hb ⟨_, _, rfl⟩, r⟩
theorem Ow.ext {w w' : World} {base T c : Nat} {k : IntKind} {A : Option Addr} {L : List Int} (h : Ow w base T k A c L) (e : Ext w w') : Ow w' base T k A c L := ⟨own_keep h.1 fun g o hg _ _ => e.blk hg, Nat.le_trans h.2 e.size⟩
theorem Ow.st {w w' : World} {base T T' b c : Nat} {k : IntKind} {A : Option Addr} {L : List Int} {cs' : Array Value} {fz' : Nat × Nat} (h : Ow w base T k A c L) (e : St b w w') (hb : w.heap[b]? = some (.cells cs' T' fz')) (hT : T' ≠ T) : Ow w' base T k A c L :=
  ⟨own_keep h.1 fun g o hg _ ⟨cs, fz, ho⟩ => e.blk hg (fun he => by
    subst he; subst ho
    rw [hg] at hb
    injection hb with hb
    injection hb with _ hb _
    exact hT hb.symm), by rw [e.size]; exact h.2⟩
theorem Ow.wd {w : World} {base T c : Nat} {k : IntKind} {A : Option Addr} {L : List Int} (h : Ow w base T k A c L) : Wd w T k A L := by
  rcases h.1.2 with ⟨hv, hn⟩ | ⟨g, cap, cur, hv, hb, hg, h1, h2, h3, h4⟩
  · injection hv with hA _ _
    exact .inl ⟨List.eq_nil_of_length_eq_zero hn, hA⟩
  · injection hv with hA _ hc
    refine .inr ⟨g, 0, cur, _, hA, hg, fun i x hi => ?_⟩
    have hl := (List.getElem?_eq_some_iff.1 hi).1
    have h5 : (cur.toList.take (L.length * 1))[i]? = (L.map (Value.int k))[i]? := by rw [h4]
    rw [List.getElem?_take_of_lt (by omega), List.getElem?_map, hi] at h5
    simpa using h5
theorem Ow.cap {w : World} {base T c : Nat} {k : IntKind} {A : Option Addr} {L : List Int} (h : Ow w base T k A c L) : L.length ≤ c := by
  rcases h.1.2 with ⟨hv, hn⟩ | ⟨g, cap, cur, hv, hb, hg, h1, h2, h3, h4⟩
  · omega
  · injection hv with _ _ hc
    omega
theorem Ow.ge {w : World} {base T c : Nat} {k : IntKind} {A : Option Addr} {L : List Int} (h : Ow w base T k A c L) {g o : Nat} (hA : A = some ⟨g, o, none⟩) : base ≤ g := by
  subst hA
  rcases h.1.2 with ⟨hv, hn⟩ | ⟨g', cap, cur, hv, hb, hg, h1, h2, h3, h4⟩
  · injection hv with hA _ _
    cases hA
  · injection hv with hA _ hc
    injection hA with hA
    injection hA with h5 h6 h7
    subst h5
    exact hb
theorem Ow.made {w w' : World} {b T c : Nat} {k : IntKind} {z : Value} (h : New w b (.cells (List.replicate c z).toArray T) w') (hc : c ≤ 281474976710656) : Ow w' b T k (some ⟨b, 0, none⟩) c [] :=
  ⟨⟨by simp, .inr ⟨b, c, _, rfl, Nat.le_refl _, h.blk, Nat.zero_le _, by simp only [maxLen]; omega, by simp, by simp⟩⟩, Nat.le_of_lt (lt_of_blk h.blk)⟩
theorem Ow.full {w w' : World} {b T : Nat} {k : IntKind} {L : List Int} (h : w'.heap[b]? = some (.cells (L.map (Value.int k)).toArray T)) (hc : L.length ≤ 281474976710656) : Ow w' b T k (some ⟨b, 0, none⟩) L.length L :=
  ⟨⟨by simp, .inr ⟨b, L.length, _, rfl, Nat.le_refl _, h, Nat.le_refl _, by simp only [maxLen]; omega, by simp, by simp [List.take_of_length_le]⟩⟩, Nat.le_of_lt (lt_of_blk h)⟩
theorem below_of_grown {w w' : World} {base : Nat} {row : Option Nat} (h : w.grownBy w' row) (hb : base ≤ w.heap.size) (hr : ∀ g, row = some g → base ≤ g) : Below base w w' :=
  ⟨h.os, h.tape, h.output, h.size, fun k hk => h.block k (by omega) (fun he => by have := hr k he.symm; omega)⟩
theorem own_row_ge {w : World} {base T n : Nat} {v : Value} {xs : List Value} (h : w.ownsRow base T 1 v n xs) : ∀ g, v.ownBlock = some g → base ≤ g := fun g hg => (h.lt g hg).1
theorem own_slice {w : World} {base T n : Nat} {v : Value} {xs : List Value} (h : w.ownsRow base T 1 v n xs) : ∃ A c, v = .slice A n c := by
  rcases h.2 with ⟨rfl, rfl⟩ | ⟨g, cap, cur, rfl, _⟩
  · exact ⟨_, _, rfl⟩
  · exact ⟨_, _, rfl⟩
theorem below_bl {N base : Nat} {w0 w w' : World} (h : Below N w0 w) (hN : N ≤ base) (e : Below base w w') : Below N w0 w' := h.trans (e.mono hN)
theorem bl_blk {base : Nat} {w w' : World} (e : Below base w w') {b : Nat} {o : Obj} (h : w.heap[b]? = some o) (hb : b < base) : w'.heap[b]? = some o := (e.block b hb).trans h
section
variable {P : Program} {n : Nat} {fr : Fr} {w : World} {ty : TypeId}
theorem oe_appendW {t e : TypeId} {x y : Operand} {k : IntKind} {A : Option Addr} {c base bytes g o c2 m : Nat} {L M : List Int} {K : Value → World → Prop} (ht : P.underlying t = some (.slice e))
    (hi : (P.info? e).map (fun i => (i.zero, i.size, i.bytes)) = some (some (.int k 0), 1, bytes)) (hx : EV n fr x (.slice A L.length c)) (hy : EV n fr y (.slice (some ⟨g, o, none⟩) m c2))
    (hO : Ow w base e k A c L) (hW : Wd w e k (some ⟨g, o, none⟩) M) (hm : M.length = m) (hb : (L.length + m) * bytes ≤ 140737488355328) (hl : L.length + m ≤ 140737488355328)
    (h : ∀ A' c' w', Ow w' base e k A' c' (L ++ M) → Below base w w' → K (.slice A' (L ++ M).length c') w') : OE P n (.call { callee := .builtin .append, args := #[x, y], argTypes := #[t, t] }) ty fr w K := by
  cases hin : P.info? e with
  | none => simp [hin] at hi
  | some inf =>
    simp only [hin, Option.map_some, Option.some.injEq, Prod.mk.injEq] at hi
    obtain ⟨h1, h2, h3⟩ := hi
    subst hm
    obtain ⟨v', w', hr, hown, hgr, _⟩ := run_append_own (P := P) w base t ty e inf (.int k 0) 1 bytes ht hin h1 h2 h3 rfl (by decide) (.slice A L.length c) L.length _ hO.1 ⟨g, o, none⟩ M.length c2 (M.map (Value.int k)) (by simp)
      (fun j u hj => by
        have hjl : j < M.length := by have := (List.getElem?_eq_some_iff.1 hj).1; simpa using this
        have ha : (⟨g, o, none⟩ : Addr).add j = ⟨g, o + j, none⟩ := by unfold Addr.add; split <;> simp_all
        rw [ha, hW.cell hjl]
        rw [List.getElem?_map, List.getElem?_eq_getElem hjl] at hj
        simp only [Option.map_some, Option.some.injEq] at hj
        rw [← hj]
        simp [List.getD_eq_getElem?_getD, hjl]) (ints_oneCell k M) (by simp only [maxLen]; omega) hb hO.2
    obtain ⟨A', c', rfl⟩ := own_slice hown
    have hO' : Ow w' base e k A' c' (L ++ M) := by
      unfold Ow
      rw [List.length_append, List.map_append]
      exact ⟨hown, Nat.le_trans hO.2 hgr.size⟩
    have hr' : (Builtin.append_ #[t, t] ty #[.slice A L.length c, .slice (some ⟨g, o, none⟩) M.length c2]).run P w = .ok (.slice A' (L ++ M).length c') w' := by rw [List.length_append]; exact hr
    refine OE.of_run (fun _ _ _ _ => ?_) (h A' c' w' hO' (below_of_grown hgr hO.2 (own_row_ge hO.1)))
    unfold EV at hx hy
    simp only [execOp, resolve, invoke, builtin, hx, hy, hr', List.map_toArray, List.map_cons, List.map_nil, Sem.run_bind, Sem.run_pure, Result.andThen_ok]
theorem stC_mid : ∀ (n : Nat) (cs vs : List Value), n + vs.length ≤ cs.length → stC cs n vs = some (cs.take n ++ vs ++ cs.drop (n + vs.length)) := by
  intro n
  induction n with
  | zero =>
    intro cs vs
    induction vs generalizing cs with
    | nil => intro _; simp [stC_nil]
    | cons v vs ih =>
      intro h
      cases cs with
      | nil => simp at h
      | cons c cs =>
        have := ih cs (by simpa using h)
        simp only [Nat.zero_add] at this ⊢
        simp [stC, this]
  | succ n ih =>
    intro cs vs h
    cases cs with
    | nil => simp at h
    | cons c cs =>
      cases vs with
      | nil => simp [stC]
      | cons v vs =>
        have := ih cs (v :: vs) (by simp at h ⊢; omega)
        simp only [stC, this, Option.map_some, List.take_succ_cons, List.cons_append]
        have e : n + 1 + (v :: vs).length = (n + (v :: vs).length) + 1 := by omega
        rw [e, List.drop_succ_cons]
theorem oe_makeCapW {t e : TypeId} {x y : Operand} {kl kc k : IntKind} {c bytes : Nat} {j : Int} {K : Value → World → Prop} (ht : P.underlying t = some (.slice e))
    (hi : (P.info? e).map (fun i => (i.zero, i.size, i.bytes)) = some (some (.int k 0), 1, bytes)) (hx : EV n fr x (.int kl 0)) (hy : EV n fr y (.int kc j)) (hj : j = (c : Nat)) (hb : bytes * c ≤ 281474976710656) (hl : c ≤ 281474976710656)
    (h : ∀ b w', New w b (.cells (List.replicate c (.int k 0)).toArray e) w' → Ow w' b e k (some ⟨b, 0, none⟩) c [] → K (.slice (some ⟨b, 0, none⟩) 0 c) w') : OE P n (.makeSlice t x y) ty fr w K := by
  subst hj
  exact oe_makeSlice_cap ht hi rfl hx hy hb hl fun b w' hn => h b w' hn (Ow.made hn hl)
def fieldB (P : Program) (s i : Nat) : Option (Nat × Nat) :=
  match P.underlying s with
  | some (.struct fs) => (fs[i]?).map fun f => (f.offset, f.type)
  | _ => none
theorem dv_field {s i off ft : Nat} {x : Operand} {cs : Array Value} {v : Value} (hf : fieldB P s i = some (off, ft)) (ha : aggB P ft = some false) (hx : EV n fr x (.agg cs)) (hc : cs[off]? = some v) : DV P n (.field s x i) ty fr w v := fun _ _ _ _ => by
  unfold EV at hx
  unfold fieldB at hf
  split at hf
  · rename_i fs hs
    simp only [Option.map_eq_some_iff, Prod.mk.injEq] at hf
    obtain ⟨f, hfl, rfl, rfl⟩ := hf
    simp [execOp, hx, Instr.field, underlying, hs, hfl, asAgg, part, run_isAgg ha, hc]
  · cases hf
end
theorem quo_c {k : IntKind} {a b z : Int} (h0 : 0 ≤ a) (hb : 0 ≤ b) (hw : k.wrap (a / b) = z) : k.wrap (a.tdiv b) = z := by rw [Int.tdiv_eq_ediv_of_nonneg h0]; exact hw
theorem rem_c {a b z : Int} (h0 : 0 ≤ a) (hw : a % b = z) : a.tmod b = z := by rw [Int.tmod_eq_emod_of_nonneg h0]; exact hw
end Go.Proofs.YtmbpomcbdopgnaaDoor.Fw
set_option linter.unusedVariables false
namespace Go.Proofs.YtmbpomcbdopgnaaDoor.Fw
open Go
theorem getD_take_or (xs : List Int) (n : Nat) : (n = 0 ∨ (xs.take n).getD (n - 1) 0 ≠ 0) = (n = 0 ∨ xs.getD (n - 1) 0 ≠ 0) := by
  by_cases h : n = 0
  · simp [h]
  · rw [getD_take xs n (n - 1) (by omega)]
theorem add_app {B : Int} {xs ys L : List Int} {i : Nat} {c c2 z : Int} (hl : L.length = i) (h : valB B L + c * B ^ i = valB B (xs.take i) + valB B (ys.take i)) (hz : z + B * c2 = xs.getD i 0 + ys.getD i 0 + c) :
    valB B (L ++ [z]) + c2 * B ^ (i + 1) = valB B (xs.take (i + 1)) + valB B (ys.take (i + 1)) := by
  rw [valB_snoc, hl, valB_take_succ', valB_take_succ', Int.pow_succ]
  have e : B ^ i * (z + B * c2) = B ^ i * (xs.getD i 0 + ys.getD i 0 + c) := by rw [hz]
  simp only [Int.mul_add] at e
  have e2 : c2 * (B ^ i * B) = B ^ i * (B * c2) := by rw [Int.mul_comm c2, Int.mul_assoc]
  have e3 : c * B ^ i = B ^ i * c := Int.mul_comm _ _
  omega
theorem sub_app {B : Int} {xs ys L : List Int} {i : Nat} {c c2 z : Int} (hl : L.length = i) (h : valB B L - c * B ^ i = valB B (xs.take i) - valB B (ys.take i)) (hz : z = xs.getD i 0 - ys.getD i 0 - c + B * c2) :
    valB B (L ++ [z]) - c2 * B ^ (i + 1) = valB B (xs.take (i + 1)) - valB B (ys.take (i + 1)) := by
  rw [valB_snoc, hl, valB_take_succ', valB_take_succ', Int.pow_succ]
  have e : B ^ i * z = B ^ i * (xs.getD i 0 - ys.getD i 0 - c + B * c2) := by rw [hz]
  simp only [Int.mul_add, Int.mul_sub] at e
  have e2 : c2 * (B ^ i * B) = B ^ i * (B * c2) := by rw [Int.mul_comm c2, Int.mul_assoc]
  have e3 : c * B ^ i = B ^ i * c := Int.mul_comm _ _
  omega
theorem okW.snoc {B : Int} {L : List Int} {z : Int} (h : okW B L) (h0 : 0 ≤ z) (h1 : z < B) : okW B (L ++ [z]) := h.append (okW.cons h0 h1 okW.nil)
theorem sub_app_fin {B : Int} {xs ys L : List Int} {i : Nat} {c : Int} (hB : 0 < B) (hl : L.length = i) (hi : xs.length ≤ i) (hy : ys.length ≤ xs.length) (hok : okW B L) (hc : 0 ≤ c ∧ c ≤ 1) (hle : valB B ys ≤ valB B xs) (h : valB B L - c * B ^ i = valB B (xs.take i) - valB B (ys.take i)) :
    valB B L = valB B xs - valB B ys := by
  rw [valB_take_ge xs i hi, valB_take_ge ys i (by omega)] at h
  have h1 := valB_lt (Int.le_of_lt hB) hok
  rw [hl] at h1
  have hc' : c = 0 ∨ c = 1 := by omega
  rcases hc' with rfl | rfl
  · omega
  · omega
theorem add_app_fin {B : Int} {xs ys L : List Int} {i : Nat} {c : Int} (hl : L.length = i) (hi : xs.length ≤ i) (hy : ys.length ≤ xs.length) (h : valB B L + c * B ^ i = valB B (xs.take i) + valB B (ys.take i)) :
    valB B (L ++ [c]) = valB B xs + valB B ys ∧ (c = 0 → valB B L = valB B xs + valB B ys) := by
  rw [valB_take_ge xs i hi, valB_take_ge ys i (by omega)] at h
  have e3 : c * B ^ i = B ^ i * c := Int.mul_comm _ _
  refine ⟨by rw [valB_snoc, hl]; omega, fun hc => ?_⟩
  subst hc
  omega
theorem lt64 {x : Int} (h : x < 18446744073709551616) : x < 2 ^ IntKind.u64.bits := by
  have e : (2 : Int) ^ IntKind.u64.bits = 18446744073709551616 := by decide
  omega
theorem Wc.eq {m T : Nat} {k : IntKind} {w : World} {A : Option Addr} {l c : Nat} {x y : Int} (h : Wc m T k w A l c x) (e : x = y) : Wc m T k w A l c y := e ▸ h
theorem Ws.eq {m T : Nat} {k : IntKind} {w : World} {A : Option Addr} {l c : Nat} {x y : Int} (h : Ws m T k w A l c x) (e : x = y) : Ws m T k w A l c y := e ▸ h
theorem Num.tight {m T : Nat} {k : IntKind} {w : World} {neg : Bool} {A : Option Addr} {l c : Nat} {z z' : Int} {s s' : Nat} (h : Num m T k w neg A l c z s) (hz : z = z') (hs : z'.natAbs < 2 ^ s') : Num m T k w neg A l c z' s' := by
  subst hz
  obtain ⟨xs, h1, h2, h3, h4, h5, h6, h7, h8⟩ := h
  exact ⟨xs, h1, h2, h3, h4, h5, h6, h7, hs⟩
theorem Ws.lo {m T : Nat} {k : IntKind} {w : World} {A : Option Addr} {l c s : Nat} {x : Int} (h : Ws m T k w A l c x) (hs : 2 ^ s ≤ x) : s < m * l := by
  obtain ⟨xs, rfl, hc, hw, ho, rfl⟩ := h
  have := valB_sz ho rfl
  rcases Nat.lt_or_ge s (m * xs.length) with h | h
  · exact h
  · have := pow_le_of (B := 2) (by decide) h
    omega
theorem Wc.lo {m T : Nat} {k : IntKind} {w : World} {A : Option Addr} {l c s : Nat} {x : Int} (h : Wc m T k w A l c x) (hs : 2 ^ s ≤ x) : s < m * l := h.ws.lo hs
end Go.Proofs.YtmbpomcbdopgnaaDoor.Fw
set_option linter.unusedVariables false
namespace Go.Proofs.YtmbpomcbdopgnaaDoor.Fw
open Go
def nbits (x : Nat) : Nat := if x = 0 then 0 else x.log2 + 1
theorem cmp_lt {x y : Int} (h : x < y) : cmpR (-1) x y := by unfold cmpR; omega
theorem cmp_gt {x y : Int} (h : y < x) : cmpR 1 x y := by unfold cmpR; omega
theorem cmpR.gt {r x y : Int} (h : cmpR r x y) : 0 < r ↔ y < x := by unfold cmpR at h; omega
theorem cmp_len32 {xs ys : List Int} (hx : okW (2 ^ 32) xs) (hy : okW (2 ^ 32) ys) (cx : canon xs) (cy : canon ys) (h : (xs.length : Int) ≠ ys.length) (h2 : xs.length < ys.length) : cmpR (-1) (valB (2 ^ 32) xs) (valB (2 ^ 32) ys) :=
  cmp_lt (lt_of_len (by decide) hx hy cy h2)
theorem cmp_len32' {xs ys : List Int} (hx : okW (2 ^ 32) xs) (hy : okW (2 ^ 32) ys) (cx : canon xs) (cy : canon ys) (h2 : ys.length < xs.length) : cmpR 1 (valB (2 ^ 32) xs) (valB (2 ^ 32) ys) :=
  cmp_gt (lt_of_len (by decide) hy hx cx h2)
theorem len_le32 {T : Nat} {k : IntKind} {w w' : World} {A D : Option Addr} {l c l' d : Nat} {x y : Int} (h : Wc 32 T k w A l c x) (h' : Wc 32 T k w' D l' d y) (hle : y ≤ x) : l' ≤ l := by
  obtain ⟨xs, rfl, hc, hw, ho, hk, rfl⟩ := h
  obtain ⟨ys, rfl, hc', hw', ho', hk', rfl⟩ := h'
  rcases Nat.lt_or_ge xs.length ys.length with h | h
  · have := lt_of_len (B := 2 ^ 32) (by decide) ho ho' hk' h
    omega
  · exact h
end Go.Proofs.YtmbpomcbdopgnaaDoor.Fw
set_option linter.unusedVariables false
set_option linter.unusedSimpArgs false
namespace Go.Proofs.YtmbpomcbdopgnaaDoor.Fw
open Go Go.RowKit
section
variable {P : Program} {n : Nat} {fr : Fr} {w : World} {ty : TypeId}
theorem Ow.off {w : World} {base T c g o : Nat} {k : IntKind} {L : List Int} (h : Ow w base T k (some ⟨g, o, none⟩) c L) : o = 0 ∧ base ≤ g := by
  rcases h.1.2 with ⟨hv, hn⟩ | ⟨g', cap, cur, hv, hb, hg, h1, h2, h3, h4⟩
  · injection hv with hA _ _
    cases hA
  · injection hv with hA _ hc
    injection hA with hA
    injection hA with h5 h6 h7
    subst h5
    exact ⟨h6, hb⟩
end
end Go.Proofs.YtmbpomcbdopgnaaDoor.Fw
set_option linter.unusedVariables false
namespace Go.Proofs.YtmbpomcbdopgnaaDoor.Fw
open Go
def fits (z : Int) : Prop := -57896044618658097711785492504343953926634992332820282019728792003956564819968 ≤ z ∧ z < 57896044618658097711785492504343953926634992332820282019728792003956564819968
instance (z : Int) : Decidable (fits z) := by unfold fits; infer_instance
def wv0 (z : Int) : Int := if fits z then z % 18446744073709551616 else 0
def wv1 (z : Int) : Int := if fits z then z / 18446744073709551616 % 18446744073709551616 else 0
def wv2 (z : Int) : Int := if fits z then z / 340282366920938463463374607431768211456 % 18446744073709551616 else 0
def wv3 (z : Int) : Int := if fits z then z / 6277101735386680763835789423207666416102355444464034512896 % 18446744073709551616 else 0
theorem int_32 {x u : Int} (h : -9223372036854775808 ≤ x ∧ x ≤ 9223372036854775807) (hu : u = (if x < 0 then -x else x)) : sg (decide (x < 0)) (valB (2 ^ 32) [u % 4294967296, u / 4294967296 % 4294967296]) = x := by
  have e : (2 : Int) ^ 32 = 4294967296 := by decide
  rw [e]
  simp only [sg, valB]
  by_cases hx : x < 0
  · rw [if_pos hx] at hu; simp [hx]; omega
  · rw [if_neg hx] at hu; simp [hx]; omega
end Go.Proofs.YtmbpomcbdopgnaaDoor.Fw
set_option linter.unusedVariables false
namespace Go.Proofs.YtmbpomcbdopgnaaDoor.Fw
open Go
theorem mul_pos_bd {a b A : Int} (h0 : 0 ≤ a) (h1 : a ≤ A) (h2 : 0 ≤ b) (h3 : b ≤ A) : 0 ≤ a * b ∧ a * b ≤ A * A :=
  ⟨Int.mul_nonneg h0 h2, (mul_bd (by omega) h1 (by omega) h3).2⟩
theorem mul_step {B : Int} {ys M : List Int} {i k : Nat} {c c2 z V x y o : Int} (hj : i + k < M.length) (h : valB B M + c * B ^ (i + k) = V + x * valB B (ys.take k) * B ^ i) (hy : y = ys.getD k 0) (ho : o = M.getD (i + k) 0) (hz : z + B * c2 = c + x * y + o) :
    valB B (M.set (i + k) z) + c2 * B ^ (i + (k + 1)) = V + x * valB B (ys.take (k + 1)) * B ^ i := by
  subst hy; subst ho
  rw [valB_set _ _ _ hj, valB_take_succ', ← Nat.add_assoc, Int.pow_succ]
  have e1 : B ^ (i + k) * (z + B * c2) = B ^ (i + k) * (c + x * ys.getD k 0 + M.getD (i + k) 0) := by rw [hz]
  simp only [Int.mul_add, Int.mul_sub] at e1 ⊢
  have e2 : c2 * (B ^ (i + k) * B) = B ^ (i + k) * (B * c2) := by rw [Int.mul_comm c2, Int.mul_assoc]
  have e3 : c * B ^ (i + k) = B ^ (i + k) * c := Int.mul_comm _ _
  have e4 : (x * valB B (ys.take k) + x * (B ^ k * ys.getD k 0)) * B ^ i = x * valB B (ys.take k) * B ^ i + B ^ (i + k) * (x * ys.getD k 0) := by
    rw [Int.add_mul, Int.pow_add]
    congr 1
    ac_rfl
  rw [e4]
  omega
theorem mul_last {B : Int} {xs ys M : List Int} {i : Nat} {c : Int} (hj : i + ys.length < M.length) (hz : M.getD (i + ys.length) 0 = 0) (h : valB B M + c * B ^ (i + ys.length) = valB B (xs.take i) * valB B ys + xs.getD i 0 * valB B (ys.take ys.length) * B ^ i) :
    valB B (M.set (i + ys.length) c) = valB B (xs.take (i + 1)) * valB B ys := by
  rw [valB_set _ _ _ hj, hz, valB_take_succ', Int.sub_zero, Int.add_mul]
  rw [List.take_length] at h
  have e3 : c * B ^ (i + ys.length) = B ^ (i + ys.length) * c := Int.mul_comm _ _
  have e4 : B ^ i * xs.getD i 0 * valB B ys = xs.getD i 0 * valB B ys * B ^ i := by ac_rfl
  omega
theorem zero_set {M : List Int} {n j : Nat} {z : Int} (h : ∀ q, n ≤ q → M.getD q 0 = 0) (hj : j < n) : ∀ q, n ≤ q → (M.set j z).getD q 0 = 0 := by
  intro q hq
  rw [getD_set_neQ _ _ _ _ (by omega)]
  exact h q hq
theorem zero_set1 {M : List Int} {n : Nat} {z : Int} (h : ∀ q, n ≤ q → M.getD q 0 = 0) : ∀ q, n + 1 ≤ q → (M.set n z).getD q 0 = 0 := by
  intro q hq
  rw [getD_set_neQ _ _ _ _ (by omega)]
  exact h q (by omega)
theorem mul_start {B V x : Int} {ys M : List Int} {i : Nat} (h : valB B M = V) : valB B M + 0 * B ^ (i + 0) = V + x * valB B (ys.take 0) * B ^ i := by
  rw [h, List.take_zero]
  simp [valB]
theorem mul_zero_of {x y : Int} (h : x = 0 ∨ y = 0) : x * y = 0 := by rcases h with rfl | rfl <;> simp
theorem nat_mul_sz {x y s t : Nat} (h : x < 2 ^ s) (h2 : y < 2 ^ t) : x * y < 2 ^ (s + t) := by
  rw [Nat.pow_add]
  exact Nat.mul_lt_mul_of_lt_of_lt h h2
theorem rep_zero (n q : Nat) : (List.replicate n (0 : Int)).getD q 0 = 0 := by
  simp only [List.getD_eq_getElem?_getD, List.getElem?_replicate]
  split <;> rfl
end Go.Proofs.YtmbpomcbdopgnaaDoor.Fw
set_option linter.unusedVariables false
set_option linter.unusedSimpArgs false
namespace Go.Proofs.YtmbpomcbdopgnaaDoor.Fw
def pkz (S : Prop) [Decidable S] (z : Int) : Int := if S then z else 0
theorem w0 : wv3 0 = 0 ∧ wv2 0 = 0 ∧ wv1 0 = 0 ∧ wv0 0 = 0 := by decide
def dOk (x y : Int) : Prop := y ≠ 0 ∧ fits (x / y) ∧ fits (x % y)
instance (x y : Int) : Decidable (dOk x y) := by unfold dOk; infer_instance
def gI (x y : Int) : Int := ((Int.gcd x y : Nat) : Int)
def rUp (u d : Int) : Int := (if d < 0 then -u else u) / gI u d
def rDn (u d : Int) : Int := (if d < 0 then -d else d) / gI u d
def rFit (u d : Int) : Prop := d ≠ 0 ∧ fits (rUp u d) ∧ fits (rDn u d)
instance (u d : Int) : Decidable (rFit u d) := by unfold rFit; infer_instance
def rOk (u d : Int) : Prop := 0 < d ∧ gI u d = 1
instance (u d : Int) : Decidable (rOk u d) := by unfold rOk; infer_instance
def gI3 (x y w : Int) : Int := gI (gI x y) w
def pPt (x y w z : Int) : Int := (if w < 0 then -z else z) / gI3 x y w
end Go.Proofs.YtmbpomcbdopgnaaDoor.Fw
set_option linter.unusedVariables false
set_option linter.unusedSimpArgs false
namespace Go.Proofs.YtmbpomcbdopgnaaDoor.Fw
open Go Go.RowKit Go.ChangeShapes Go.WideShapes Go.ChangeAt
theorem trod_again {H : Type} {enc : TypeId × Value → H} {P : Program} {W W' : World} {sp : Nat → Bool} (K : Kids P (· < P.types.size))
    (hz : ∀ t e, t < P.types.size → P.underlying t = some (.slice e) → 0 < P.cellsOf e) (hb : Below W.heap.size W W') :
    ∀ {ts : List TypeId} {vs : List Value} {ds : List (DataW H)} {ps : List MemPlace}, (∀ t ∈ ts, t < P.types.size) → DataW.TrodAll enc P W 0 (fun _ => true) true ts vs ds ps →
      (∀ p ∈ ps, p.block < W.heap.size) → (∀ p ∈ ps, sp p.block = true) → DataW.TrodAll enc P W' 0 sp true ts vs ds ps
  | [], [], [], _, _, h, _, _ => h
  | t :: ts, v :: vs, d :: ds, _, hT, ⟨p, q, h1, h2, e⟩, hlt, hs => by
    subst e
    refine ⟨p, q, ?_, trod_again K hz hb (fun t ht => hT t (List.mem_cons_of_mem _ ht)) h2 (fun x hx => hlt x (List.mem_append_right _ hx)) (fun x hx => hs x (List.mem_append_right _ hx)), rfl⟩
    obtain ⟨n, hn⟩ := h1.respare K hz (hT t (by simp)) (spare' := sp) (fun x hx => hs x (List.mem_append_left _ hx))
    exact ⟨n, DataW.trod_carry n _ _ _ hn fun x hx => hb.same (hlt x (List.mem_append_left _ hx))⟩
theorem law_post {H : Type} {enc : TypeId × Value → H} {P : Program} {f : Func} {s : ChangeSpec} {bt : TypeId} {W W' : World} {args : Array Value} {ds gs : List (DataW H)} {before : List MemPlace}
    (hl : laidOutB P = true) (hm : mapsRowed P = true)
    (hz : ((List.range P.types.size).all fun t => match P.underlying t with | some (.slice e) => decide (0 < P.cellsOf e) | _ => true) = true)
    (hpt : f.params.toList.all (fun t => decide (t < P.types.size)) = true) (hv : s.vars = []) (hr : f.resultTypes = #[bt]) (hbt : P.underlying bt = some .bool)
    (hW : DataW.Whole enc P f.params.toList s.vars false W args.toList ds gs before) (hfn : s.fn H (ds ++ gs) = { results := [.lit (.bool true)], args := ds })
    (hb : Below W.heap.size W W') : s.post enc P f false true false false W args (.bool true) W' := by
  have hlt : ∀ p ∈ before, p.block < W.heap.size := fun p hp => hW.lt p hp
  have hW' := hW
  obtain ⟨p, q, hA, hV, rfl, hfz, hnd⟩ := hW
  have hq : gs = [] ∧ q = [] := by
    rw [hv] at hV
    cases gs with
    | nil => exact ⟨rfl, hV⟩
    | cons g gs => cases hV
  obtain ⟨rfl, rfl⟩ := hq
  have hag := trod_again (sp := fun b => decide (b < W.heap.size)) (kids_rows hl hm) (slices_full_of P hz) hb (fun t ht => by
    have := List.all_eq_true.1 hpt t ht
    simpa using this) hA (fun x hx => hlt x (by simpa using hx)) (fun x hx => by
    have := hlt x (by simpa using hx)
    simpa using this)
  refine ⟨ds, [], p ++ [], [], p, [], hW', ?_, ?_, ?_, hb.frame _, fun h => by cases h⟩
  · rw [hfn, hr]
    exact trodAll_mk1 (shut_bool hbt _)
  · rw [hfn]
    exact hag
  · rw [hfn, hv]
    rfl
end Go.Proofs.YtmbpomcbdopgnaaDoor.Fw
set_option linter.unusedVariables false
set_option linter.unusedSimpArgs false
namespace Go.Proofs.YtmbpomcbdopgnaaDoor.Fw
open Go Go.RowKit
abbrev Post := Value → World → Prop
def dstOf (ops : Array Oper) (i : Nat) : Nat := ((ops[i]?).bind (·.dst)).getD 0
def isDep (o : Oper) (j : Nat) : Bool := o.after.toList.any fun e => Region.binds .any e && Nat.beq e.on j
section
variable {P : Program} {f n : Nat} {R : Ending → World → Prop} {k : List Item} {fr : Fr} {w : World} {ops : Array Oper}
structure ParInv (ops : Array Oper) (Ps : List Post) (fr : Fr) (w : World) (listed : Array Bool) (fr' : Fr) (w' : World) : Prop where
  size : listed.size = ops.size
  ext : Ext w w'
  fixed : ∀ t, (∀ j o, ops[j]? = some o → o.dst = some t → listed.getD j true = false) → fr' t = fr t
  shut : ∀ j o, ops[j]? = some o → listed.getD j true = true → ∀ i, isDep o i = true → listed.getD i false = true
  done : ∀ j p, Ps[j]? = some p → listed.getD j true = true → p (fr' (dstOf ops j)) w'
end
section
variable {P : Program} {f n : Nat} {R : Ending → World → Prop} {k : List Item} {fr : Fr} {w : World} {ops : Array Oper}
structure StInv (ops : Array Oper) (s : Nat) (Vs : List Value) (K : World → Prop) (fr : Fr) (w1 : World) (listed : Array Bool) (fr' : Fr) (w' : World) : Prop where
  size : listed.size = ops.size
  fixed : ∀ t, (∀ j o, ops[j]? = some o → o.dst = some t → listed.getD j true = false) → fr' t = fr t
  shut : ∀ j o, ops[j]? = some o → listed.getD j true = true → ∀ i, isDep o i = true → listed.getD i false = true
  done : ∀ j v, Vs[j]? = some v → j ≠ s → listed.getD j true = true → fr' (dstOf ops j) = v
  before : listed.getD s true = false → w' = w1
  after : listed.getD s true = true → K w'
end
end Go.Proofs.YtmbpomcbdopgnaaDoor.Fw
set_option linter.unusedVariables false
set_option linter.unusedSimpArgs false
namespace Go.Proofs.YtmbpomcbdopgnaaDoor.Fw
open Go Go.RowKit
structure Al where
  a : Nat
  s : Nat
  xi : Nat
  T : Nat
  cs : Array Value
def isSt (As : List Al) (i : Nat) : Bool := As.any fun e => Nat.beq e.s i
section
variable {P : Program} {f n : Nat} {R : Ending → World → Prop} {k : List Item} {fr : Fr} {w : World} {ops : Array Oper}
def Mem (ops : Array Oper) (w : World) (listed : Array Bool) (fr' : Fr) (w' : World) (e : Al) : Prop :=
  ∃ b, fr' (dstOf ops e.a) = .pointer (some ⟨b, 0, none⟩) ∧ w.heap.size ≤ b ∧ ((listed.getD e.s true = false ∧ w'.heap[b]? = some (.cells e.cs e.T)) ∨ (listed.getD e.s true = true ∧ w'.heap[b]? = some (.cells (fr' (dstOf ops e.xi)).cells e.T)))
structure ParInv2 (ops : Array Oper) (Ps : List Post) (As : List Al) (fr : Fr) (w : World) (listed : Array Bool) (fr' : Fr) (w' : World) : Prop where
  size : listed.size = ops.size
  ext : Ext w w'
  fixed : ∀ t, (∀ j o, ops[j]? = some o → o.dst = some t → listed.getD j true = false) → fr' t = fr t
  shut : ∀ j o, ops[j]? = some o → listed.getD j true = true → ∀ i, isDep o i = true → listed.getD i false = true
  done : ∀ j p, Ps[j]? = some p → isSt As j = false → listed.getD j true = true → p (fr' (dstOf ops j)) w'
  mem : ∀ e ∈ As, listed.getD e.a true = true → Mem ops w listed fr' w' e
  dist : ∀ e ∈ As, ∀ e' ∈ As, e.a ≠ e'.a → listed.getD e.a true = true → listed.getD e'.a true = true → fr' (dstOf ops e.a) ≠ fr' (dstOf ops e'.a)
end
end Go.Proofs.YtmbpomcbdopgnaaDoor.Fw
set_option linter.unusedVariables false
set_option linter.unusedSimpArgs false
namespace Go.Proofs.YtmbpomcbdopgnaaDoor.Fw
def sm3 (x y z : Int) : Prop := nbits ((x.natAbs : Nat) : Int).toNat ≤ 80 ∧ nbits ((y.natAbs : Nat) : Int).toNat ≤ 80 ∧ nbits ((z.natAbs : Nat) : Int).toNat ≤ 80
instance (x y z : Int) : Decidable (sm3 x y z) := by unfold sm3; infer_instance
def pc (x y w x' y' w' : Int) : Int := if sgnI (x * w' - x' * w) ≠ 0 then sgnI (x * w' - x' * w) else sgnI (y * w' - y' * w)
def ori (x y w x' y' w' x'' y'' w'' : Int) : Int := sgnI (x * (y' * w'' - w' * y'') - y * (x' * w'' - w' * x'') + w * (x' * y'' - y' * x''))
def pOk (x y w : Int) : Prop := 0 < w ∧ sm3 x y w ∧ gI3 x y w = 1
instance (x y w : Int) : Decidable (pOk x y w) := by unfold pOk; infer_instance
def btw (x y w x' y' w' x'' y'' w'' : Int) : Prop :=
  (0 < pc x y w x' y' w' ∧ pc x' y' w' x'' y'' w'' ≤ 0 ∧ pc x'' y'' w'' x y w ≤ 0 ∧ ori x' y' w' x y w x'' y'' w'' = 0) ∨
  (¬ 0 < pc x y w x' y' w' ∧ pc x y w x'' y'' w'' ≤ 0 ∧ pc x'' y'' w'' x' y' w' ≤ 0 ∧ ori x y w x' y' w' x'' y'' w'' = 0)
instance (x y w x' y' w' x'' y'' w'' : Int) : Decidable (btw x y w x' y' w' x'' y'' w'') := by unfold btw; infer_instance
def sideV (ax ay bx b_y x y w : Int) : Int := sgnI ((bx - ax) * (y - ay * w) - (b_y - ay) * (x - ax * w))
end Go.Proofs.YtmbpomcbdopgnaaDoor.Fw
set_option linter.unusedVariables false
set_option linter.unusedSimpArgs false
namespace Go.Proofs.YtmbpomcbdopgnaaDoor.Fw
def dg (n : Nat) : List Int := if h : n = 0 then [] else (48 + ((n % 10 : Nat) : Int)) :: dg (n / 10)
termination_by n
decreasing_by omega
theorem dg_zero : dg 0 = [] := by rw [dg]; simp
theorem dg_pos {n : Nat} (h : n ≠ 0) : dg n = (48 + ((n % 10 : Nat) : Int)) :: dg (n / 10) := by rw [dg]; simp [h]
theorem dg_nil {n : Nat} : dg n = [] ↔ n = 0 := by
  constructor
  · intro h
    by_cases hn : n = 0
    · exact hn
    · rw [dg_pos hn] at h; cases h
  · intro h; subst h; exact dg_zero
theorem dg_rg (n : Nat) : ∀ c ∈ dg n, 48 ≤ c ∧ c ≤ 57 := by
  induction n using Nat.strongRecOn with
  | _ n ih =>
    by_cases hn : n = 0
    · subst hn; rw [dg_zero]; intro c hc; cases hc
    · rw [dg_pos hn]
      intro c hc
      rcases List.mem_cons.1 hc with h | h
      · omega
      · exact ih (n / 10) (by omega) c h
theorem dg_len {n k : Nat} : (dg n).length ≤ k ↔ n < 10 ^ k := by
  induction k generalizing n with
  | zero => simp [dg_nil]
  | succ k ih =>
    by_cases hn : n = 0
    · subst hn; rw [dg_zero]; simp; exact Nat.pow_pos (by decide)
    · rw [dg_pos hn, List.length_cons, Nat.add_le_add_iff_right, ih, Nat.pow_succ]; omega
def txtL (z : Int) : List Int := (if z < 0 then [45] else []) ++ (if z = 0 then [48] else (dg z.natAbs).reverse)
theorem txt_step {x : Int} {M D : List Int} (h0 : 0 < x) (h : (dg x.toNat).reverse ++ M = D) : (dg (x / 10).toNat).reverse ++ ((48 + x % 10) :: M) = D := by
  rw [dg_pos (by omega)] at h
  rw [← h, List.reverse_cons, List.append_assoc]
  have e1 : (x / 10).toNat = x.toNat / 10 := by omega
  have e2 : (48 + x % 10 : Int) = 48 + ((x.toNat % 10 : Nat) : Int) := by omega
  rw [e1, e2]; rfl
def valD (cs : List Int) : Int := cs.foldl (fun a c => a * 10 + (c - 48)) 0
theorem valD_snoc (cs : List Int) (c : Int) : valD (cs ++ [c]) = valD cs * 10 + (c - 48) := by simp [valD]
theorem valD_dg (n : Nat) : valD (dg n).reverse = (n : Int) := by
  induction n using Nat.strongRecOn with
  | _ n ih =>
    by_cases hn : n = 0
    · subst hn; rw [dg_zero]; rfl
    · rw [dg_pos hn, List.reverse_cons, valD_snoc, ih (n / 10) (by omega)]; omega
def isD (c : Int) : Prop := 48 ≤ c ∧ c ≤ 57
instance (c : Int) : Decidable (isD c) := by unfold isD; infer_instance
theorem valD_nonneg : ∀ (n : Nat) {cs : List Int}, cs.length = n → (∀ c ∈ cs, isD c) → 0 ≤ valD cs := by
  intro n
  induction n with
  | zero => intro cs hl _; have : cs = [] := List.eq_nil_of_length_eq_zero hl; subst this; decide
  | succ n ih =>
    intro cs hl h
    have hs := list_snoc cs (by omega)
    rw [hs, valD_snoc]
    have h1 := ih (cs := cs.take (cs.length - 1)) (by simp; omega) fun c hc => h c (List.mem_of_mem_take hc)
    have h2 := h (cs.getD (cs.length - 1) 0) (by
      rw [List.getD_eq_getElem?_getD, List.getElem?_eq_getElem (by omega)]; exact List.getElem_mem _)
    unfold isD at h2; omega
theorem dg_valD : ∀ (n : Nat) {cs : List Int}, cs.length = n → (∀ c ∈ cs, isD c) → cs.getD 0 0 ≠ 48 → dg (valD cs).toNat = cs.reverse := by
  intro n
  induction n with
  | zero => intro cs hl _ _; have : cs = [] := List.eq_nil_of_length_eq_zero hl; subst this; exact dg_zero
  | succ n ih =>
    intro cs hl h h0
    have hs := list_snoc cs (by omega)
    have h2 := h (cs.getD (cs.length - 1) 0) (by
      rw [List.getD_eq_getElem?_getD, List.getElem?_eq_getElem (by omega)]; exact List.getElem_mem _)
    have hm : ∀ c ∈ cs.take (cs.length - 1), isD c := fun c hc => h c (List.mem_of_mem_take hc)
    have h3 := valD_nonneg _ rfl hm
    have e : valD cs = valD (cs.take (cs.length - 1)) * 10 + (cs.getD (cs.length - 1) 0 - 48) := by
      conv => lhs; rw [hs]
      exact valD_snoc _ _
    unfold isD at h2
    by_cases hn : n = 0
    · subst hn
      have e0 : cs.length - 1 = 0 := by omega
      rw [e0] at e h2
      rw [e0] at hs
      have ht : cs.take 0 = [] := rfl
      rw [ht] at e hs
      have hc : cs = [cs.getD 0 0] := by simpa using hs
      rw [e]
      have hv : valD [] = 0 := rfl
      rw [hv, Int.zero_mul, Int.zero_add, dg_pos (by omega)]
      have e4 : (cs.getD 0 0 - 48).toNat / 10 = 0 := by omega
      have e5 : (48 + (((cs.getD 0 0 - 48).toNat % 10 : Nat) : Int)) = cs.getD 0 0 := by omega
      rw [e4, e5, dg_zero]
      conv => rhs; rw [hc]
      rfl
    · have ih' := ih (cs := cs.take (cs.length - 1)) (by simp; omega) hm (by rw [getD_take _ _ _ (by omega)]; exact h0)
      have hpos : valD (cs.take (cs.length - 1)) ≠ 0 := fun hz => by
        rw [hz] at ih'
        have : (cs.take (cs.length - 1)).reverse = [] := by rw [← ih']; exact dg_zero
        have h6 := congrArg List.length this
        simp at h6; omega
      rw [e, dg_pos (by omega)]
      have e4 : (valD (cs.take (cs.length - 1)) * 10 + (cs.getD (cs.length - 1) 0 - 48)).toNat / 10 = (valD (cs.take (cs.length - 1))).toNat := by omega
      have e5 : (48 + (((valD (cs.take (cs.length - 1)) * 10 + (cs.getD (cs.length - 1) 0 - 48)).toNat % 10 : Nat) : Int)) = cs.getD (cs.length - 1) 0 := by omega
      rw [e4, e5, ih']
      conv => rhs; rw [hs]
      simp
def negD (cs : List Int) : Bool := decide (cs.getD 0 0 = 45)
def digD (cs : List Int) : List Int := if cs.getD 0 0 = 45 then cs.drop 1 else cs
def numD (cs : List Int) : Int := sg (negD cs) (valD (digD cs))
def canD (cs : List Int) : Prop := txtL (numD cs) = cs
instance (cs : List Int) : Decidable (canD cs) := by unfold canD; infer_instance
theorem canD_len {cs : List Int} {k : Nat} (h : canD cs) (hz : (numD cs).natAbs < 10 ^ k) : (digD cs).length ≤ max 1 k ∧ cs.length ≤ max 1 k + 1 := by
  unfold canD at h
  have hl := congrArg List.length h
  unfold txtL at hl
  have h1 : (dg (numD cs).natAbs).length ≤ k := dg_len.2 hz
  have h2 : (digD cs).length = if cs.getD 0 0 = 45 then cs.length - 1 else cs.length := by unfold digD; split <;> simp
  have h3 : numD cs < 0 → cs.getD 0 0 = 45 := fun hn => by rw [← h]; unfold txtL; simp [hn]
  by_cases hn : numD cs < 0
  · rw [h2, if_pos (h3 hn)]
    rw [if_pos hn, if_neg (by omega)] at hl
    simp at hl; omega
  · rw [if_neg hn] at hl
    have : (digD cs).length ≤ cs.length := by rw [h2]; split <;> omega
    by_cases h0 : numD cs = 0
    · rw [if_pos h0] at hl; simp at hl; omega
    · rw [if_neg h0] at hl; simp at hl; omega
def formD (cs : List Int) : Prop := 0 < (digD cs).length ∧ (∀ c ∈ digD cs, isD c) ∧ ((digD cs).getD 0 0 = 48 → negD cs = false ∧ (digD cs).length = 1)
theorem canD_of_form {cs : List Int} (h : formD cs) : canD cs := by
  obtain ⟨h1, h2, h3⟩ := h
  unfold canD
  by_cases hz : (digD cs).getD 0 0 = 48
  · obtain ⟨h4, h5⟩ := h3 hz
    have hc : ¬ cs.getD 0 0 = 45 := by simpa [negD] using h4
    have hd : digD cs = cs := by unfold digD; rw [if_neg hc]
    rw [hd] at h5 hz
    have hs := list_snoc cs (by omega)
    rw [h5] at hs
    have e : cs = [48] := by rw [← hz]; simpa using hs
    subst e
    rfl
  · have hd := dg_valD _ rfl h2 hz
    have hnn := valD_nonneg _ rfl h2
    have hne : valD (digD cs) ≠ 0 := fun he => by
      rw [he] at hd
      have h6 := congrArg List.length hd
      simp [dg_zero] at h6; omega
    have hab : (numD cs).natAbs = (valD (digD cs)).toNat := by unfold numD sg; split <;> omega
    unfold txtL
    rw [hab, hd]
    by_cases hn : cs.getD 0 0 = 45
    · have e1 : negD cs = true := decide_eq_true hn
      have e2 : numD cs < 0 := by unfold numD; rw [e1]; simp [sg]; omega
      rw [if_pos e2, if_neg (by omega)]
      unfold digD
      rw [if_pos hn, List.reverse_reverse]
      cases cs with
      | nil => simp at hn
      | cons c cs => simp at hn; subst hn; rfl
    · have e1 : negD cs = false := decide_eq_false hn
      have e2 : ¬ numD cs < 0 := by unfold numD; rw [e1]; simp [sg]; omega
      have e3 : numD cs ≠ 0 := by unfold numD; rw [e1]; simpa [sg] using hne
      rw [if_neg e2, if_neg e3]
      unfold digD
      rw [if_neg hn, List.reverse_reverse]
      rfl
theorem form_of_canD {cs : List Int} (h : canD cs) : formD cs := by
  unfold canD at h
  generalize hz : numD cs = z at h
  subst h
  have hr : ∀ c ∈ (dg z.natAbs).reverse, isD c := fun c hc => dg_rg _ c (by simpa using hc)
  have hlast : ∀ n : Nat, n ≠ 0 → (dg n).reverse.getD 0 0 ≠ 48 := by
    intro n
    induction n using Nat.strongRecOn with
    | _ n ih =>
      intro hn
      rw [dg_pos hn, List.reverse_cons]
      by_cases h1 : n / 10 = 0
      · rw [h1, dg_zero]; simp; omega
      · have h2 := ih (n / 10) (by omega) h1
        have h3 : 0 < (dg (n / 10)).reverse.length := by
          rw [List.length_reverse]
          have := mt dg_nil.1 h1
          cases hd : dg (n / 10) with
          | nil => exact absurd hd this
          | cons a b => simp
        rw [List.getD_eq_getElem?_getD, List.getElem?_append_left h3, ← List.getD_eq_getElem?_getD]
        exact h2
  by_cases h0 : z = 0
  · subst h0
    have e : txtL 0 = [48] := by decide
    rw [e]
    refine ⟨by decide, ?_, by decide⟩
    intro c hc
    have : c = 48 := by simpa [digD] using hc
    subst this; decide
  · have hne : 0 < (dg z.natAbs).reverse.length := by
      rw [List.length_reverse]
      have := mt (dg_nil (n := z.natAbs)).1 (by omega)
      cases hd : dg z.natAbs with
      | nil => exact absurd hd this
      | cons a b => simp
    have hd : digD (txtL z) = (dg z.natAbs).reverse ∧ True := by
      refine ⟨?_, trivial⟩
      unfold digD txtL
      rw [if_neg h0]
      by_cases hn : z < 0
      · simp [hn]
      · rw [if_neg hn, List.nil_append]
        rw [if_neg]
        intro h45
        have := hr ((dg z.natAbs).reverse.getD 0 0) (by
          rw [List.getD_eq_getElem?_getD, List.getElem?_eq_getElem hne]; exact List.getElem_mem _)
        rw [h45] at this
        exact absurd this (by decide)
    unfold formD
    rw [hd.1]
    exact ⟨hne, hr, fun h48 => absurd h48 (hlast _ (by omega))⟩
end Go.Proofs.YtmbpomcbdopgnaaDoor.Fw
set_option linter.unusedVariables false
set_option linter.unusedSimpArgs false
namespace Go.Proofs.YtmbpomcbdopgnaaDoor.Fw
open Go Go.RowKit
section
variable {P : Program} {f n : Nat} {R : Ending → World → Prop} {k : List Item} {fr : Fr} {w : World} {ops : Array Oper}
structure St2Inv (ops : Array Oper) (s s2 : Nat) (Vs : List Value) (K1 K : World → Prop) (fr : Fr) (w1 : World) (listed : Array Bool) (fr' : Fr) (w' : World) : Prop where
  size : listed.size = ops.size
  fixed : ∀ t, (∀ j o, ops[j]? = some o → o.dst = some t → listed.getD j true = false) → fr' t = fr t
  shut : ∀ j o, ops[j]? = some o → listed.getD j true = true → ∀ i, isDep o i = true → listed.getD i false = true
  done : ∀ j v, Vs[j]? = some v → j ≠ s → j ≠ s2 → listed.getD j true = true → fr' (dstOf ops j) = v
  before : listed.getD s true = false → w' = w1
  mid : listed.getD s true = true → listed.getD s2 true = false → K1 w'
  after : listed.getD s2 true = true → K w'
end
end Go.Proofs.YtmbpomcbdopgnaaDoor.Fw
set_option linter.unusedVariables false
set_option linter.unusedSimpArgs false
namespace Go.Proofs.YtmbpomcbdopgnaaDoor.Fw
open Go Go.RowKit
def bOf (l : List Int) : ByteArray := ⟨(l.map fun x => UInt8.ofNat x.toNat).toArray⟩
theorem bOf_size (l : List Int) : (bOf l).size = l.length := by simp [bOf, ByteArray.size]
theorem bOf_append (l m : List Int) : bOf l ++ bOf m = bOf (l ++ m) := by
  unfold bOf
  rw [List.map_append]
  exact ByteArray.mk_append_mk _ _
theorem bOf_list (l : List Int) : (bOf l).toList = l.map fun x => UInt8.ofNat x.toNat := ByteArray.toList_mk _
theorem byte_inj {a b : Int} (ha : 0 ≤ a ∧ a < 256) (hb : 0 ≤ b ∧ b < 256) (h : UInt8.ofNat a.toNat = UInt8.ofNat b.toNat) : a = b := by
  have := congrArg UInt8.toNat h
  simp at this
  omega
theorem bytes_inj : ∀ {l m : List Int}, okW 256 l → okW 256 m → (l.map fun x => UInt8.ofNat x.toNat) = (m.map fun x => UInt8.ofNat x.toNat) → l = m
  | [], [], _, _, _ => rfl
  | [], _ :: _, _, _, h => by simp at h
  | _ :: _, [], _, _, h => by simp at h
  | a :: l, b :: m, ha, hb, h => by
    simp only [List.map_cons, List.cons.injEq] at h
    rw [byte_inj ha.head hb.head h.1, bytes_inj ha.tail hb.tail h.2]
theorem bOf_beq {l m : List Int} (hl : okW 256 l) (hm : okW 256 m) : ((bOf l).toList == (bOf m).toList) = decide (l = m) := by
  rw [Bool.eq_iff_iff, beq_iff_eq, decide_eq_true_iff, bOf_list, bOf_list]
  exact ⟨bytes_inj hl hm, fun h => by rw [h]⟩
theorem bOf_get {l : List Int} (hl : okW 256 l) {i : Nat} (h : i < (bOf l).size) : (((bOf l)[i]'h).toNat : Int) = l.getD i 0 := by
  have hi : i < l.length := by rwa [bOf_size] at h
  have e : (bOf l)[i]'h = UInt8.ofNat (l[i]).toNat := by
    show (bOf l).data[i] = _
    simp [bOf]
  have hb := hl l[i] (List.getElem_mem hi)
  rw [e, List.getD_eq_getElem?_getD, List.getElem?_eq_getElem hi]
  simp
  omega
theorem bOf_extract (l : List Int) (a b : Nat) : (bOf l).extract a b = bOf ((l.take b).drop a) := by
  apply ByteArray.ext
  rw [ByteArray.data_extract]
  simp [bOf, List.extract_eq_take_drop, List.drop_take, List.map_take, List.map_drop]
theorem bOf_all (s : ByteArray) : ∃ l : List Int, s = bOf l ∧ okW 256 l := by
  refine ⟨s.toList.map fun c => (c.toNat : Int), ?_, ?_⟩
  · apply ByteArray.ext
    rw [ByteArray.toList_eq]
    simp [bOf, Function.comp_def]
  · intro x hx
    obtain ⟨c, hc, rfl⟩ := List.mem_map.1 hx
    have := c.toNat_lt
    omega
theorem bOf_fold : ∀ (l : List Int) (s : ByteArray), l.foldl (fun r n => r.push (UInt8.ofNat n.toNat)) s = s ++ bOf l := by
  intro l
  induction l with
  | nil => intro s; apply ByteArray.ext; simp [bOf, ByteArray.data_append]
  | cons x l ih =>
    intro s
    rw [List.foldl_cons, ih]
    have : bOf (x :: l) = bOf [x] ++ bOf l := by rw [bOf_append]; rfl
    rw [this, ← ByteArray.append_assoc]
    congr 1
    apply ByteArray.ext
    simp [bOf, ByteArray.data_append, ByteArray.data_push]
section
variable {P : Program} {n : Nat} {fr : Fr} {w : World} {ty : TypeId}
theorem dv_lenS {x : Operand} {L : List Int} {t : TypeId} (ht : P.underlying t = some .string) (hx : EV n fr x (.string (bOf L))) :
    DV P n (.call { callee := .builtin .len, args := #[x], argTypes := #[t] }) ty fr w (.int .i64 L.length) := by
  have := dv_lens (w := w) (ty := ty) ht hx
  rwa [bOf_size] at this
theorem dv_indexS {t : TypeId} {x y : Operand} {L : List Int} {k : IntKind} {j : Int} {i : Nat} (ht : P.underlying t = some .string)
    (hx : EV n fr x (.string (bOf L))) (hy : EV n fr y (.int k j)) (hL : okW 256 L) (hj : j = (i : Nat)) (hi : i < L.length) : DV P n (.index t x y) ty fr w (.int .u8 (L.getD i 0)) := by
  subst hj
  exact dv_index_s (z := L.getD i 0) ht hx hy (by omega) (by rw [bOf_size]; simpa using hi) (bOf_get hL _)
theorem dv_addS {x y : Operand} {L M : List Int} {t t' : TypeId} (hx : EV n fr x (.string (bOf L))) (hy : EV n fr y (.string (bOf M))) (hs : L.length + M.length ≤ 9223372036854775807) :
    DV P n (.binOp .add t x y t') ty fr w (.string (bOf (L ++ M))) := fun _ _ _ _ => by
  unfold EV at hx hy
  have h := run_string_add_sum (P := P) (w := w) (bOf L) (bOf M) (by rw [bOf_size, bOf_size]; exact hs)
  simp [execOp, hx, hy, eqGuard, binOp, h, bOf_append]
theorem dv_eqS {x y : Operand} {L M : List Int} {t t' : TypeId} (hx : EV n fr x (.string (bOf L))) (hy : EV n fr y (.string (bOf M))) (hL : okW 256 L) (hM : okW 256 M) :
    DV P n (.binOp .eql t x y t') ty fr w (.bool (decide (L = M))) := fun _ _ _ _ => by
  unfold EV at hx hy
  simp [execOp, hx, hy, eqGuard, binOp_string_eql, bOf_beq hL hM]
theorem dv_neS {x y : Operand} {L M : List Int} {t t' : TypeId} (hx : EV n fr x (.string (bOf L))) (hy : EV n fr y (.string (bOf M))) (hL : okW 256 L) (hM : okW 256 M) :
    DV P n (.binOp .neq t x y t') ty fr w (.bool (decide (L ≠ M))) := fun _ _ _ _ => by
  unfold EV at hx hy
  simp [execOp, hx, hy, eqGuard, binOp_string_neq, bOf_beq hL hM]
theorem dv_sliceSl {t : TypeId} {x a : Operand} {L : List Int} {k : IntKind} {j : Int} {i : Nat} (ht : P.underlying t = some .string) (hx : EV n fr x (.string (bOf L))) (ha : EV n fr a (.int k j)) (hj : j = (i : Nat)) (hi : i ≤ L.length) :
    DV P n (.slice t x (some a) none none) ty fr w (.string (bOf (L.drop i))) := fun _ _ _ _ => by
  unfold EV at hx ha
  subst hj
  have hs := bOf_size L
  have e : (bOf L).extract i (bOf L).size = bOf (L.drop i) := by rw [bOf_extract, hs, List.take_of_length_le (Nat.le_refl _)]
  have h1 : ¬ ((bOf L).size : Int) < (i : Int) := by omega
  simp [execOp, hx, ha, Instr.sliceAt, underlying, ht, Instr.slice, Instr.sliceBounds, Instr.sliceBound, asIntOf, hs, hi, ← e]
theorem dv_sliceSb {t : TypeId} {x a b : Operand} {L : List Int} {k k' : IntKind} {j j' : Int} {i i' : Nat} (ht : P.underlying t = some .string) (hx : EV n fr x (.string (bOf L))) (ha : EV n fr a (.int k j)) (hb : EV n fr b (.int k' j')) (hj : j = (i : Nat)) (hj' : j' = (i' : Nat)) (h1 : i ≤ i') (h2 : i' ≤ L.length) :
    DV P n (.slice t x (some a) (some b) none) ty fr w (.string (bOf ((L.take i').drop i))) := fun _ _ _ _ => by
  unfold EV at hx ha hb
  subst hj; subst hj'
  have hs := bOf_size L
  have e : (bOf L).extract i i' = bOf ((L.take i').drop i) := bOf_extract L i i'
  have h3 : (i : Int) ≤ (i' : Int) := by omega
  simp [execOp, hx, ha, hb, Instr.sliceAt, underlying, ht, Instr.slice, Instr.sliceBounds, Instr.sliceBound, asIntOf, hs, h1, h2, h3, ← e]
theorem dv_convBS {x : Operand} {t t' e : TypeId} {A : Option Addr} {l c T : Nat} {L : List Int} (ht : P.underlying t = some (.slice e)) (he : P.underlying e = some (.int .u8)) (hd : P.underlying t' = some .string) (hx : EV n fr x (.slice A l c)) (hW : Wd w T .u8 A L) (hl : L.length = l) :
    DV P n (.convert t t' x) ty fr w (.string (bOf L)) := fun _ _ _ _ => by
  unfold EV at hx
  have h : (convert t t' (.slice A l c)).run P w = .ok (.string (bOf L)) w := by
    rw [run_convert_bytes_string w t t' e A l c ht he hd]
    rcases hW with ⟨h1, h2⟩ | ⟨g, o, cs, fz, h1, h2, h3⟩
    · subst h1; subst h2; simp [Conv.bytesToString]; rfl
    · subst h1
      have hc : (loadCells ⟨g, o, none⟩ l).run P w = .ok (L.map (Value.int .u8)).toArray w := by
        have := run_loadCells_list (P := P) w ⟨g, o, none⟩ (L.map (Value.int .u8)) (fun j v hj => by
          have hjl : j < L.length := by have := (List.getElem?_eq_some_iff.1 hj).1; simpa using this
          have ha : (⟨g, o, none⟩ : Addr).add j = ⟨g, o + j, none⟩ := by unfold Addr.add; split <;> simp_all
          rw [ha, cell_of_row w g (o + j) cs T fz h2, h3 j L[j] (List.getElem?_eq_getElem hjl)]
          simpa [hjl] using hj)
        simpa [hl] using this
      rw [run_bytesToString w _ l c L hc, bOf_fold]
      simp
  simp [execOp, hx, h]
end
theorem okC_txt (z : Int) : okW 256 (txtL z) := by
  intro c hc
  unfold txtL at hc
  rcases List.mem_append.1 hc with h | h
  · split at h
    · have : c = 45 := by simpa using h
      omega
    · cases h
  · split at h
    · have : c = 48 := by simpa using h
      omega
    · have := dg_rg z.natAbs c (by simpa using h)
      omega
end Go.Proofs.YtmbpomcbdopgnaaDoor.Fw
set_option linter.unusedVariables false
set_option linter.unusedSimpArgs false
namespace Go.Proofs.YtmbpomcbdopgnaaDoor.Fw
open Go Go.RowKit
structure Bt (T : Nat) (w w' : World) : Prop where
  keep : ∀ (g : Nat) (o : Obj), w.heap[g]? = some o → (∀ (cs : Array Value) (fz : Nat × Nat), o ≠ Obj.cells cs T fz) → w'.heap[g]? = some o
theorem Wd.bt {w w' : World} {T T' : Nat} {k : IntKind} {A : Option Addr} {xs : List Int} (h : Wd w T' k A xs) (e : Bt T w w') (hT : T' ≠ T) : Wd w' T' k A xs := by
  rcases h with h | ⟨g, off, cs, fz, hA, hg, hc⟩
  · exact .inl h
  · exact .inr ⟨g, off, cs, fz, hA, e.keep _ _ hg (fun cs' fz' he => by injection he with _ h2 _; exact hT h2), hc⟩
theorem Wc.bt {m T T' : Nat} {k : IntKind} {w w' : World} {A : Option Addr} {l c : Nat} {x : Int} (h : Wc m T' k w A l c x) (e : Bt T w w') (hT : T' ≠ T) : Wc m T' k w' A l c x := by
  obtain ⟨xs, h1, h2, h3, h4⟩ := h
  exact ⟨xs, h1, h2, h3.bt e hT, h4⟩
theorem dg_bits {n s : Nat} (h : n < 2 ^ s) : (dg n).length ≤ s := dg_len.2 (Nat.lt_of_lt_of_le h (Nat.pow_le_pow_left (by decide) s))
theorem txt_len {z : Int} {s : Nat} (h : z.natAbs < 2 ^ s) : (txtL z).length ≤ s + 2 := by
  have := dg_bits h
  unfold txtL
  rw [List.length_append]
  split <;> split <;> simp <;> omega
section
variable {P : Program} {n : Nat} {fr : Fr} {w : World} {ty : TypeId}
theorem oe_buildSlice0 {t e : TypeId} {sz : Nat} {K : Value → World → Prop} (ht : P.underlying t = some (.slice e)) (hs : sizeB P e = some sz)
    (h : ∀ b w', New w b (.cells #[] e) w' → K (.slice (some ⟨b, 0, none⟩) 0 0) w') : OE P n (.buildSlice t 0 #[]) ty fr w K :=
  OE.of_run (v := .slice (some ⟨w.heap.size, 0, none⟩) 0 0) (w' := w.alloc (.cells #[] e)) (fun _ _ _ _ => by
    have h1 : ¬ (0 * sz > 2 ^ 24) := by simp
    have h2 : 0 * sz = 0 := Nat.zero_mul _
    simp only [execOp, Instr.buildSlice, Sem.run_bind, underlying, Sem.run_pure, run_program, ht, Result.andThen_ok, run_sizeOf hs, if_neg h1, if_pos h2]
    have e1 : ((Array.range (0 * sz)).map fun x => (#[] : Array Value)[x % (#[] : Array Value).size]!) = #[] := by rw [h2]; simp
    simp only [e1, List.map_toArray, List.map_nil, Instr.fill, newRow, run_newObj, Sem.run_bind, Sem.run_pure, Result.andThen_ok]
    rfl) (h _ _ (new_alloc w _))
end
end Go.Proofs.YtmbpomcbdopgnaaDoor.Fw
set_option linter.unusedVariables false
set_option linter.unusedSimpArgs false
namespace Go.Proofs.YtmbpomcbdopgnaaDoor.Fw
open Go Go.RowKit
theorem drop_set_pred (L : List Int) (j : Nat) (q : Int) (hj : 0 < j) (hl : j ≤ L.length) : (L.set (j - 1) q).drop (j - 1) = q :: L.drop j := by
  have h1 : j - 1 < (L.set (j - 1) q).length := by simp; omega
  rw [List.drop_eq_getElem_cons h1, List.getElem_set_self, show j - 1 + 1 = j by omega, List.drop_set_of_lt (by omega)]
theorem drop_pred (L : List Int) (j : Nat) (hj : 0 < j) (hl : j ≤ L.length) : L.drop (j - 1) = L.getD (j - 1) 0 :: L.drop j := by
  have h1 : j - 1 < L.length := by omega
  rw [List.drop_eq_getElem_cons h1, show j - 1 + 1 = j by omega]
  simp [List.getD_eq_getElem?_getD, h1]
theorem ten_step {xs L : List Int} {j : Nat} {r : Int} (hj : 0 < j) (hjl : j ≤ xs.length) (hLl : L.length = xs.length) (hL : valB (2 ^ 32) (L.drop j) = valB (2 ^ 32) (xs.drop j) / 10) (hr : r = valB (2 ^ 32) (xs.drop j) % 10) :
    valB (2 ^ 32) ((L.set (j - 1) ((xs.getD (j - 1) 0 + r * 4294967296) / 10)).drop (j - 1)) = valB (2 ^ 32) (xs.drop (j - 1)) / 10 ∧ (xs.getD (j - 1) 0 + r * 4294967296) % 10 = valB (2 ^ 32) (xs.drop (j - 1)) % 10 := by
  rw [drop_set_pred L j _ hj (by omega), drop_pred xs j hj hjl]
  show _ + (2 ^ 32 : Int) * valB (2 ^ 32) (L.drop j) = (_ + (2 ^ 32 : Int) * valB (2 ^ 32) (xs.drop j)) / 10 ∧ _ = (_ + (2 ^ 32 : Int) * valB (2 ^ 32) (xs.drop j)) % 10
  rw [show (2 ^ 32 : Int) = 4294967296 from by decide] at *
  rw [hL]
  generalize valB 4294967296 (xs.drop j) = V at *
  omega
theorem sg_false {x : Int} : sg false x = x := rfl
theorem txt_top {z : Int} {M : List Int} (h : M = (dg z.natAbs).reverse) (hz : z ≠ 0) : (if z < 0 then [45] else []) ++ M = txtL z := by unfold txtL; rw [if_neg hz, h]
end Go.Proofs.YtmbpomcbdopgnaaDoor.Fw
set_option linter.unusedVariables false
set_option linter.unusedSimpArgs false
namespace Go.Proofs.YtmbpomcbdopgnaaDoor.Fw
open Go Go.RowKit
def Rd (w : World) (A : Option Addr) (vs : List Value) : Prop :=
  vs = [] ∨ ∃ (g off T : Nat) (cs : Array Value) (fz : Nat × Nat), A = some ⟨g, off, none⟩ ∧ w.heap[g]? = some (.cells cs T fz) ∧ ∀ i x, vs[i]? = some x → cs[off + i]? = some x
theorem Rd.ext {w w' : World} {A : Option Addr} {vs : List Value} (h : Rd w A vs) (e : Ext w w') : Rd w' A vs := by
  rcases h with h | ⟨g, off, T, cs, fz, hA, hg, hc⟩
  · exact .inl h
  · exact .inr ⟨g, off, T, cs, fz, hA, e.blk hg, hc⟩
theorem Rd.at {w : World} {A : Option Addr} {vs : List Value} (h : Rd w A vs) (hp : 0 < vs.length) : ∃ g off, A = some ⟨g, off, none⟩ := by
  rcases h with h | ⟨g, off, T, cs, fz, hA, hg, hc⟩
  · rw [h] at hp; simp at hp
  · exact ⟨g, off, hA⟩
theorem Rd.cell {w : World} {g off i : Nat} {vs : List Value} {v : Value} (h : Rd w (some ⟨g, off, none⟩) vs) (hi : vs[i]? = some v) : w.cell? ⟨g, off + i, none⟩ = some v := by
  rcases h with h | ⟨g', off', T, cs, fz, hA, hg, hc⟩
  · rw [h] at hi; cases hi
  · obtain ⟨rfl, rfl⟩ : g = g' ∧ off = off' := by simpa using hA
    rw [cell_of_row w g (off + i) cs T fz hg]
    exact hc i v hi
def RdI (w : World) (k : IntKind) (A : Option Addr) (L : List Int) : Prop := Rd w A (L.map (Value.int k))
theorem RdI.ext {w w' : World} {k : IntKind} {A : Option Addr} {L : List Int} (h : RdI w k A L) (e : Ext w w') : RdI w' k A L := Rd.ext h e
theorem RdI.at {w : World} {k : IntKind} {A : Option Addr} {L : List Int} (h : RdI w k A L) (hp : 0 < L.length) : ∃ g off, A = some ⟨g, off, none⟩ := Rd.at h (by simpa using hp)
theorem RdI.cell {w : World} {k : IntKind} {g off i : Nat} {L : List Int} (h : RdI w k (some ⟨g, off, none⟩) L) (hi : i < L.length) : w.cell? ⟨g, off + i, none⟩ = some (.int k (L.getD i 0)) :=
  Rd.cell h (by simp [List.getElem?_map, hi, List.getD_eq_getElem?_getD])
theorem Wd.rdI {w : World} {T : Nat} {k : IntKind} {A : Option Addr} {L : List Int} (h : Wd w T k A L) : RdI w k A L := by
  rcases h with ⟨h1, h2⟩ | ⟨g, off, cs, fz, hA, hg, hc⟩
  · exact .inl (by rw [h1]; rfl)
  · refine .inr ⟨g, off, T, cs, fz, hA, hg, fun i x hi => ?_⟩
    rw [List.getElem?_map] at hi
    cases hL : L[i]? with
    | none => rw [hL] at hi; cases hi
    | some y =>
      rw [hL] at hi
      have e : x = .int k y := by simpa using hi.symm
      rw [e]; exact hc i y hL
theorem addr_addn {g off m : Nat} : (⟨g, off, none⟩ : Addr).add m = ⟨g, off + m, none⟩ := by unfold Addr.add; split <;> simp_all
section
variable {P : Program} {n : Nat} {fr : Fr} {w : World} {ty : TypeId}
theorem dv_indexM {t e : TypeId} {x y : Operand} {g o l c i m : Nat} {k : IntKind} {j : Int} (ht : P.underlying t = some (.slice e)) (hs : sizeB P e = some m)
    (hx : EV n fr x (.slice (some ⟨g, o, none⟩) l c)) (hy : EV n fr y (.int k j)) (hj : j = (i : Nat)) (hl : i < l) : DV P n (.indexAddr t x y) ty fr w (.pointer (some ⟨g, o + i * m, none⟩)) :=
  dv_indexAddr ht hs hx hy (by omega) (by omega) (by subst hj; exact addr_addn)
theorem dv_fieldW {s i : Nat} {x : Operand} {g o off j : Nat} (hf : fieldOffB P s j = some off) (hx : EV n fr x (.pointer (some ⟨g, o + i, none⟩))) :
    DV P n (.fieldAddr s x j) ty fr w (.pointer (some ⟨g, o + (i + off), none⟩)) := dv_fieldAddr hf hx (by rw [addr_addn, Nat.add_assoc])
theorem loadVar_at {t : TypeId} {g o m : Nat} {l : List Value} (ht : aggB P t = some true) (hs : sizeB P t = some m) (hl : l.length = m)
    (hc : ∀ j v, l[j]? = some v → w.cell? ⟨g, o + j, none⟩ = some v) : (loadVar t ⟨g, o, none⟩).run P w = .ok (.agg l.toArray) w := by
  have hld : (loadCells ⟨g, o, none⟩ l.length).run P w = .ok l.toArray w := by
    refine run_loadCells_list _ _ l fun j v hj => ?_
    rw [addr_addn]
    exact hc j v hj
  rw [hl] at hld
  simp [loadVar, run_isAgg ht, run_sizeOf hs, hld]
theorem dv_loadsR {t : TypeId} {x : Operand} {g o m : Nat} {l : List Value} (ht : aggB P t = some true) (hs : sizeB P t = some m) (hx : EV n fr x (.pointer (some ⟨g, o, none⟩))) (hl : l.length = m)
    (hc : ∀ j v, l[j]? = some v → w.cell? ⟨g, o + j, none⟩ = some v) : DV P n (.load t x) ty fr w (.agg l.toArray) := fun _ _ _ _ => by
  unfold EV at hx
  have := loadVar_at (w := w) ht hs hl hc
  simp [execOp, hx, Instr.loadAt, Instr.sureAddr, this]
def getM (k : IntKind) (L : List Int) (i m : Nat) : List Value := (List.range m).map fun j => Value.int k (L.getD (i + j) 0)
theorem getM_get {k : IntKind} {L : List Int} {i m j : Nat} {v : Value} (h : (getM k L i m)[j]? = some v) : j < m ∧ v = .int k (L.getD (i + j) 0) := by
  unfold getM at h
  have hj := (List.getElem?_eq_some_iff.1 h).1
  simp only [List.length_map, List.length_range] at hj
  rw [List.getElem?_map, List.getElem?_range hj] at h
  exact ⟨hj, by simpa using h.symm⟩
theorem dv_loadsI {t : TypeId} {x : Operand} {g o i m : Nat} {k : IntKind} {L : List Int} {l : List Value} (ht : aggB P t = some true) (hs : sizeB P t = some m) (hx : EV n fr x (.pointer (some ⟨g, o + i, none⟩)))
    (hR : RdI w k (some ⟨g, o, none⟩) L) (hi : i + m ≤ L.length) (hl : getM k L i m = l) : DV P n (.load t x) ty fr w (.agg l.toArray) := by
  subst hl
  refine dv_loadsR ht hs hx (by simp [getM]) fun j v hj => ?_
  obtain ⟨hjm, rfl⟩ := getM_get hj
  rw [Nat.add_assoc]
  exact hR.cell (by omega)
end
end Go.Proofs.YtmbpomcbdopgnaaDoor.Fw
set_option linter.unusedVariables false
set_option linter.unusedSimpArgs false
namespace Go.Proofs.YtmbpomcbdopgnaaDoor.Fw
open Go Go.RowKit
theorem Ow.mono {w : World} {base base' T c : Nat} {k : IntKind} {A : Option Addr} {L : List Int} (h : Ow w base T k A c L) (hb : base' ≤ base) : Ow w base' T k A c L := by
  obtain ⟨⟨h1, h2⟩, h3⟩ := h
  refine ⟨⟨h1, ?_⟩, Nat.le_trans hb h3⟩
  rcases h2 with h2 | ⟨g, cap, cur, hv, hbg, r⟩
  · exact .inl h2
  · exact .inr ⟨g, cap, cur, hv, Nat.le_trans hb hbg, r⟩
theorem Wd.lt {w : World} {T : Nat} {k : IntKind} {A : Option Addr} {xs : List Int} (h : Wd w T k A xs) : ∀ g o, A = some ⟨g, o, none⟩ → g < w.heap.size := by
  intro g o hA
  rcases h with ⟨_, h⟩ | ⟨g', off, cs, fz, hA', hg, _⟩
  · rw [h] at hA; cases hA
  · rw [hA'] at hA
    injection hA with hA
    injection hA with h1 _ _
    rw [← h1]; exact lt_of_blk hg
theorem Wd.bl {w w' : World} {T base : Nat} {k : IntKind} {A : Option Addr} {xs : List Int} (h : Wd w T k A xs) (e : Below base w w') (hlt : ∀ g o, A = some ⟨g, o, none⟩ → g < base) : Wd w' T k A xs := by
  rcases h with h | ⟨g, off, cs, fz, hA, hg, hc⟩
  · exact .inl h
  · exact .inr ⟨g, off, cs, fz, hA, bl_blk e hg (hlt g off hA), hc⟩
theorem Ow.lt {w : World} {base T c : Nat} {k : IntKind} {A : Option Addr} {L : List Int} (h : Ow w base T k A c L) : ∀ g o, A = some ⟨g, o, none⟩ → g < w.heap.size := h.wd.lt
theorem Ow.bl {w w' : World} {base base' T c : Nat} {k : IntKind} {A : Option Addr} {L : List Int} (h : Ow w base T k A c L) (e : Below base' w w') (hlt : ∀ g o, A = some ⟨g, o, none⟩ → g < base') : Ow w' base T k A c L := by
  obtain ⟨⟨h1, h2⟩, h3⟩ := h
  refine ⟨⟨h1, ?_⟩, Nat.le_trans h3 e.size⟩
  rcases h2 with h2 | ⟨g, cap, cur, hv, hbg, hg, r⟩
  · exact .inl h2
  · injection hv with hA _ hc
    exact .inr ⟨g, cap, cur, by rw [hA, hc], hbg, bl_blk e hg (hlt g 0 hA), r⟩
theorem RdI.lt {w : World} {k : IntKind} {A : Option Addr} {L : List Int} (h : RdI w k A L) (hp : 0 < L.length) : ∀ g o, A = some ⟨g, o, none⟩ → g < w.heap.size := by
  intro g o hA
  rcases h with h | ⟨g', off, T, cs, fz, hA', hg, _⟩
  · have := congrArg List.length h; simp at this; subst this; simp at hp
  · rw [hA'] at hA
    injection hA with hA
    injection hA with h1 _ _
    rw [← h1]; exact lt_of_blk hg
end Go.Proofs.YtmbpomcbdopgnaaDoor.Fw
set_option linter.unusedVariables false
set_option linter.unusedSimpArgs false
namespace Go.Proofs.YtmbpomcbdopgnaaDoor.Fw
open Go Go.RowKit
structure Bx (b : Nat) (w w' : World) : Prop where
  os : w'.os = w.os
  tape : w'.tape = w.tape
  output : w'.output = w.output
  size : w.heap.size ≤ w'.heap.size
  block : ∀ k, k < w.heap.size → k ≠ b → w'.heap[k]? = w.heap[k]?
theorem Bx.refl (b : Nat) (w : World) : Bx b w w := ⟨rfl, rfl, rfl, Nat.le_refl _, fun _ _ _ => rfl⟩
theorem Bx.trans {b : Nat} {w w1 w2 : World} (h : Bx b w w1) (h2 : Bx b w1 w2) : Bx b w w2 :=
  ⟨h2.os.trans h.os, h2.tape.trans h.tape, h2.output.trans h.output, Nat.le_trans h.size h2.size, fun k hk hb => (h2.block k (Nat.lt_of_lt_of_le hk h.size) hb).trans (h.block k hk hb)⟩
theorem bx_blk {b k : Nat} {w w' : World} {o : Obj} (e : Bx b w w') (h : w.heap[k]? = some o) (hne : k ≠ b) : w'.heap[k]? = some o := (e.block k (lt_of_blk h) hne).trans h
theorem RdI.bx {b : Nat} {w w' : World} {k : IntKind} {A : Option Addr} {L : List Int} (h : RdI w k A L) (e : Bx b w w') (hne : L = [] ∨ ∀ g o, A = some ⟨g, o, none⟩ → g ≠ b) : RdI w' k A L := by
  rcases hne with h0 | hne
  · subst h0; exact .inl rfl
  · rcases h with h | ⟨g, off, T, cs, fz, hA, hg, hc⟩
    · exact .inl h
    · exact .inr ⟨g, off, T, cs, fz, hA, bx_blk e hg (hne g off hA), hc⟩
theorem Wd.bx {w w' : World} {T T' b : Nat} {k : IntKind} {A : Option Addr} {xs : List Int} {cs' : Array Value} {fz' : Nat × Nat} (h : Wd w T k A xs) (e : Bx b w w') (hb : w.heap[b]? = some (.cells cs' T' fz')) (hT : T' ≠ T) : Wd w' T k A xs := by
  rcases h with h | ⟨g, off, cs, fz, hA, hg, hc⟩
  · exact .inl h
  · refine .inr ⟨g, off, cs, fz, hA, bx_blk e hg ?_, hc⟩
    intro he
    subst he
    rw [hg] at hb
    injection hb with hb
    injection hb with _ hb _
    exact hT hb.symm
theorem Num.bx {m T T' b s l c : Nat} {k : IntKind} {w w' : World} {neg : Bool} {A : Option Addr} {z : Int} {cs' : Array Value} {fz' : Nat × Nat} (h : Num m T k w neg A l c z s) (e : Bx b w w') (hb : w.heap[b]? = some (.cells cs' T' fz')) (hT : T' ≠ T) : Num m T k w' neg A l c z s := by
  obtain ⟨xs, h1, h2, h3, h4⟩ := h
  exact ⟨xs, h1, h2, h3.bx e hb hT, h4⟩
theorem Wc.bx {m T T' b l c : Nat} {k : IntKind} {w w' : World} {A : Option Addr} {x : Int} {cs' : Array Value} {fz' : Nat × Nat} (h : Wc m T k w A l c x) (e : Bx b w w') (hb : w.heap[b]? = some (.cells cs' T' fz')) (hT : T' ≠ T) : Wc m T k w' A l c x := by
  obtain ⟨xs, h1, h2, h3, h4⟩ := h
  exact ⟨xs, h1, h2, h3.bx e hb hT, h4⟩
theorem Ws.bx {m T T' b l c : Nat} {k : IntKind} {w w' : World} {A : Option Addr} {x : Int} {cs' : Array Value} {fz' : Nat × Nat} (h : Ws m T k w A l c x) (e : Bx b w w') (hb : w.heap[b]? = some (.cells cs' T' fz')) (hT : T' ≠ T) : Ws m T k w' A l c x := by
  obtain ⟨xs, h1, h2, h3, h4⟩ := h
  exact ⟨xs, h1, h2, h3.bx e hb hT, h4⟩
end Go.Proofs.YtmbpomcbdopgnaaDoor.Fw
set_option linter.unusedVariables false
set_option linter.unusedSimpArgs false
namespace Go.Proofs.YtmbpomcbdopgnaaDoor.Fw
open Go Go.RowKit
theorem okC_app {L M : List Int} (h : okW 256 L) (h2 : okW 256 M) : okW 256 (L ++ M) := fun c hc => (List.mem_append.1 hc).elim (h c) (h2 c)
theorem okC_one {c : Int} (h : 0 ≤ c ∧ c < 256) : okW 256 [c] := fun d hd => by
  have : d = c := by simpa using hd
  subst this; exact h
theorem okC_nil : okW 256 [] := fun d hd => by cases hd
end Go.Proofs.YtmbpomcbdopgnaaDoor.Fw
set_option linter.unusedVariables false
set_option linter.unusedSimpArgs false
namespace Go.Proofs.YtmbpomcbdopgnaaDoor.Fw
open Go Go.RowKit
def pFit (x y u : Int) : Prop := u ≠ 0 ∧ sm3 (pPt x y u x) (pPt x y u y) (pPt x y u u)
instance (x y u : Int) : Decidable (pFit x y u) := by unfold pFit; infer_instance
end Go.Proofs.YtmbpomcbdopgnaaDoor.Fw
set_option linter.unusedVariables false
set_option linter.unusedSimpArgs false
namespace Go.Proofs.YtmbpomcbdopgnaaDoor.Fw
open Go Go.RowKit
theorem valD_take {cs : List Int} {i : Nat} (h : i < cs.length) : valD (cs.take (i + 1)) = valD (cs.take i) * 10 + (cs.getD i 0 - 48) := by
  rw [List.take_succ_eq_append_getElem h, valD_snoc]
  simp [List.getD_eq_getElem?_getD, h]
theorem valD_lt : ∀ (n : Nat) {cs : List Int}, cs.length = n → (∀ c ∈ cs, isD c) → valD cs < 10 ^ n := by
  intro n
  induction n with
  | zero => intro cs hl _; have : cs = [] := List.eq_nil_of_length_eq_zero hl; subst this; decide
  | succ n ih =>
    intro cs hl h
    have hs := list_snoc cs (by omega)
    rw [hs, valD_snoc, Int.pow_succ]
    have h1 := ih (cs := cs.take (cs.length - 1)) (by simp; omega) fun c hc => h c (List.mem_of_mem_take hc)
    have h2 := h (cs.getD (cs.length - 1) 0) (by
      rw [List.getD_eq_getElem?_getD, List.getElem?_eq_getElem (by omega)]; exact List.getElem_mem _)
    unfold isD at h2; omega
theorem valD_sz {cs : List Int} {s : Nat} (h : ∀ c ∈ cs, isD c) (hl : 4 * cs.length ≤ s) : (valD cs).natAbs < 2 ^ s := by
  have h1 := valD_nonneg _ rfl h
  have h2 := valD_lt _ rfl h
  have h3 : (10 : Int) ^ cs.length ≤ 2 ^ s := by
    have e : ((10 : Nat) ^ cs.length) ≤ 2 ^ s := by
      refine Nat.le_trans (Nat.pow_le_pow_left (show 10 ≤ 2 ^ 4 by decide) _) ?_
      rw [← Nat.pow_mul]
      exact Nat.pow_le_pow_right (by decide) hl
    exact_mod_cast e
  have e2 : ((2 ^ s : Nat) : Int) = 2 ^ s := by simp
  omega
theorem isD_take {cs : List Int} {i : Nat} (h : i < cs.length) (h1 : ∀ c ∈ cs.take i, isD c) (h2 : isD (cs.getD i 0)) : ∀ c ∈ cs.take (i + 1), isD c := by
  rw [List.take_succ_eq_append_getElem h]
  intro c hc
  rcases List.mem_append.1 hc with h3 | h3
  · exact h1 c h3
  · have e : c = cs.getD i 0 := by simpa [List.getD_eq_getElem?_getD, h] using h3
    rw [e]; exact h2
theorem not_isD {cs : List Int} {i : Nat} (h : i < cs.length) (h2 : ¬ isD (cs.getD i 0)) : ¬ ∀ c ∈ cs, isD c := fun hh => h2 (hh _ (by
  rw [List.getD_eq_getElem?_getD, List.getElem?_eq_getElem h]; exact List.getElem_mem _))
theorem digD_t {L : List Int} (h : L.getD 0 0 = 45) : digD L = L.drop 1 ∧ negD L = true := ⟨by unfold digD; rw [if_pos h], decide_eq_true h⟩
theorem digD_f {L : List Int} (h : ¬ L.getD 0 0 = 45) : digD L = L ∧ negD L = false := ⟨by unfold digD; rw [if_neg h], decide_eq_false h⟩
theorem digD_len (L : List Int) : (digD L).length ≤ L.length ∧ L.length ≤ (digD L).length + 1 := by
  unfold digD; split <;> simp <;> omega
theorem digD_ok {L : List Int} (h : okW 256 L) : okW 256 (digD L) := by
  unfold digD; split
  · exact fun c hc => h c (List.mem_of_mem_drop hc)
  · exact h
theorem okW_drop {B : Int} {L : List Int} (h : okW B L) (i : Nat) : okW B (L.drop i) := fun c hc => h c (List.mem_of_mem_drop hc)
theorem okW_take {B : Int} {L : List Int} (h : okW B L) (i : Nat) : okW B (L.take i) := fun c hc => h c (List.mem_of_mem_take hc)
theorem canD_txt (z : Int) : canD (txtL z) ∧ numD (txtL z) = z := by
  have h0 : numD (txtL z) = z := by
    by_cases hz : z = 0
    · subst hz; decide
    · have hd : ∀ c ∈ dg z.natAbs, 48 ≤ c ∧ c ≤ 57 := dg_rg _
      have hne : dg z.natAbs ≠ [] := fun h => hz (by have := dg_nil.1 h; omega)
      have hv := valD_dg z.natAbs
      by_cases hn : z < 0
      · have e : txtL z = 45 :: (dg z.natAbs).reverse := by unfold txtL; rw [if_pos hn, if_neg hz]; rfl
        rw [e]
        unfold numD negD digD
        simp only [List.getD_cons_zero, decide_true, if_true, List.drop_succ_cons, List.drop_zero, sg, hv]
        omega
      · have e : txtL z = (dg z.natAbs).reverse := by unfold txtL; rw [if_neg hn, if_neg hz]; rfl
        rw [e]
        have h45 : ¬ (dg z.natAbs).reverse.getD 0 0 = 45 := by
          have hl : 0 < (dg z.natAbs).reverse.length := by
            rw [List.length_reverse]; cases hq : dg z.natAbs with
            | nil => exact absurd hq hne
            | cons a b => simp
          have hm : (dg z.natAbs).reverse.getD 0 0 ∈ dg z.natAbs := by
            rw [List.getD_eq_getElem?_getD, List.getElem?_eq_getElem hl]
            exact List.mem_reverse.1 (List.getElem_mem _)
          have := hd _ hm
          omega
        unfold numD
        rw [(digD_f h45).1, (digD_f h45).2, hv]
        simp [sg]; omega
  refine ⟨?_, h0⟩
  unfold canD; rw [h0]
end Go.Proofs.YtmbpomcbdopgnaaDoor.Fw
set_option linter.unusedVariables false
set_option linter.unusedSimpArgs false
namespace Go.Proofs.YtmbpomcbdopgnaaDoor.Fw
def spotOk (x y : Int) : Prop := (-1000000 ≤ x ∧ x ≤ 1000000) ∧ -1000000 ≤ y ∧ y ≤ 1000000
instance (x y : Int) : Decidable (spotOk x y) := by unfold spotOk; infer_instance
def spotLt (ax ay bx b_y : Int) : Prop := ax < bx ∨ (ax = bx ∧ ay < b_y)
instance (ax ay bx b_y : Int) : Decidable (spotLt ax ay bx b_y) := by unfold spotLt; infer_instance
def segOk (ax ay bx b_y : Int) : Prop := spotOk ax ay ∧ spotOk bx b_y ∧ spotLt ax ay bx b_y
instance (ax ay bx b_y : Int) : Decidable (segOk ax ay bx b_y) := by unfold segOk; infer_instance
def onV (ax ay bx b_y x y u : Int) : Prop := pc ax ay 1 x y u ≤ 0 ∧ pc x y u bx b_y 1 ≤ 0 ∧ sideV ax ay bx b_y x y u = 0
instance (ax ay bx b_y x y u : Int) : Decidable (onV ax ay bx b_y x y u) := by unfold onV; infer_instance
end Go.Proofs.YtmbpomcbdopgnaaDoor.Fw
set_option linter.unusedVariables false
set_option linter.unusedSimpArgs false
namespace Go.Proofs.YtmbpomcbdopgnaaDoor.Fw
open Go Go.RowKit
instance (L : List Int) : Decidable (formD L) := by unfold formD; infer_instance
abbrev fz (z : Int) : Int := pkz (fits z) z
theorem okD {L D : List Int} (h : digD L = D) (hL : okW 256 L) : okW 256 D := h ▸ digD_ok hL
theorem getD0 {L : List Int} (h : ¬ (0 : Int) < (L.length : Int)) : ¬ L.getD 0 0 = 45 := by
  have h0 : L = [] := List.eq_nil_of_length_eq_zero (by omega)
  subst h0; decide
theorem formD_iff {L D : List Int} {ng : Bool} (hD : digD L = D) (hn : negD L = ng) : formD L ↔ 0 < D.length ∧ (∀ c ∈ D, isD c) ∧ (D.getD 0 0 = 48 → ng = false ∧ D.length = 1) := by
  subst hD; subst hn; exact Iff.rfl
theorem not_formD {L D : List Int} {i : Nat} (hD : digD L = D) (hi : i < D.length) (h : ¬ isD (D.getD i 0)) : ¬ formD L := fun hh => not_isD hi h (hD ▸ hh.2.1)
theorem numD_of {L D : List Int} {ng : Bool} {i : Nat} (hD : digD L = D) (hn : negD L = ng) (hi : D.length ≤ i) (hdg : ∀ c ∈ D.take i, isD c) : sg ng ((valD (D.take i)).natAbs : Int) = numD L ∧ ∀ c ∈ D, isD c := by
  rw [List.take_of_length_le hi] at hdg ⊢
  have h0 := valD_nonneg _ rfl hdg
  refine ⟨?_, hdg⟩
  unfold numD; rw [hD, hn]
  congr 1; omega
theorem numD_of2 {L D : List Int} {ng : Bool} {i : Nat} (hD : digD L = D) (hn : negD L = ng) (hi : D.length ≤ i) : sg ng (valD (D.take i)) = numD L := by
  rw [List.take_of_length_le hi]
  unfold numD; rw [hD, hn]
end Go.Proofs.YtmbpomcbdopgnaaDoor.Fw
set_option linter.unusedVariables false
namespace Go.Proofs.YtmbpomcbdopgnaaDoor.Fw
open Go Go.RowKit
theorem ok_str {P : Program} {w : World} {r : Reach} {base : Nat} {t : TypeId} {v : Value} (ht : P.underlying t = some .string) (h : Value.okWide P w r base t v) : ∃ s : ByteArray, v = .string s ∧ (s.size : Int) ≤ IntKind.i64.max := by
  unfold Value.okWide at h
  rw [ht] at h
  simp only at h
  unfold Cell.okWide at h
  rw [ht] at h
  simp only at h
  unfold Cell.ok at h
  rw [ht] at h
  cases v <;> simp only at h
  exact ⟨_, rfl, h⟩
theorem okC_lit (l : List Int) (h : l.all (fun x => decide (0 ≤ x ∧ x < 256)) = true) : okW 256 l := fun c hc => by
  have := List.all_eq_true.1 h c hc
  simpa using this
end Go.Proofs.YtmbpomcbdopgnaaDoor.Fw
set_option linter.unusedVariables false
set_option linter.unusedSimpArgs false
namespace Go.Proofs.YtmbpomcbdopgnaaDoor.Fw
open Go Go.RowKit
def Ors (w : World) (base T : Nat) (A : Option Addr) (c : Nat) (L : List (List Int)) : Prop := w.ownsRow base T 1 (.slice A L.length c) L.length (L.map fun s => Value.string (bOf s)) ∧ base ≤ w.heap.size
theorem Ors.ext {w w' : World} {base T c : Nat} {A : Option Addr} {L : List (List Int)} (h : Ors w base T A c L) (e : Ext w w') : Ors w' base T A c L := ⟨own_keep h.1 fun g o hg _ _ => e.blk hg, Nat.le_trans h.2 e.size⟩
theorem Ors.st {w w' : World} {base T T' b c : Nat} {A : Option Addr} {L : List (List Int)} {cs' : Array Value} {fz' : Nat × Nat} (h : Ors w base T A c L) (e : St b w w') (hb : w.heap[b]? = some (.cells cs' T' fz')) (hT : T' ≠ T) : Ors w' base T A c L :=
  ⟨own_keep h.1 fun g o hg _ ⟨cs, fz, ho⟩ => e.blk hg (fun he => by
    subst he; subst ho
    rw [hg] at hb
    injection hb with hb
    injection hb with _ hb _
    exact hT hb.symm), by rw [e.size]; exact h.2⟩
theorem Ors.cap {w : World} {base T c : Nat} {A : Option Addr} {L : List (List Int)} (h : Ors w base T A c L) : L.length ≤ c := by
  rcases h.1.2 with ⟨hv, hn⟩ | ⟨g, cap, cur, hv, hb, hg, h1, h2, h3, h4⟩
  · omega
  · injection hv with _ _ hc
    omega
theorem Ors.at {w : World} {base T c : Nat} {A : Option Addr} {L : List (List Int)} (h : Ors w base T A c L) (hp : 0 < L.length) : ∃ g o, A = some ⟨g, o, none⟩ := by
  rcases h.1.2 with ⟨hv, hn⟩ | ⟨g, cap, cur, hv, hb, hg, h1, h2, h3, h4⟩
  · omega
  · injection hv with hA _ _
    exact ⟨_, _, hA⟩
theorem Ors.cell {w : World} {base T c g o : Nat} {L : List (List Int)} (h : Ors w base T (some ⟨g, o, none⟩) c L) {i : Nat} (hi : i < L.length) : w.cell? ⟨g, o + i, none⟩ = some (.string (bOf (L.getD i []))) := by
  rcases h.1.2 with ⟨hv, hn⟩ | ⟨g', cap, cur, hv, hb, hg, h1, h2, h3, h4⟩
  · omega
  · injection hv with hA _ hc
    injection hA with hA
    injection hA with h5 h6 _
    subst h5; subst h6
    rw [Nat.zero_add, cell_of_row w g i cur T _ hg]
    have h5 : (cur.toList.take (L.length * 1))[i]? = (L.map fun s => Value.string (bOf s))[i]? := by rw [h4]
    rw [List.getElem?_take_of_lt (by omega), List.getElem?_map, List.getElem?_eq_getElem hi] at h5
    simpa [List.getD_eq_getElem?_getD, List.getElem?_eq_getElem hi] using h5
theorem Ors.off {w : World} {base T c g o : Nat} {L : List (List Int)} (h : Ors w base T (some ⟨g, o, none⟩) c L) : o = 0 ∧ base ≤ g := by
  rcases h.1.2 with ⟨hv, hn⟩ | ⟨g', cap, cur, hv, hb, hg, h1, h2, h3, h4⟩
  · injection hv with hA _ _
    cases hA
  · injection hv with hA _ hc
    injection hA with hA
    injection hA with h5 h6 h7
    subst h5
    exact ⟨h6, hb⟩
theorem Ors.full {w' : World} {b T : Nat} {L : List (List Int)} {l : List Value} (h : w'.heap[b]? = some (.cells l.toArray T)) (hl : l = L.map fun s => Value.string (bOf s)) (hc : L.length ≤ 281474976710656) : Ors w' b T (some ⟨b, 0, none⟩) L.length L := by
  subst hl
  exact ⟨⟨by simp, .inr ⟨b, L.length, _, rfl, Nat.le_refl _, h, Nat.le_refl _, by simp only [maxLen]; omega, by simp, by simp [List.take_of_length_le]⟩⟩, Nat.le_of_lt (lt_of_blk h)⟩
theorem Ors.bl {w w' : World} {base base' T c : Nat} {A : Option Addr} {L : List (List Int)} (h : Ors w base T A c L) (e : Below base' w w') (hlt : ∀ g o, A = some ⟨g, o, none⟩ → g < base') : Ors w' base T A c L := by
  obtain ⟨⟨h1, h2⟩, h3⟩ := h
  refine ⟨⟨h1, ?_⟩, Nat.le_trans h3 e.size⟩
  rcases h2 with h2 | ⟨g, cap, cur, hv, hbg, hg, r⟩
  · exact .inl h2
  · injection hv with hA _ hc
    exact .inr ⟨g, cap, cur, by rw [hA, hc], hbg, bl_blk e hg (hlt g 0 hA), r⟩
theorem strs_oneCell (L : List (List Int)) : ∀ u ∈ L.map (fun s => Value.string (bOf s)), u.oneCell' = true := by
  intro u hu
  obtain ⟨s, _, rfl⟩ := List.mem_map.1 hu
  rfl
theorem bt_of_grownS {w w' : World} {base T c : Nat} {A : Option Addr} {L : List (List Int)} (hO : Ors w base T A c L) (h : w.grownBy w' (Value.ownBlock (.slice A L.length c))) : Bt T w w' := ⟨fun g o hg hne => by
  have hk := lt_of_blk hg
  refine (h.block g hk (fun he => ?_)).trans hg
  rcases hO.1.2 with ⟨hv, hn⟩ | ⟨g', cap, cur, hv, hb, hg', _⟩
  · injection hv with hA _ _
    rw [hA] at he
    simp [Value.ownBlock] at he
  · injection hv with hA _ _
    rw [hA] at he
    simp [Value.ownBlock] at he
    subst he
    rw [hg'] at hg
    exact hne _ _ (Option.some.inj hg).symm⟩
section
variable {P : Program} {n : Nat} {fr : Fr} {w : World} {ty : TypeId}
theorem oe_appendS {t e : TypeId} {x y : Operand} {A : Option Addr} {c base bytes g c2 T2 : Nat} {L : List (List Int)} {M : List Int} {K : Value → World → Prop} (ht : P.underlying t = some (.slice e))
    (hi : (P.info? e).map (fun i => (i.zero, i.size, i.bytes)) = some (some (.string ⟨#[]⟩), 1, bytes)) (hx : EV n fr x (.slice A L.length c)) (hy : EV n fr y (.slice (some ⟨g, 0, none⟩) 1 c2))
    (hO : Ors w base e A c L) (hg : w.heap[g]? = some (.cells #[.string (bOf M)] T2)) (hb : (L.length + 1) * bytes ≤ 140737488355328) (hl : L.length + 1 ≤ 140737488355328)
    (h : ∀ A' c' w', Ors w' base e A' c' (L ++ [M]) → Below base w w' → Bt e w w' → K (.slice A' (L ++ [M]).length c') w') : OE P n (.call { callee := .builtin .append, args := #[x, y], argTypes := #[t, t] }) ty fr w K := by
  cases hin : P.info? e with
  | none => simp [hin] at hi
  | some inf =>
    simp only [hin, Option.map_some, Option.some.injEq, Prod.mk.injEq] at hi
    obtain ⟨h1, h2, h3⟩ := hi
    obtain ⟨v', w', hr, hown, hgr, _⟩ := run_append_own (P := P) w base t ty e inf (.string ⟨#[]⟩) 1 bytes ht hin h1 h2 h3 rfl (by decide) (.slice A L.length c) L.length _ hO.1 ⟨g, 0, none⟩ 1 c2 ([M].map fun s => Value.string (bOf s)) (by simp)
      (fun j u hj => by
        have hjl : j = 0 := by have := (List.getElem?_eq_some_iff.1 hj).1; simp at this; exact this
        subst hjl
        have ha : (⟨g, 0, none⟩ : Addr).add 0 = ⟨g, 0 + 0, none⟩ := by unfold Addr.add; split <;> simp_all
        rw [ha, cell_of_row w g (0 + 0) _ T2 _ hg]
        simpa using hj) (strs_oneCell [M]) (by simp only [maxLen]; omega) hb hO.2
    obtain ⟨A', c', rfl⟩ := own_slice hown
    have hO' : Ors w' base e A' c' (L ++ [M]) := by
      unfold Ors
      rw [List.length_append, List.map_append]
      exact ⟨hown, Nat.le_trans hO.2 hgr.size⟩
    have hr' : (Builtin.append_ #[t, t] ty #[.slice A L.length c, .slice (some ⟨g, 0, none⟩) 1 c2]).run P w = .ok (.slice A' (L ++ [M]).length c') w' := by rw [List.length_append]; exact hr
    refine OE.of_run (fun _ _ _ _ => ?_) (h A' c' w' hO' (below_of_grown hgr hO.2 (own_row_ge hO.1)) (bt_of_grownS hO hgr))
    unfold EV at hx hy
    simp only [execOp, resolve, invoke, builtin, hx, hy, hr', List.map_toArray, List.map_cons, List.map_nil, Sem.run_bind, Sem.run_pure, Result.andThen_ok]
end
end Go.Proofs.YtmbpomcbdopgnaaDoor.Fw
set_option linter.unusedVariables false
set_option linter.unusedSimpArgs false
namespace Go.Proofs.YtmbpomcbdopgnaaDoor.Fw
theorem take_eq {xs ys : List Int} {i m : Nat} (h : xs.take i = ys.take i) (hx : i + m ≤ xs.length) (hy : i + m ≤ ys.length) (hj : ∀ j, j < m → xs.getD (i + j) 0 = ys.getD (i + j) 0) : xs.take (i + m) = ys.take (i + m) := by
  rw [List.take_add, List.take_add, h]
  congr 1
  apply List.ext_getElem (by simp; omega)
  intro j h1 h2
  simp at h1 h2
  have := hj j (by omega)
  simpa [List.getD_eq_getElem?_getD, show i + j < xs.length by omega, show i + j < ys.length by omega] using this
theorem take_eq1 {xs ys : List Int} {i : Nat} (h : xs.take i = ys.take i) (hx : i + 1 ≤ xs.length) (hy : i + 1 ≤ ys.length) (h0 : xs.getD i 0 = ys.getD i 0) : xs.take (i + 1) = ys.take (i + 1) :=
  take_eq h hx hy fun j hj => by obtain rfl : j = 0 := by omega
                                 exact h0
theorem take_eq2 {xs ys : List Int} {i : Nat} (h : xs.take i = ys.take i) (hx : i + 2 ≤ xs.length) (hy : i + 2 ≤ ys.length) (h0 : xs.getD i 0 = ys.getD i 0) (h1 : xs.getD (i + 1) 0 = ys.getD (i + 1) 0) : xs.take (i + 2) = ys.take (i + 2) :=
  take_eq h hx hy fun j hj => by
    rcases (show j = 0 ∨ j = 1 by omega) with rfl | rfl
    · exact h0
    · exact h1
theorem take_all {xs ys : List Int} {i : Nat} (h : xs.take i = ys.take i) (hx : xs.length ≤ i) (hy : ys.length ≤ i) : xs = ys := by
  rwa [List.take_of_length_le hx, List.take_of_length_le hy] at h
abbrev segAt (xs : List Int) (i : Nat) : Prop := segOk (xs.getD (i * 4) 0) (xs.getD (i * 4 + 1) 0) (xs.getD (i * 4 + 2) 0) (xs.getD (i * 4 + 3) 0)
def segsOk (l : Nat) (xs : List Int) : Prop := ∀ k, k < l → segAt xs k
instance (l : Nat) (xs : List Int) : Decidable (segsOk l xs) := by unfold segsOk; infer_instance
theorem all_step {P : Nat → Prop} {i : Nat} (h : ∀ k, k < i → P k) (hi : P i) : ∀ k, k < i + 1 → P k := fun k hk => by
  rcases Nat.lt_or_ge k i with h1 | h1
  · exact h k h1
  · obtain rfl : k = i := by omega
    exact hi
end Go.Proofs.YtmbpomcbdopgnaaDoor.Fw
set_option linter.unusedVariables false
set_option linter.unusedSimpArgs false
namespace Go.Proofs.YtmbpomcbdopgnaaDoor.Fw
def hitS (l : Nat) (xs : List Int) (x y u : Int) : Prop := (l ≤ 40 ∧ segsOk l xs) ∧ pOk x y u
instance (l : Nat) (xs : List Int) (x y u : Int) : Decidable (hitS l xs x y u) := by unfold hitS; infer_instance
def mkL (k : Int) (n : Nat) : List Int := (List.range n).map fun (i : Nat) => k + (i : Int)
theorem mkL_len (k : Int) (n : Nat) : (mkL k n).length = n := by simp [mkL]
theorem mkL_getD {k : Int} {n i : Nat} (h : i < n) : (mkL k n).getD i 0 = k + i := by simp [mkL, List.getD_eq_getElem?_getD, h]
theorem mkL_step {M : List Int} {k : Int} {n i : Nat} (h : M.take i = (mkL k n).take i) (hl : M.length = n) (hi : i < n) : (M.set i (k + i)).take (i + 1) = (mkL k n).take (i + 1) := by
  have hs : (M.set i (k + i)).take i = (mkL k n).take i := by rw [List.take_set, List.set_eq_of_length_le (by simp; omega), h]
  refine take_eq1 hs (by simp; omega) (by simp [mkL_len]; omega) ?_
  rw [mkL_getD hi]
  simp [List.getD_eq_getElem?_getD, hl, hi]
end Go.Proofs.YtmbpomcbdopgnaaDoor.Fw
set_option linter.unusedVariables false
set_option linter.unusedSimpArgs false
namespace Go.Proofs.YtmbpomcbdopgnaaDoor.Fw
open Go Go.RowKit
structure Ev where
  x : Int
  y : Int
  u : Int
  es : List Int
abbrev SlF := Nat → Option Addr × Nat
def evAt (cs : Nat → Option Value) (i : Nat) (ws : Nat → Int) (A : Option Addr) (n c : Nat) : Prop :=
  (∀ j, j < 12 → cs (i * 13 + j) = some (.int .u64 (ws j))) ∧ cs (i * 13 + 12) = some (.slice A n c)
structure NR (w : World) (lo hi : Nat) (A : Option Addr) (l : Nat) (W : Nat → Nat → Int) (E : Nat → List Int) (SL : SlF) : Prop where
  lh : hi ≤ w.heap.size
  row : l = 0 ∨ ∃ (g off T : Nat) (cs : Array Value) (fz : Nat × Nat), A = some ⟨g, off, none⟩ ∧ w.heap[g]? = some (.cells cs T fz) ∧ (lo ≤ g ∧ g < hi) ∧ ∀ i, i < l → evAt (fun k => cs[off + k]?) i (W i) (SL i).1 (E i).length (SL i).2
  inner : ∀ i, i < l → (E i).length ≤ (SL i).2 ∧ RdI w .i64 (SL i).1 (E i) ∧ ∀ g o, (SL i).1 = some ⟨g, o, none⟩ → E i ≠ [] → lo ≤ g ∧ g < hi
structure Mid (lo hi : Nat) (x : Int) (w w' : World) : Prop where
  os : w'.os = w.os
  tape : w'.tape = w.tape
  output : w'.output = w.output
  size : w.heap.size ≤ w'.heap.size
  block : ∀ k, k < w.heap.size → (k < lo ∨ hi ≤ k ∨ (k : Int) = x) → w'.heap[k]? = w.heap[k]?
theorem Mid.refl (lo hi : Nat) (x : Int) (w : World) : Mid lo hi x w w := ⟨rfl, rfl, rfl, Nat.le_refl _, fun _ _ _ => rfl⟩
theorem Mid.trans {lo hi : Nat} {x : Int} {w w1 w2 : World} (h : Mid lo hi x w w1) (h2 : Mid lo hi x w1 w2) : Mid lo hi x w w2 :=
  ⟨h2.os.trans h.os, h2.tape.trans h.tape, h2.output.trans h.output, Nat.le_trans h.size h2.size, fun k hs hk => (h2.block k (Nat.lt_of_lt_of_le hs h.size) hk).trans (h.block k hs hk)⟩
theorem Ext.mid {lo hi : Nat} {x : Int} {w w' : World} (h : Ext w w') : Mid lo hi x w w' := ⟨h.os, h.tape, h.output, h.size, fun k hs _ => h.block k hs⟩
theorem St.mid {lo hi b : Nat} {x : Int} {w w' : World} (h : St b w w') (h1 : lo ≤ b) (h2 : b < hi) (h3 : (b : Int) ≠ x) : Mid lo hi x w w' :=
  ⟨h.os, h.tape, h.output, Nat.le_of_eq h.size.symm, fun k _ hk => h.block k (by omega)⟩
theorem RdI.keep {w w' : World} {k : IntKind} {A : Option Addr} {L : List Int} (h : RdI w k A L) (hk : ∀ g o ob, A = some ⟨g, o, none⟩ → L ≠ [] → w.heap[g]? = some ob → w'.heap[g]? = some ob) : RdI w' k A L := by
  rcases h with h | ⟨g, off, T, cs, fz, hA, hg, hc⟩
  · exact .inl h
  · by_cases hL : L = []
    · exact .inl (by rw [hL]; rfl)
    · exact .inr ⟨g, off, T, cs, fz, hA, hk g off _ hA hL hg, hc⟩
section
variable {w w' : World} {lo hi : Nat} {A : Option Addr} {l : Nat} {W : Nat → Nat → Int} {E : Nat → List Int} {SL : SlF}
theorem NR.keep (h : NR w lo hi A l W E SL) (hs : w.heap.size ≤ w'.heap.size) (hk : ∀ g ob, lo ≤ g → g < hi → w.heap[g]? = some ob → w'.heap[g]? = some ob) : NR w' lo hi A l W E SL := by
  refine ⟨Nat.le_trans h.lh hs, ?_, fun i hi' => ?_⟩
  · rcases h.row with h | ⟨g, off, T, cs, fz, hA, hg, hr, hc⟩
    · exact .inl h
    · exact .inr ⟨g, off, T, cs, fz, hA, hk g _ hr.1 hr.2 hg, hr, hc⟩
  · obtain ⟨h1, h2, h3⟩ := h.inner i hi'
    exact ⟨h1, h2.keep fun g o ob hA hL hg => hk g ob (h3 g o hA hL).1 (h3 g o hA hL).2 hg, h3⟩
theorem NR.ext (h : NR w lo hi A l W E SL) (e : Ext w w') : NR w' lo hi A l W E SL := h.keep e.size fun _ _ _ _ hg => e.blk hg
theorem NR.mid {lo' hi' : Nat} {x' : Int} (h : NR w lo hi A l W E SL) (e : Mid lo' hi' x' w w') (hd : hi ≤ lo' ∨ hi' ≤ lo) : NR w' lo hi A l W E SL :=
  h.keep e.size fun g _ h1 h2 hg => (e.block g (lt_of_blk hg) (by omega)).trans hg
theorem NR.bl {base : Nat} (h : NR w lo hi A l W E SL) (e : Below base w w') (hd : hi ≤ base) : NR w' lo hi A l W E SL :=
  h.keep e.size fun g _ h1 h2 hg => (e.block g (by omega)).trans hg
theorem NR.st {b : Nat} (h : NR w lo hi A l W E SL) (e : St b w w') (hd : hi ≤ b ∨ b < lo) : NR w' lo hi A l W E SL :=
  h.keep (Nat.le_of_eq e.size.symm) fun g _ h1 h2 hg => (e.block g (by omega)).trans hg
theorem NR.at (h : NR w lo hi A l W E SL) (hp : 0 < l) : ∃ g o, A = some ⟨g, o, none⟩ := by
  rcases h.row with h | ⟨g, off, T, cs, fz, hA, hg, hr, hc⟩
  · omega
  · exact ⟨g, off, hA⟩
theorem NR.cells {g o : Nat} (h : NR w lo hi (some ⟨g, o, none⟩) l W E SL) {i : Nat} (hi' : i < l) : evAt (fun k => w.cell? ⟨g, o + k, none⟩) i (W i) (SL i).1 (E i).length (SL i).2 := by
  rcases h.row with h | ⟨g', off, T, cs, fz, hA, hg, hr, hc⟩
  · omega
  · obtain ⟨rfl, rfl⟩ : g = g' ∧ o = off := by simpa using hA
    have hcell : ∀ k, w.cell? ⟨g, o + k, none⟩ = cs[o + k]? := fun k => cell_of_row w g (o + k) cs T fz hg
    obtain ⟨h1, h2⟩ := hc i hi'
    exact ⟨fun j hj => (hcell _).trans (h1 j hj), (hcell _).trans h2⟩
theorem NR.sl {g o : Nat} (h : NR w lo hi (some ⟨g, o, none⟩) l W E SL) {i : Nat} (hi' : i < l) : w.cell? ⟨g, o + (i * 13 + 12), none⟩ = some (.slice (SL i).1 (E i).length (SL i).2) := (h.cells hi').2
theorem NR.rd (h : NR w lo hi A l W E SL) {i : Nat} (hi' : i < l) : RdI w .i64 (SL i).1 (E i) := (h.inner i hi').2.1
theorem NR.cap (h : NR w lo hi A l W E SL) {i : Nat} (hi' : i < l) : (E i).length ≤ (SL i).2 := (h.inner i hi').1
theorem NR.congr {W' : Nat → Nat → Int} {E' : Nat → List Int} (h : NR w lo hi A l W E SL) (hW : ∀ i, i < l → ∀ j, j < 12 → W' i j = W i j) (hE : ∀ i, i < l → E' i = E i) : NR w lo hi A l W' E' SL := by
  refine ⟨h.lh, ?_, fun i hi' => by rw [hE i hi']; exact h.inner i hi'⟩
  rcases h.row with h | ⟨g, off, T, cs, fz, hA, hg, hr, hc⟩
  · exact .inl h
  · refine .inr ⟨g, off, T, cs, fz, hA, hg, hr, fun i hi' => ?_⟩
    obtain ⟨h1, h2⟩ := hc i hi'
    exact ⟨fun j hj => by rw [h1 j hj, hW i hi' j hj], by rw [hE i hi']; exact h2⟩
end
structure NO (w : World) (lo hi : Nat) (x : Int) (T T' : Nat) (A : Option Addr) (l c : Nat) (W : Nat → Nat → Int) (E : Nat → List Int) (SL : SlF) : Prop where
  lh : lo ≤ hi ∧ hi ≤ w.heap.size
  lc : l ≤ c
  row : c = 0 ∨ ∃ (g off : Nat) (cs : List Value), A = some ⟨g, off, none⟩ ∧ w.heap[g]? = some (.cells cs.toArray T) ∧ ((lo ≤ g ∧ g < hi) ∧ (g : Int) ≠ x) ∧ off + c * 13 ≤ cs.length ∧ ∀ i, i < l → evAt (fun k => cs[off + k]?) i (W i) (SL i).1 (E i).length (SL i).2
  inner : ∀ i, i < l → Ow w lo T' .i64 (SL i).1 (SL i).2 (E i) ∧ ∀ b o, (SL i).1 = some ⟨b, o, none⟩ → (b < hi ∧ (b : Int) ≠ x) ∧ ∀ i', i' < l → i' ≠ i → ∀ b' o', (SL i').1 = some ⟨b', o', none⟩ → b' ≠ b
theorem Ow.keep {w w' : World} {base T c : Nat} {k : IntKind} {A : Option Addr} {L : List Int} (h : Ow w base T k A c L) (hs : w.heap.size ≤ w'.heap.size) (hk : ∀ g o ob, A = some ⟨g, o, none⟩ → w.heap[g]? = some ob → w'.heap[g]? = some ob) : Ow w' base T k A c L := by
  obtain ⟨⟨h1, h2⟩, h3⟩ := h
  refine ⟨⟨h1, ?_⟩, Nat.le_trans h3 hs⟩
  rcases h2 with h2 | ⟨g, cap, cur, hv, hb, hg, r⟩
  · exact .inl h2
  · refine .inr ⟨g, cap, cur, hv, hb, hk g 0 _ ?_ hg, r⟩
    injection hv
section
variable {w w' : World} {lo hi T T' : Nat} {x : Int} {A : Option Addr} {l c : Nat} {W : Nat → Nat → Int} {E : Nat → List Int} {SL : SlF}
theorem NO.keep (h : NO w lo hi x T T' A l c W E SL) (hs : w.heap.size ≤ w'.heap.size) (hk : ∀ g ob, lo ≤ g → g < hi → (g : Int) ≠ x → w.heap[g]? = some ob → w'.heap[g]? = some ob) : NO w' lo hi x T T' A l c W E SL := by
  refine ⟨⟨h.lh.1, Nat.le_trans h.lh.2 hs⟩, h.lc, ?_, fun i hi' => ?_⟩
  · rcases h.row with h | ⟨g, off, cs, hA, hg, hr, hc⟩
    · exact .inl h
    · exact .inr ⟨g, off, cs, hA, hk g _ hr.1.1 hr.1.2 hr.2 hg, hr, hc⟩
  · obtain ⟨h1, h2⟩ := h.inner i hi'
    exact ⟨h1.keep hs fun g o ob hA hg => hk g ob (h1.ge hA) (h2 g o hA).1.1 (h2 g o hA).1.2 hg, h2⟩
theorem NO.ext (h : NO w lo hi x T T' A l c W E SL) (e : Ext w w') : NO w' lo hi x T T' A l c W E SL := h.keep e.size fun _ _ _ _ _ hg => e.blk hg
theorem NO.mid {lo' hi' : Nat} {x' : Int} (h : NO w lo hi x T T' A l c W E SL) (e : Mid lo' hi' x' w w') (hd : hi ≤ lo' ∨ hi' ≤ lo ∨ ((lo' : Int) = x ∧ hi' ≤ lo' + 1)) : NO w' lo hi x T T' A l c W E SL :=
  h.keep e.size fun g _ h1 h2 _ hg => (e.block g (lt_of_blk hg) (by omega)).trans hg
theorem NO.bl {base : Nat} (h : NO w lo hi x T T' A l c W E SL) (e : Below base w w') (hd : hi ≤ base) : NO w' lo hi x T T' A l c W E SL :=
  h.keep e.size fun g _ h1 h2 _ hg => (e.block g (by omega)).trans hg
theorem NO.st {b : Nat} (h : NO w lo hi x T T' A l c W E SL) (e : St b w w') (hd : hi ≤ b ∨ b < lo ∨ (b : Int) = x) : NO w' lo hi x T T' A l c W E SL :=
  h.keep (Nat.le_of_eq e.size.symm) fun g _ h1 h2 h3 hg => (e.block g (by omega)).trans hg
theorem NO.nr (h : NO w lo hi x T T' A l c W E SL) : NR w lo hi A l W E SL := by
  refine ⟨h.lh.2, ?_, fun i hi' => ?_⟩
  · rcases h.row with h0 | ⟨g, off, cs, hA, hg, hr, _, hc⟩
    · exact .inl (by have := h.lc; omega)
    · exact .inr ⟨g, off, T, cs.toArray, _, hA, hg, hr.1, fun i hi' => by simpa using hc i hi'⟩
  · obtain ⟨h1, h2⟩ := h.inner i hi'
    exact ⟨h1.cap, h1.wd.rdI, fun g o hA _ => ⟨h1.ge hA, (h2 g o hA).1.1⟩⟩
theorem NO.at (h : NO w lo hi x T T' A l c W E SL) (hp : 0 < c) : ∃ g o, A = some ⟨g, o, none⟩ := by
  rcases h.row with h0 | ⟨g, off, cs, hA, _⟩
  · omega
  · exact ⟨g, off, hA⟩
theorem NO.congr {W' : Nat → Nat → Int} {E' : Nat → List Int} (h : NO w lo hi x T T' A l c W E SL) (hW : ∀ i, i < l → ∀ j, j < 12 → W' i j = W i j) (hE : ∀ i, i < l → E' i = E i) : NO w lo hi x T T' A l c W' E' SL := by
  refine ⟨h.lh, h.lc, ?_, fun i hi' => by rw [hE i hi']; exact h.inner i hi'⟩
  rcases h.row with h | ⟨g, off, cs, hA, hg, hr, hl, hc⟩
  · exact .inl h
  · refine .inr ⟨g, off, cs, hA, hg, hr, hl, fun i hi' => ?_⟩
    obtain ⟨h1, h2⟩ := hc i hi'
    exact ⟨fun j hj => by rw [h1 j hj, hW i hi' j hj], by rw [hE i hi']; exact h2⟩
theorem Below.fresh {N : Nat} {w0 w : World} (h : Below N w0 w) : w0.heap.size ≤ w.heap.size := h.size
end
def updA {α : Type} (f : Nat → α) (i : Nat) (a : α) : Nat → α := fun k => if k = i then a else f k
theorem updA_same {α : Type} (f : Nat → α) (i : Nat) (a : α) : updA f i a i = a := if_pos rfl
theorem updA_ne {α : Type} (f : Nat → α) {i k : Nat} (a : α) (h : k ≠ i) : updA f i a k = f k := if_neg h
end Go.Proofs.YtmbpomcbdopgnaaDoor.Fw
set_option linter.unusedVariables false
set_option linter.unusedSimpArgs false
namespace Go.Proofs.YtmbpomcbdopgnaaDoor.Fw
open Go
def joinL (sep : List Int) : List (List Int) → List Int
  | [] => []
  | [x] => x
  | x :: y :: r => x ++ sep ++ joinL sep (y :: r)
theorem joinL_snoc (sep : List Int) : ∀ (L : List (List Int)) (x : List Int), joinL sep (L ++ [x]) = if L = [] then x else joinL sep L ++ sep ++ x
  | [], x => rfl
  | [a], x => by simp [joinL]
  | a :: b :: r, x => by
    have h := joinL_snoc sep (b :: r) x
    rw [if_neg (by simp)] at h
    show a ++ sep ++ joinL sep (b :: r ++ [x]) = _
    rw [h]
    simp [joinL, List.append_assoc]
def u8 (l : List Int) : List UInt8 := l.map fun x => UInt8.ofNat x.toNat
theorem bOf_data (l : List Int) : (bOf l).data.toList = u8 l := rfl
theorem u8_join (sep : List Int) : ∀ L : List (List Int), Lib.join (L.map u8) (u8 sep) = u8 (joinL sep L)
  | [] => rfl
  | [x] => by simp [Lib.join_one, joinL]
  | x :: y :: r => by
    have h := u8_join sep (y :: r)
    show _ = u8 (x ++ sep ++ joinL sep (y :: r))
    have e : ∀ (a b : List UInt8) (s : List (List UInt8)) , Lib.join (a :: b :: s) (u8 sep) = a ++ (u8 sep) ++ Lib.join (b :: s) (u8 sep) := fun a b s => by simp [Lib.join, List.intercalate, List.intersperse]
    rw [List.map_cons, List.map_cons, e, ← List.map_cons, h]
    simp [u8, List.map_append]
theorem dec_dg : ∀ n : Nat, n ≠ 0 → Lib.decDigits n = u8 (dg n).reverse := by
  intro n
  induction n using Nat.strongRecOn with
  | _ n ih =>
    intro h0
    rw [Lib.decDigits, dg_pos h0]
    by_cases h : n < 10
    · rw [dif_pos h, show n / 10 = 0 by omega, dg_zero]
      simp only [List.reverse_cons, List.reverse_nil, List.nil_append, u8, List.map_cons, List.map_nil]
      congr 2
      omega
    · rw [dif_neg h, ih (n / 10) (by omega) (by omega)]
      simp only [List.reverse_cons, u8, List.map_append, List.map_cons, List.map_nil]
      congr 3
theorem itoa_txt (z : Int) : Lib.itoa z = u8 (txtL z) := by
  unfold Lib.itoa txtL
  by_cases h : z < 0
  · rw [if_pos h, if_pos h, if_neg (by omega), dec_dg _ (by omega)]
    rfl
  · rw [if_neg h, if_neg h]
    by_cases h0 : z = 0
    · subst h0
      rw [if_pos rfl]
      show Lib.decDigits 0 = _
      rw [Lib.decDigits]
      rfl
    · rw [if_neg h0, show z.toNat = z.natAbs by omega, dec_dg _ (by omega)]
      rfl
def wordL (E : List Int) : Nat → List (List Int)
  | 0 => []
  | k + 1 => wordL E k ++ [txtL (E.getD (k * 2) 0)] ++ [txtL (E.getD (k * 2 + 1) 0)]
theorem wordL_len (E : List Int) : ∀ k, (wordL E k).length = k * 2
  | 0 => rfl
  | k + 1 => by simp [wordL, wordL_len E k]; omega
def ringT (E : List Int) (k : Nat) : List Int := joinL [32] (wordL E k)
theorem ringT_s (E : List Int) (k : Nat) : ringT E (k + 1) = (if k = 0 then [] else ringT E k ++ [32]) ++ txtL (E.getD (k * 2) 0) ++ [32] ++ txtL (E.getD (k * 2 + 1) 0) := by
  unfold ringT
  show joinL [32] (wordL E k ++ [txtL (E.getD (k * 2) 0)] ++ [txtL (E.getD (k * 2 + 1) 0)]) = _
  rw [joinL_snoc, if_neg (by simp), joinL_snoc]
  cases k with
  | zero => simp [wordL]
  | succ k => rw [if_neg (fun h => by have := congrArg List.length h; rw [wordL_len] at this; simp at this), if_neg (by omega)]
def ringsL (N : Nat → Nat) (E : Nat → List Int) : Nat → List (List Int)
  | 0 => []
  | i + 1 => ringsL N E i ++ [ringT (E i) (N i)]
theorem ringsL_len (N : Nat → Nat) (E : Nat → List Int) : ∀ i, (ringsL N E i).length = i
  | 0 => rfl
  | i + 1 => by simp [ringsL, ringsL_len N E i]
def layT (N : Nat → Nat) (E : Nat → List Int) (i : Nat) : List Int := joinL [32, 47, 32] (ringsL N E i)
theorem layT_s (N : Nat → Nat) (E : Nat → List Int) (i : Nat) : layT N E (i + 1) = (if i = 0 then [] else layT N E i ++ [32, 47, 32]) ++ ringT (E i) (N i) := by
  unfold layT
  show joinL [32, 47, 32] (ringsL N E i ++ [ringT (E i) (N i)]) = _
  rw [joinL_snoc]
  cases i with
  | zero => simp [ringsL]
  | succ i => rw [if_neg (fun h => by have := congrArg List.length h; rw [ringsL_len] at this; simp at this), if_neg (by omega)]
def specT (N : Nat → Nat) (E : Nat → List Int) (i k : Nat) : List Int := if k = 0 then (if i = 0 then [] else layT N E i ++ [32, 47]) else (if i = 0 then [] else layT N E i ++ [32, 47, 32]) ++ ringT (E i) k
theorem specT_end (N : Nat → Nat) (E : Nat → List Int) {i : Nat} (h : N i ≠ 0) : specT N E i (N i) = layT N E (i + 1) := by unfold specT; rw [if_neg h, layT_s]
theorem specT_0 (N : Nat → Nat) (E : Nat → List Int) : specT N E 0 0 = [] := rfl
theorem specT_s0 (N : Nat → Nat) (E : Nat → List Int) {i : Nat} (h : i ≠ 0) : specT N E i 0 = layT N E i ++ [32, 47] := by unfold specT; rw [if_pos rfl, if_neg h]
theorem specT_nil {N : Nat → Nat} {E : Nat → List Int} {i k : Nat} : specT N E i k = [] ↔ i = 0 ∧ k = 0 := by
  unfold specT
  by_cases hk : k = 0
  · rw [if_pos hk]
    by_cases hi : i = 0
    · simp [hk, hi]
    · rw [if_neg hi]; simp [hi]
  · rw [if_neg hk]
    obtain ⟨k', rfl⟩ : ∃ k', k = k' + 1 := ⟨k - 1, by omega⟩
    rw [ringT_s]
    simp
theorem specT_step {N : Nat → Nat} {E : Nat → List Int} {i k : Nat} : (if specT N E i k = [] then [] else specT N E i k ++ [32]) ++ txtL ((E i).getD (k * 2) 0) ++ [32] ++ txtL ((E i).getD (k * 2 + 1) 0) = specT N E i (k + 1) := by
  rw [show specT N E i (k + 1) = (if i = 0 then [] else layT N E i ++ [32, 47, 32]) ++ ringT (E i) (k + 1) by unfold specT; rw [if_neg (by omega)], ringT_s]
  by_cases hk : k = 0
  · subst hk
    by_cases hi : i = 0
    · subst hi; simp [specT_0]
    · rw [if_neg (fun h => hi (specT_nil.1 h).1), specT_s0 N E hi, if_neg hi]; simp [List.append_assoc]
  · rw [if_neg (fun h => hk (specT_nil.1 h).2), if_neg hk]
    unfold specT
    rw [if_neg hk]
    simp [List.append_assoc]
theorem specT_t {N : Nat → Nat} {E : Nat → List Int} {i k : Nat} (h : specT N E i k ≠ []) : ((specT N E i k ++ [32]) ++ txtL ((E i).getD (k * 2) 0)) ++ [32] ++ txtL ((E i).getD (k * 2 + 1) 0) = specT N E i (k + 1) := by
  have := specT_step (N := N) (E := E) (i := i) (k := k); rwa [if_neg h] at this
theorem specT_f {N : Nat → Nat} {E : Nat → List Int} {i k : Nat} (h : specT N E i k = []) : (specT N E i k ++ txtL ((E i).getD (k * 2) 0)) ++ [32] ++ txtL ((E i).getD (k * 2 + 1) 0) = specT N E i (k + 1) := by
  have := specT_step (N := N) (E := E) (i := i) (k := k); rw [if_pos h] at this; rw [h]; exact this
def short (x : Int) : Prop := -999999999999999 ≤ x ∧ x ≤ 999999999999999
instance (x : Int) : Decidable (short x) := by unfold short; infer_instance
def ringS (E : List Int) (k : Nat) : Prop := ∀ q, q < k → short (E.getD (q * 2) 0) ∧ short (E.getD (q * 2 + 1) 0)
instance (E : List Int) (k : Nat) : Decidable (ringS E k) := by unfold ringS; infer_instance
def tot (N : Nat → Nat) : Nat → Nat
  | 0 => 0
  | i + 1 => tot N i + N i
theorem tot_le {N : Nat → Nat} {i l : Nat} (h : i ≤ l) : tot N i ≤ tot N l := by
  induction l with
  | zero => obtain rfl : i = 0 := by omega
            exact Nat.le_refl _
  | succ l ih =>
    rcases Nat.lt_or_ge i (l + 1) with h1 | h1
    · exact Nat.le_trans (ih (by omega)) (Nat.le_add_right ..)
    · obtain rfl : i = l + 1 := by omega
      exact Nat.le_refl _
theorem tot_bd {N : Nat → Nat} {l : Nat} (h : ∀ i, i < l → N i ≤ 1048576) : ∀ {i : Nat}, i ≤ l → tot N i ≤ i * 1048576
  | 0, _ => Nat.le_refl _
  | i + 1, hi => by have h1 := tot_bd h (i := i) (by omega); have h2 := h i (by omega); show tot N i + N i ≤ _; omega
theorem tot_ne {N : Nat → Nat} {l : Nat} (h : 20 < tot N l) : l ≠ 0 := fun h0 => by subst h0; simp [tot] at h
def layS (l : Nat) (N : Nat → Nat) (E : Nat → List Int) : Prop := l ≤ 6 ∧ tot N l ≤ 20 ∧ ∀ i, i < l → 0 < N i ∧ ringS (E i) (N i)
instance (l : Nat) (N : Nat → Nat) (E : Nat → List Int) : Decidable (layS l N E) := by unfold layS; infer_instance
def layR (l : Nat) (N : Nat → Nat) (E : Nat → List Int) : List Int := if l = 0 then [110, 111, 110, 101] else if layS l N E then layT N E l else []
theorem layR_0 {l : Nat} {N : Nat → Nat} {E : Nat → List Int} (h : l = 0) : layR l N E = [110, 111, 110, 101] := if_pos h
theorem layR_t {l : Nat} {N : Nat → Nat} {E : Nat → List Int} (h0 : l ≠ 0) (h : layS l N E) : layR l N E = layT N E l := by unfold layR; rw [if_neg h0, if_pos h]
theorem layR_f {l : Nat} {N : Nat → Nat} {E : Nat → List Int} (h0 : l ≠ 0) (h : ¬ layS l N E) : layR l N E = [] := by unfold layR; rw [if_neg h0, if_neg h]
theorem txt_short {x : Int} (h : short x) : (txtL x).length ≤ 52 := by
  have e : (2 : Nat) ^ 50 = 1125899906842624 := by decide
  refine txt_len (s := 50) ?_
  unfold short at h
  rw [e]
  omega
theorem joinL_len {sep : List Int} {m : Nat} (hs : sep.length ≤ 3) : ∀ L : List (List Int), (∀ x ∈ L, x.length ≤ m) → (joinL sep L).length ≤ L.length * (m + 3)
  | [], _ => Nat.zero_le _
  | [x], h => by have := h x (by simp); simp [joinL]; omega
  | x :: y :: r, h => by
    have h1 := h x (by simp)
    have h2 := joinL_len hs (y :: r) (fun z hz => h z (List.mem_cons_of_mem _ hz))
    show (x ++ sep ++ joinL sep (y :: r)).length ≤ _
    simp only [List.length_append, List.length_cons] at h2 ⊢
    rw [Nat.add_mul (r.length + 1) 1]
    omega
theorem wordL_m {E : List Int} : ∀ {k : Nat}, ringS E k → ∀ x ∈ wordL E k, x.length ≤ 52
  | 0, _, x, hx => by cases hx
  | k + 1, h, x, hx => by
    simp only [wordL, List.mem_append, List.mem_singleton] at hx
    rcases hx with (hx | rfl) | rfl
    · exact wordL_m (fun q hq => h q (by omega)) x hx
    · exact txt_short (h k (by omega)).1
    · exact txt_short (h k (by omega)).2
theorem ringT_len {E : List Int} {k : Nat} (h : ringS E k) : (ringT E k).length ≤ k * 110 := by
  have := joinL_len (sep := [32]) (m := 52) (by decide) _ (wordL_m h)
  rw [wordL_len] at this
  unfold ringT; omega
theorem ringsL_m {N : Nat → Nat} {E : Nat → List Int} : ∀ {i : Nat}, (∀ q, q < i → N q ≤ 20 ∧ ringS (E q) (N q)) → ∀ x ∈ ringsL N E i, x.length ≤ 2200
  | 0, _, x, hx => by cases hx
  | i + 1, h, x, hx => by
    simp only [ringsL, List.mem_append, List.mem_singleton] at hx
    rcases hx with hx | rfl
    · exact ringsL_m (fun q hq => h q (by omega)) x hx
    · have := ringT_len (h i (by omega)).2; have := (h i (by omega)).1; omega
theorem layT_len {N : Nat → Nat} {E : Nat → List Int} {i : Nat} (h : ∀ q, q < i → N q ≤ 20 ∧ ringS (E q) (N q)) : (layT N E i).length ≤ i * 2203 := by
  have := joinL_len (sep := [32, 47, 32]) (m := 2200) (by decide) _ (ringsL_m h)
  rw [ringsL_len] at this
  exact this
theorem specT_len {N : Nat → Nat} {E : Nat → List Int} {i k : Nat} (h : ∀ q, q < i → N q ≤ 20 ∧ ringS (E q) (N q)) (hk : ringS (E i) k) : (specT N E i k).length ≤ i * 2203 + 3 + k * 110 := by
  have h1 := layT_len h
  have h2 := ringT_len hk
  unfold specT
  split <;> split <;> simp <;> omega
theorem okW_joinL {sep : List Int} (hs : okW 256 sep) : ∀ L : List (List Int), (∀ x ∈ L, okW 256 x) → okW 256 (joinL sep L)
  | [], _ => fun c hc => by cases hc
  | [x], h => h x (by simp)
  | x :: y :: r, h => okC_app (okC_app (h x (by simp)) hs) (okW_joinL hs (y :: r) (fun z hz => h z (List.mem_cons_of_mem _ hz)))
theorem ok_wordL (E : List Int) : ∀ k, ∀ x ∈ wordL E k, okW 256 x
  | 0, x, hx => by cases hx
  | k + 1, x, hx => by
    simp only [wordL, List.mem_append, List.mem_singleton] at hx
    rcases hx with (hx | rfl) | rfl
    · exact ok_wordL E k x hx
    · exact okC_txt _
    · exact okC_txt _
theorem ok_ringT (E : List Int) (k : Nat) : okW 256 (ringT E k) := okW_joinL (okC_one ⟨by decide, by decide⟩) _ (ok_wordL E k)
theorem ok_ringsL (N : Nat → Nat) (E : Nat → List Int) : ∀ i, ∀ x ∈ ringsL N E i, okW 256 x
  | 0, x, hx => by cases hx
  | i + 1, x, hx => by
    simp only [ringsL, List.mem_append, List.mem_singleton] at hx
    rcases hx with hx | rfl
    · exact ok_ringsL N E i x hx
    · exact ok_ringT _ _
theorem ok_layT (N : Nat → Nat) (E : Nat → List Int) (i : Nat) : okW 256 (layT N E i) := okW_joinL (okC_lit [32, 47, 32] (by decide)) _ (ok_ringsL N E i)
theorem ok_specT (N : Nat → Nat) (E : Nat → List Int) (i k : Nat) : okW 256 (specT N E i k) := by
  unfold specT
  split <;> split
  · exact okC_nil
  · exact okC_app (ok_layT N E i) (okC_lit [32, 47] (by decide))
  · exact okC_app okC_nil (ok_ringT _ _)
  · exact okC_app (okC_app (ok_layT N E i) (okC_lit [32, 47, 32] (by decide))) (ok_ringT _ _)
theorem ok_layR (l : Nat) (N : Nat → Nat) (E : Nat → List Int) : okW 256 (layR l N E) := by
  unfold layR
  split
  · exact okC_lit [110, 111, 110, 101] (by decide)
  · split
    · exact ok_layT N E l
    · exact okC_nil
end Go.Proofs.YtmbpomcbdopgnaaDoor.Fw
set_option linter.unusedVariables false
set_option linter.unusedSimpArgs false
namespace Go.Proofs.YtmbpomcbdopgnaaDoor.Fw
open Go Go.RowKit
structure RR (w : World) (lo hi : Nat) (A : Option Addr) (l : Nat) (N : Nat → Nat) (E : Nat → List Int) (SL : SlF) : Prop where
  lh : hi ≤ w.heap.size
  row : l = 0 ∨ ∃ (g off T : Nat) (cs : Array Value) (fz : Nat × Nat), A = some ⟨g, off, none⟩ ∧ w.heap[g]? = some (.cells cs T fz) ∧ (lo ≤ g ∧ g < hi) ∧ ∀ i, i < l → cs[off + i]? = some (.slice (SL i).1 (N i) (SL i).2)
  inner : ∀ i, i < l → N i ≤ (SL i).2 ∧ RdI w .i64 (SL i).1 (E i) ∧ (E i).length = N i * 2 ∧ ∀ g o, (SL i).1 = some ⟨g, o, none⟩ → E i ≠ [] → lo ≤ g ∧ g < hi
section
variable {w w' : World} {lo hi : Nat} {A : Option Addr} {l : Nat} {N : Nat → Nat} {E : Nat → List Int} {SL : SlF}
theorem RR.keep (h : RR w lo hi A l N E SL) (hs : w.heap.size ≤ w'.heap.size) (hk : ∀ g ob, lo ≤ g → g < hi → w.heap[g]? = some ob → w'.heap[g]? = some ob) : RR w' lo hi A l N E SL := by
  refine ⟨Nat.le_trans h.lh hs, ?_, fun i hi' => ?_⟩
  · rcases h.row with h | ⟨g, off, T, cs, fz, hA, hg, hr, hc⟩
    · exact .inl h
    · exact .inr ⟨g, off, T, cs, fz, hA, hk g _ hr.1 hr.2 hg, hr, hc⟩
  · obtain ⟨h1, h2, h4, h3⟩ := h.inner i hi'
    exact ⟨h1, h2.keep fun g o ob hA hL hg => hk g ob (h3 g o hA hL).1 (h3 g o hA hL).2 hg, h4, h3⟩
theorem RR.ext (h : RR w lo hi A l N E SL) (e : Ext w w') : RR w' lo hi A l N E SL := h.keep e.size fun _ _ _ _ hg => e.blk hg
theorem RR.bl {base : Nat} (h : RR w lo hi A l N E SL) (e : Below base w w') (hd : hi ≤ base) : RR w' lo hi A l N E SL :=
  h.keep e.size fun g _ h1 h2 hg => (e.block g (by omega)).trans hg
theorem RR.st {b : Nat} (h : RR w lo hi A l N E SL) (e : St b w w') (hd : hi ≤ b ∨ b < lo) : RR w' lo hi A l N E SL :=
  h.keep (Nat.le_of_eq e.size.symm) fun g _ h1 h2 hg => (e.block g (by omega)).trans hg
theorem RR.mid {lo' hi' : Nat} {x' : Int} (h : RR w lo hi A l N E SL) (e : Mid lo' hi' x' w w') (hd : hi ≤ lo' ∨ hi' ≤ lo) : RR w' lo hi A l N E SL :=
  h.keep e.size fun g _ h1 h2 hg => (e.block g (lt_of_blk hg) (by omega)).trans hg
theorem RR.at (h : RR w lo hi A l N E SL) (hp : 0 < l) : ∃ g o, A = some ⟨g, o, none⟩ := by
  rcases h.row with h | ⟨g, off, T, cs, fz, hA, hg, hr, hc⟩
  · omega
  · exact ⟨g, off, hA⟩
theorem RR.sl {g o : Nat} (h : RR w lo hi (some ⟨g, o, none⟩) l N E SL) {i : Nat} (hi' : i < l) {B : Option Addr} {c : Nat} (hB : B = (SL i).1) (hc : c = (SL i).2) : w.cell? ⟨g, o + i, none⟩ = some (.slice B (N i) c) := by
  subst hB; subst hc
  rcases h.row with h | ⟨g', off, T, cs, fz, hA, hg, hr, hc⟩
  · omega
  · obtain ⟨rfl, rfl⟩ : g = g' ∧ o = off := by simpa using hA
    rw [cell_of_row w g (o + i) cs T fz hg]
    exact hc i hi'
theorem RR.sl1 {g o : Nat} (h : RR w lo hi (some ⟨g, o, none⟩) l N E SL) {i : Nat} (hi' : i < l) {B : Option Addr} {c : Nat} (hB : B = (SL i).1) (hc : c = (SL i).2) : ∀ (j : Nat) (v : Value), ([.slice B (N i) c] : List Value)[j]? = some v → w.cell? ⟨g, (o + i) + j, none⟩ = some v := by
  intro j v hj
  have hjl : j = 0 := by have := (List.getElem?_eq_some_iff.1 hj).1; simp at this; exact this
  subst hjl
  rw [Nat.add_zero, h.sl hi' hB hc]
  simpa using hj
theorem RR.rd (h : RR w lo hi A l N E SL) {i : Nat} (hi' : i < l) {B : Option Addr} (hB : B = (SL i).1) : RdI w .i64 B (E i) := by subst hB; exact (h.inner i hi').2.1
theorem RR.len (h : RR w lo hi A l N E SL) {i : Nat} (hi' : i < l) : (E i).length = N i * 2 := (h.inner i hi').2.2.1
theorem RR.cap (h : RR w lo hi A l N E SL) {i : Nat} (hi' : i < l) {c : Nat} (hc : c = (SL i).2) : N i ≤ c := by subst hc; exact (h.inner i hi').1
end
structure RO (w : World) (lo hi T G : Nat) (A : Option Addr) (l c : Nat) (N : Nat → Nat) (E : Nat → List Int) (SL : SlF) : Prop where
  lh : lo ≤ hi ∧ hi ≤ w.heap.size
  lc : l ≤ c
  row : c = 0 ∨ ∃ (off : Nat) (cs : List Value), A = some ⟨G, off, none⟩ ∧ w.heap[G]? = some (.cells cs.toArray T) ∧ (lo ≤ G ∧ G < hi) ∧ off + c ≤ cs.length ∧ ∀ i, i < l → cs[off + i]? = some (.slice (SL i).1 (N i) (SL i).2)
  inner : ∀ i, i < l → N i ≤ (SL i).2 ∧ RdI w .i64 (SL i).1 (E i) ∧ (E i).length = N i * 2 ∧ ∀ g o, (SL i).1 = some ⟨g, o, none⟩ → E i ≠ [] → (lo ≤ g ∧ g < hi) ∧ g ≠ G
section
variable {w w' : World} {lo hi T G : Nat} {A : Option Addr} {l c : Nat} {N : Nat → Nat} {E : Nat → List Int} {SL : SlF}
theorem RO.keep (h : RO w lo hi T G A l c N E SL) (hs : w.heap.size ≤ w'.heap.size) (hk : ∀ g ob, lo ≤ g → g < hi → w.heap[g]? = some ob → w'.heap[g]? = some ob) : RO w' lo hi T G A l c N E SL := by
  refine ⟨⟨h.lh.1, Nat.le_trans h.lh.2 hs⟩, h.lc, ?_, fun i hi' => ?_⟩
  · rcases h.row with h | ⟨off, cs, hA, hg, hr, hc⟩
    · exact .inl h
    · exact .inr ⟨off, cs, hA, hk G _ hr.1 hr.2 hg, hr, hc⟩
  · obtain ⟨h1, h2, h4, h3⟩ := h.inner i hi'
    exact ⟨h1, h2.keep fun g o ob hA hL hg => hk g ob (h3 g o hA hL).1.1 (h3 g o hA hL).1.2 hg, h4, h3⟩
theorem RO.ext (h : RO w lo hi T G A l c N E SL) (e : Ext w w') : RO w' lo hi T G A l c N E SL := h.keep e.size fun _ _ _ _ hg => e.blk hg
theorem RO.at (h : RO w lo hi T G A l c N E SL) (hp : 0 < c) : ∃ g o, A = some ⟨g, o, none⟩ := by
  rcases h.row with h | ⟨off, cs, hA, _⟩
  · omega
  · exact ⟨G, off, hA⟩
end
section
variable {P : Program} {n : Nat} {fr : Fr} {w : World} {ty : TypeId} {lo hi T G : Nat} {A : Option Addr} {l c : Nat} {N : Nat → Nat} {E : Nat → List Int} {SL : SlF}
theorem oe_appendSs {t e : TypeId} {x y : Operand} {A : Option Addr} {c base bytes g c2 T2 m : Nat} {L Ms : List (List Int)} {K : Value → World → Prop} (ht : P.underlying t = some (.slice e))
    (hi : (P.info? e).map (fun i => (i.zero, i.size, i.bytes)) = some (some (.string ⟨#[]⟩), 1, bytes)) (hx : EV n fr x (.slice A L.length c)) (hy : EV n fr y (.slice (some ⟨g, 0, none⟩) m c2)) (hm : Ms.length = m)
    (hO : Ors w base e A c L) (hg : w.heap[g]? = some (.cells (Ms.map fun s => Value.string (bOf s)).toArray T2)) (hb : (L.length + m) * bytes ≤ 140737488355328) (hl : L.length + m ≤ 140737488355328)
    (h : ∀ A' c' w', Ors w' base e A' c' (L ++ Ms) → Below base w w' → Bt e w w' → K (.slice A' (L ++ Ms).length c') w') : OE P n (.call { callee := .builtin .append, args := #[x, y], argTypes := #[t, t] }) ty fr w K := by
  subst hm
  cases hin : P.info? e with
  | none => simp [hin] at hi
  | some inf =>
    simp only [hin, Option.map_some, Option.some.injEq, Prod.mk.injEq] at hi
    obtain ⟨h1, h2, h3⟩ := hi
    obtain ⟨v', w', hr, hown, hgr, _⟩ := run_append_own (P := P) w base t ty e inf (.string ⟨#[]⟩) 1 bytes ht hin h1 h2 h3 rfl (by decide) (.slice A L.length c) L.length _ hO.1 ⟨g, 0, none⟩ Ms.length c2 (Ms.map fun s => Value.string (bOf s)) (by simp)
      (fun j u hj => by
        have ha : (⟨g, 0, none⟩ : Addr).add j = ⟨g, 0 + j, none⟩ := by unfold Addr.add; split <;> simp_all
        rw [ha, cell_of_row w g (0 + j) _ T2 _ hg, Nat.zero_add]
        simpa using hj) (strs_oneCell Ms) (by simp only [maxLen]; omega) hb hO.2
    obtain ⟨A', c', rfl⟩ := own_slice hown
    have hO' : Ors w' base e A' c' (L ++ Ms) := by
      unfold Ors
      rw [List.length_append, List.map_append]
      exact ⟨hown, Nat.le_trans hO.2 hgr.size⟩
    have hr' : (Builtin.append_ #[t, t] ty #[.slice A L.length c, .slice (some ⟨g, 0, none⟩) Ms.length c2]).run P w = .ok (.slice A' (L ++ Ms).length c') w' := by rw [List.length_append]; exact hr
    refine OE.of_run (fun _ _ _ _ => ?_) (h A' c' w' hO' (below_of_grown hgr hO.2 (own_row_ge hO.1)) (bt_of_grownS hO hgr))
    unfold EV at hx hy
    simp only [execOp, resolve, invoke, builtin, hx, hy, hr', List.map_toArray, List.map_cons, List.map_nil, Sem.run_bind, Sem.run_pure, Result.andThen_ok]
end
theorem Ors.lt {w : World} {base T c : Nat} {A : Option Addr} {L : List (List Int)} (h : Ors w base T A c L) : ∀ g o, A = some ⟨g, o, none⟩ → g < w.heap.size := by
  intro g o hA
  rcases h.1.2 with ⟨hv, hn⟩ | ⟨g', cap, cur, hv, hb, hg, _⟩
  · injection hv with hA2 _ _; rw [hA2] at hA; cases hA
  · injection hv with hA2 _ _
    rw [hA2] at hA
    injection hA with hA
    injection hA with hA _ _
    subst hA
    exact lt_of_blk hg
theorem bt_blkT {T T' b : Nat} {w w' : World} {cs : Array Value} {fz : Nat × Nat} (e : Bt T w w') (h : w.heap[b]? = some (.cells cs T' fz)) (hT : T' ≠ T) : w'.heap[b]? = some (.cells cs T' fz) :=
  (e.keep b _ h fun cs2 fz2 he => by injection he with _ he _; exact hT he)
theorem Ors.made {w w' : World} {b T : Nat} (h : New w b (.cells #[] T) w') : Ors w' b T (some ⟨b, 0, none⟩) 0 [] :=
  ⟨⟨rfl, .inr ⟨b, 0, #[], rfl, Nat.le_refl _, h.blk, Nat.le_refl _, Nat.zero_le _, rfl, rfl⟩⟩, Nat.le_of_lt (lt_of_blk h.blk)⟩
end Go.Proofs.YtmbpomcbdopgnaaDoor.Fw
set_option linter.unusedVariables false
set_option linter.unusedSimpArgs false
namespace Go.Proofs.YtmbpomcbdopgnaaDoor.Fw
abbrev riseAt (L : List Int) (k : Nat) : Prop := (0 ≤ L.getD k 0 ∧ L.getD k 0 ≤ 39) ∧ (0 < k → L.getD (k - 1) 0 < L.getD k 0)
def riseP (L : List Int) : Prop := ∀ k, k < L.length → riseAt L k
instance (L : List Int) : Decidable (riseP L) := by unfold riseP; infer_instance
abbrev evC1 (Q : Nat → Ev) (i : Nat) : Prop := 0 < i → pc (Q (i - 1)).x (Q (i - 1)).y (Q (i - 1)).u (Q i).x (Q i).y (Q i).u < 0
abbrev evOkAt (Q : Nat → Ev) (i : Nat) : Prop := pOk (Q i).x (Q i).y (Q i).u ∧ 0 < (Q i).es.length ∧ riseP (Q i).es ∧ evC1 Q i
def evsOk (l : Nat) (Q : Nat → Ev) : Prop := l ≤ 200 ∧ ∀ i, i < l → evOkAt Q i
instance (l : Nat) (Q : Nat → Ev) : Decidable (evsOk l Q) := by unfold evsOk; infer_instance
def evF (l : Nat) (Q : Nat → Ev) : Prop := ∀ i, i < l → (fits (Q i).x ∧ fits (Q i).y ∧ fits (Q i).u) ∧ (Q i).es.length ≤ 1048576
theorem evF.x {l : Nat} {Q : Nat → Ev} (h : evF l Q) {i : Nat} (hi : i < l) : fits (Q i).x := (h i hi).1.1
theorem evF.y {l : Nat} {Q : Nat → Ev} (h : evF l Q) {i : Nat} (hi : i < l) : fits (Q i).y := (h i hi).1.2.1
theorem evF.u {l : Nat} {Q : Nat → Ev} (h : evF l Q) {i : Nat} (hi : i < l) : fits (Q i).u := (h i hi).1.2.2
theorem evF.n {l : Nat} {Q : Nat → Ev} (h : evF l Q) {i : Nat} (hi : i < l) : (Q i).es.length ≤ 1048576 := (h i hi).2
end Go.Proofs.YtmbpomcbdopgnaaDoor.Fw
set_option linter.unusedVariables false
set_option linter.unusedSimpArgs false
namespace Go.Proofs.YtmbpomcbdopgnaaDoor.Fw
open Go Go.RowKit
structure NG (w : World) (lo hi T T' : Nat) (A : Option Addr) (l c : Nat) (W : Nat → Nat → Int) (E : Nat → List Int) (SL : SlF) : Prop where
  lh : lo ≤ hi ∧ hi ≤ w.heap.size
  rlt : ∀ g o, A = some ⟨g, o, none⟩ → g < hi
  own : ∃ vs : List Value, w.ownsRow lo T 13 (.slice A l c) l vs ∧ ∀ i, i < l → evAt (fun k => vs[k]?) i (W i) (SL i).1 (E i).length (SL i).2
  inner : ∀ i, i < l → Ow w lo T' .i64 (SL i).1 (SL i).2 (E i) ∧ ∀ b o, (SL i).1 = some ⟨b, o, none⟩ → b < hi ∧ ∀ i', i' < l → i' ≠ i → ∀ b' o', (SL i').1 = some ⟨b', o', none⟩ → b' ≠ b
theorem own_keepS {w w' : World} {base T n s : Nat} {v : Value} {xs : List Value} (h : w.ownsRow base T s v n xs) (hk : ∀ g o cap, v = .slice (some ⟨g, 0, none⟩) n cap → w.heap[g]? = some o → base ≤ g → w'.heap[g]? = some o) : w'.ownsRow base T s v n xs := by
  refine ⟨h.1, ?_⟩
  rcases h.2 with h | ⟨g, cap, cur, hv, hb, hg, r⟩
  · exact .inl h
  · exact .inr ⟨g, cap, cur, hv, hb, hk g _ cap hv hg hb, r⟩
section
variable {w w' : World} {lo hi T T' : Nat} {A : Option Addr} {l c : Nat} {W : Nat → Nat → Int} {E : Nat → List Int} {SL : SlF}
theorem NG.keep (h : NG w lo hi T T' A l c W E SL) (hs : w.heap.size ≤ w'.heap.size) (hk : ∀ g ob, lo ≤ g → g < hi → w.heap[g]? = some ob → w'.heap[g]? = some ob) : NG w' lo hi T T' A l c W E SL := by
  obtain ⟨vs, ho, hc⟩ := h.own
  refine ⟨⟨h.lh.1, Nat.le_trans h.lh.2 hs⟩, h.rlt, ⟨vs, own_keepS ho fun g o cap hv hg hb => hk g o hb (h.rlt g 0 (by injection hv)) hg, hc⟩, fun i hi' => ⟨(h.inner i hi').1.keep hs fun g o ob hA hg => hk g ob ((h.inner i hi').1.ge hA) ((h.inner i hi').2 g o hA).1 hg, (h.inner i hi').2⟩⟩
theorem NG.ext (h : NG w lo hi T T' A l c W E SL) (e : Ext w w') : NG w' lo hi T T' A l c W E SL := h.keep e.size fun _ _ _ _ hg => e.blk hg
theorem NG.bl {base : Nat} (h : NG w lo hi T T' A l c W E SL) (e : Below base w w') (hb : hi ≤ base) : NG w' lo hi T T' A l c W E SL := h.keep e.size fun g _ _ h2 hg => (e.block g (by omega)).trans hg
theorem NG.st {b : Nat} (h : NG w lo hi T T' A l c W E SL) (e : St b w w') (hb : hi ≤ b) : NG w' lo hi T T' A l c W E SL := h.keep (Nat.le_of_eq e.size.symm) fun g _ _ h2 hg => e.blk hg (by omega)
theorem NG.mono {hi2 : Nat} (h : NG w lo hi T T' A l c W E SL) (hh : hi ≤ hi2) (h2 : hi2 ≤ w.heap.size) : NG w lo hi2 T T' A l c W E SL :=
  ⟨⟨by have := h.lh; omega, h2⟩, fun g o hA => by have := h.rlt g o hA; omega, h.own, fun i hi' => ⟨(h.inner i hi').1, fun b o hA => ⟨by have := ((h.inner i hi').2 b o hA).1; omega, ((h.inner i hi').2 b o hA).2⟩⟩⟩
theorem NG.made {w w' : World} {b T T' : Nat} {W : Nat → Nat → Int} {E : Nat → List Int} {SL : SlF} (h : New w b (.cells #[] T) w') : NG w' b w'.heap.size T T' (some ⟨b, 0, none⟩) 0 0 W E SL :=
  ⟨⟨Nat.le_of_lt (lt_of_blk h.blk), Nat.le_refl _⟩, fun g o hA => by injection hA with hA; injection hA with hA _ _; subst hA; exact lt_of_blk h.blk, ⟨[], ⟨rfl, .inr ⟨b, 0, #[], rfl, Nat.le_refl _, h.blk, Nat.le_refl _, Nat.zero_le _, rfl, rfl⟩⟩, fun i hi => absurd hi (Nat.not_lt_zero _)⟩, fun i hi => absurd hi (Nat.not_lt_zero _)⟩
theorem Ow.ne_row {s c2 b o g : Nat} {A2 : Option Addr} {L : List Int} {cs : Array Value} {fz : Nat × Nat} (hO : Ow w s T' .i64 A2 c2 L) (hT : T ≠ T') (hg : w.heap[g]? = some (.cells cs T fz)) (hA : A2 = some ⟨b, o, none⟩) : b ≠ g := by
  intro he
  subst he; subst hA
  rcases hO.1.2 with ⟨hv2, _⟩ | ⟨g2, cap, cur, hv2, hb2, hg2, _⟩
  · injection hv2 with h1 _ _; cases h1
  · injection hv2 with h1 _ _
    injection h1 with h1
    injection h1 with h1 _ _
    subst h1
    rw [hg] at hg2
    injection hg2 with hg2
    injection hg2 with _ hg2 _
    exact hT hg2
theorem NO.tail {x : Int} {g o X o0 : Nat} (h : NO w lo hi x T T' (some ⟨g, o, none⟩) l c W E SL) (hT : T ≠ T') (hl : 0 < l) (hX : (SL 0).1 = some ⟨X, o0, none⟩) : NO w lo hi X T T' (some ⟨g, o + 13, none⟩) (l - 1) (c - 1) (fun i => W (i + 1)) (fun i => E (i + 1)) (fun i => SL (i + 1)) := by
  refine ⟨h.lh, by have := h.lc; omega, ?_, fun i hi' => ?_⟩
  · rcases h.row with h0 | ⟨g', off, cs, hA, hg, hr, hlen, hc⟩
    · have := h.lc; omega
    · obtain ⟨rfl, rfl⟩ : g = g' ∧ o = off := by simpa using hA
      have hXg := (h.inner 0 hl).1.ne_row hT hg hX
      refine .inr ⟨g, o + 13, cs, rfl, hg, ⟨hr.1, by omega⟩, by have := h.lc; omega, fun i hi' => ?_⟩
      obtain ⟨h5, h6⟩ := hc (i + 1) (by omega)
      have e : ∀ k, o + 13 + (i * 13 + k) = o + ((i + 1) * 13 + k) := fun k => by omega
      exact ⟨fun j hj => by show cs[o + 13 + (i * 13 + j)]? = _; rw [e]; exact h5 j hj, by show cs[o + 13 + (i * 13 + 12)]? = _; rw [e]; exact h6⟩
  · obtain ⟨h1, h2⟩ := h.inner (i + 1) (by omega)
    refine ⟨h1, fun b o hA => ⟨⟨(h2 b o hA).1.1, ?_⟩, fun i' hi2 hne b' o' hb' => (h2 b o hA).2 (i' + 1) (by omega) (by omega) b' o' hb'⟩⟩
    have := (h2 b o hA).2 0 hl (by omega) X o0 hX
    omega
end
structure Sb (A : Option Addr) (w w' : World) : Prop where
  os : w'.os = w.os
  tape : w'.tape = w.tape
  output : w'.output = w.output
  size : w'.heap.size = w.heap.size
  block : ∀ k, (∀ o, A ≠ some ⟨k, o, none⟩) → w'.heap[k]? = w.heap[k]?
theorem Sb.refl (A : Option Addr) (w : World) : Sb A w w := ⟨rfl, rfl, rfl, rfl, fun _ _ => rfl⟩
theorem Sb.st {g o : Nat} {w w1 w2 : World} (h : Sb (some ⟨g, o, none⟩) w w1) (h2 : St g w1 w2) : Sb (some ⟨g, o, none⟩) w w2 :=
  ⟨h2.os.trans h.os, h2.tape.trans h.tape, h2.output.trans h.output, h2.size.trans h.size, fun k hk => (h2.block k (fun e => hk o (by rw [e]))).trans (h.block k hk)⟩
theorem Sb.mid {A : Option Addr} {X : Nat} {w w' : World} (h : Sb A w w') (hA : ∀ b o, A = some ⟨b, o, none⟩ → b = X) : Mid X (X + 1) (-1) w w' :=
  ⟨h.os, h.tape, h.output, Nat.le_of_eq h.size.symm, fun k _ hk => h.block k fun o he => by have := hA k o he; omega⟩
section
variable {P : Program} {n : Nat} {fr : Fr} {w : World} {ty : TypeId} {lo hi T T' : Nat} {x : Int} {A : Option Addr} {l c : Nat} {W : Nat → Nat → Int} {E : Nat → List Int} {SL : SlF}
theorem NO.marked {w' : World} {i : Nat} {L : List Int} (h : NO w lo hi x T T' A l c W E SL) (hT : T ≠ T') (hi' : i < l) (hS : Sb (SL i).1 w w') (hO : Ow w' lo T' .i64 (SL i).1 (SL i).2 L) (hL : L.length = (E i).length) :
    Mid lo hi x w w' ∧ NO w' lo hi x T T' A l c W (updA E i L) SL := by
  have hm : Mid lo hi x w w' := ⟨hS.os, hS.tape, hS.output, Nat.le_of_eq hS.size.symm, fun k _ hk => hS.block k fun o he => by
    have := (h.inner i hi').1.ge he
    have := ((h.inner i hi').2 k o he).1
    omega⟩
  refine ⟨hm, ⟨h.lh.1, by rw [hS.size]; exact h.lh.2⟩, h.lc, ?_, fun q hq => ?_⟩
  · rcases h.row with h0 | ⟨g, off, cs, hA, hg, hr, hlen, hc⟩
    · exact .inl h0
    · refine .inr ⟨g, off, cs, hA, (hS.block g fun o he => absurd rfl ((h.inner i hi').1.ne_row hT hg he)).trans hg, hr, hlen, fun q hq => ?_⟩
      have hE : (updA E i L q).length = (E q).length := by
        by_cases hqi : q = i
        · subst hqi; rw [updA_same, hL]
        · rw [updA_ne _ _ hqi]
      obtain ⟨h5, h6⟩ := hc q hq
      exact ⟨h5, by rw [hE]; exact h6⟩
  · by_cases hqi : q = i
    · subst hqi
      rw [updA_same]
      exact ⟨hO, (h.inner q hq).2⟩
    · rw [updA_ne _ _ hqi]
      obtain ⟨h1, h2⟩ := h.inner q hq
      exact ⟨h1.keep (Nat.le_of_eq hS.size.symm) fun b o ob hA hb => (hS.block b fun o' he => (h2 b o hA).2 i hi' (fun e => hqi e.symm) b o' he rfl).trans hb, h2⟩
theorem NG.sl {w : World} (h : NG w lo hi T T' A l c W E SL) : l ≤ c := by
  obtain ⟨vs, ho, _⟩ := h.own
  rcases ho.2 with ⟨hv, hn⟩ | ⟨g, cap, cur, hv, hb, hg, h1, _⟩
  · omega
  · injection hv with _ _ hc; omega
theorem own_sliceS {w : World} {base T n s : Nat} {v : Value} {xs : List Value} (h : w.ownsRow base T s v n xs) : ∃ A c, v = .slice A n c := by
  rcases h.2 with ⟨rfl, rfl⟩ | ⟨g, cap, cur, rfl, _⟩
  · exact ⟨_, _, rfl⟩
  · exact ⟨_, _, rfl⟩
end
end Go.Proofs.YtmbpomcbdopgnaaDoor.Fw
set_option linter.unusedVariables false
set_option linter.unusedSimpArgs false
namespace Go.Proofs.YtmbpomcbdopgnaaDoor.Fw
open Go Go.RowKit
def OwS (w : World) (base T s : Nat) (k : IntKind) (A : Option Addr) (n c : Nat) (L : List Int) : Prop := w.ownsRow base T s (.slice A n c) n (L.map (Value.int k)) ∧ base ≤ w.heap.size
section
variable {w w' : World} {base T s n c : Nat} {k : IntKind} {A : Option Addr} {L : List Int}
theorem OwS.keep (h : OwS w base T s k A n c L) (hs : w.heap.size ≤ w'.heap.size) (hk : ∀ g o ob, A = some ⟨g, o, none⟩ → w.heap[g]? = some ob → w'.heap[g]? = some ob) : OwS w' base T s k A n c L := by
  obtain ⟨⟨h1, h2⟩, h3⟩ := h
  refine ⟨⟨h1, ?_⟩, Nat.le_trans h3 hs⟩
  rcases h2 with h2 | ⟨g, cap, cur, hv, hb, hg, r⟩
  · exact .inl h2
  · refine .inr ⟨g, cap, cur, hv, hb, hk g 0 _ ?_ hg, r⟩
    injection hv
theorem OwS.ext (h : OwS w base T s k A n c L) (e : Ext w w') : OwS w' base T s k A n c L := h.keep e.size fun _ _ _ _ hg => e.blk hg
theorem OwS.len (h : OwS w base T s k A n c L) : L.length = n * s := by simpa using h.1.1
theorem OwS.cap (h : OwS w base T s k A n c L) : n ≤ c := by
  rcases h.1.2 with ⟨hv, hn⟩ | ⟨g, cap, cur, hv, hb, hg, h1, h2, h3, h4⟩
  · omega
  · injection hv with _ _ hc; omega
theorem OwS.lt (h : OwS w base T s k A n c L) : ∀ g o, A = some ⟨g, o, none⟩ → (base ≤ g ∧ g < w.heap.size) ∧ o = 0 := by
  intro g o hA
  rcases h.1.2 with ⟨hv, hn⟩ | ⟨g', cap, cur, hv, hb, hg, h1, h2, h3, h4⟩
  · injection hv with hA2 _ _; rw [hA2] at hA; cases hA
  · injection hv with hA2 _ _
    rw [hA2] at hA
    injection hA with hA
    injection hA with hA ho _
    subst hA
    exact ⟨⟨hb, lt_of_blk hg⟩, ho.symm⟩
theorem OwS.mono {base' : Nat} (h : OwS w base T s k A n c L) (hb : base' ≤ base) : OwS w base' T s k A n c L := by
  obtain ⟨⟨h1, h2⟩, h3⟩ := h
  refine ⟨⟨h1, ?_⟩, Nat.le_trans hb h3⟩
  rcases h2 with h2 | ⟨g, cap, cur, hv, hbg, r⟩
  · exact .inl h2
  · exact .inr ⟨g, cap, cur, hv, Nat.le_trans hb hbg, r⟩
theorem OwS.rd (h : OwS w base T s k A n c L) : RdI w k A L := by
  have hl := h.len
  rcases h.1.2 with ⟨hv, hn⟩ | ⟨g, cap, cur, hv, hb, hg, h1, h2, h3, h4⟩
  · subst hn
    have h0 : L = [] := List.eq_nil_of_length_eq_zero (by rw [hl, Nat.zero_mul])
    exact .inl (by rw [h0]; rfl)
  · injection hv with hA _ hc
    refine .inr ⟨g, 0, T, cur, _, hA, hg, fun i x hi => ?_⟩
    have hil := (List.getElem?_eq_some_iff.1 hi).1
    simp only [List.length_map] at hil
    have h5 : (cur.toList.take (n * s))[i]? = (L.map (Value.int k))[i]? := by rw [h4]
    rw [List.getElem?_take_of_lt (by omega), hi] at h5
    simpa using h5
theorem OwS.nil (hb : base ≤ w.heap.size) : OwS w base T s k none 0 0 [] := ⟨⟨by simp, .inl ⟨rfl, rfl⟩⟩, hb⟩
theorem OwS.ne_row {T1 b o g : Nat} {cs : Array Value} {fz : Nat × Nat} (hO : OwS w base T s k A n c L) (hT : T1 ≠ T) (hg : w.heap[g]? = some (.cells cs T1 fz)) (hA : A = some ⟨b, o, none⟩) : b ≠ g := by
  intro he
  subst he; subst hA
  rcases hO.1.2 with ⟨hv2, _⟩ | ⟨g2, cap, cur, hv2, hb2, hg2, _⟩
  · injection hv2 with h1 _ _; cases h1
  · injection hv2 with h1 _ _
    injection h1 with h1
    injection h1 with h1 _ _
    subst h1
    rw [hg] at hg2
    injection hg2 with hg2
    injection hg2 with _ hg2 _
    exact hT hg2
theorem OwS.st {b : Nat} {cs : Array Value} {T1 : Nat} {fz : Nat × Nat} (h : OwS w base T s k A n c L) (e : St b w w') (hb : w.heap[b]? = some (.cells cs T1 fz)) (hT : T1 ≠ T) : OwS w' base T s k A n c L :=
  h.keep (Nat.le_of_eq e.size.symm) fun g o ob hA hg => e.blk hg (h.ne_row hT hb hA)
theorem OwS.bl {base' : Nat} (h : OwS w base T s k A n c L) (e : Below base' w w') (hlt : ∀ g o, A = some ⟨g, o, none⟩ → g < base') : OwS w' base T s k A n c L :=
  h.keep e.size fun g o ob hA hg => bl_blk e hg (hlt g o hA)
theorem OwS.bt {T1 : Nat} (h : OwS w base T s k A n c L) (e : Bt T1 w w') (hs : w.heap.size ≤ w'.heap.size) (hT : T ≠ T1) : OwS w' base T s k A n c L := by
  obtain ⟨⟨h1, h2⟩, h3⟩ := h
  refine ⟨⟨h1, ?_⟩, Nat.le_trans h3 hs⟩
  rcases h2 with h2 | ⟨g, cap, cur, hv, hb, hg, r⟩
  · exact .inl h2
  · exact .inr ⟨g, cap, cur, hv, hb, bt_blkT e hg hT, r⟩
end
theorem Ors.bt {w w' : World} {base T T1 c : Nat} {A : Option Addr} {L : List (List Int)} (h : Ors w base T A c L) (e : Bt T1 w w') (hs : w.heap.size ≤ w'.heap.size) (hT : T ≠ T1) : Ors w' base T A c L := by
  obtain ⟨⟨h1, h2⟩, h3⟩ := h
  refine ⟨⟨h1, ?_⟩, Nat.le_trans h3 hs⟩
  rcases h2 with h2 | ⟨g, cap, cur, hv, hb, hg, r⟩
  · exact .inl h2
  · exact .inr ⟨g, cap, cur, hv, hb, bt_blkT e hg hT, r⟩
def OwV (w : World) (base T : Nat) (A : Option Addr) (n c : Nat) (vs : List Value) : Prop := w.ownsRow base T 1 (.slice A n c) n vs ∧ base ≤ w.heap.size
section
variable {w w' : World} {base T n c : Nat} {A : Option Addr} {vs : List Value}
theorem OwV.keep (h : OwV w base T A n c vs) (hs : w.heap.size ≤ w'.heap.size) (hk : ∀ g ob, (∃ cs fz, ob = .cells cs T fz) → base ≤ g → A = some ⟨g, 0, none⟩ → w.heap[g]? = some ob → w'.heap[g]? = some ob) : OwV w' base T A n c vs := by
  obtain ⟨⟨h1, h2⟩, h3⟩ := h
  refine ⟨⟨h1, ?_⟩, Nat.le_trans h3 hs⟩
  rcases h2 with h2 | ⟨g, cap, cur, hv, hb, hg, r⟩
  · exact .inl h2
  · exact .inr ⟨g, cap, cur, hv, hb, hk g _ ⟨_, _, rfl⟩ hb (by injection hv) hg, r⟩
theorem OwV.ext (h : OwV w base T A n c vs) (e : Ext w w') : OwV w' base T A n c vs := h.keep e.size fun _ _ _ _ _ hg => e.blk hg
theorem OwV.bt {T1 : Nat} (h : OwV w base T A n c vs) (e : Bt T1 w w') (hs : w.heap.size ≤ w'.heap.size) (hT : T ≠ T1) : OwV w' base T A n c vs :=
  h.keep hs fun g ob ⟨cs, fz, he⟩ _ _ hg => by subst he; exact bt_blkT e hg hT
theorem OwV.bl {base' : Nat} (h : OwV w base T A n c vs) (e : Below base' w w') (hlt : ∀ g o, A = some ⟨g, o, none⟩ → g < base') : OwV w' base T A n c vs :=
  h.keep e.size fun g _ _ _ hA hg => bl_blk e hg (hlt g 0 hA)
theorem OwV.st {b : Nat} {cs1 : Array Value} {T1 : Nat} {fz1 : Nat × Nat} (h : OwV w base T A n c vs) (e : St b w w') (hb : w.heap[b]? = some (.cells cs1 T1 fz1)) (hT : T1 ≠ T) : OwV w' base T A n c vs :=
  h.keep (Nat.le_of_eq e.size.symm) fun g ob ⟨cs, fz, he⟩ _ _ hg => e.blk hg (fun h2 => by
    subst h2; subst he
    rw [hb] at hg
    injection hg with hg
    injection hg with _ hg _
    exact hT hg)
theorem OwV.stN {b : Nat} (h : OwV w base T A n c vs) (e : St b w w') (hlt : ∀ g o, A = some ⟨g, o, none⟩ → g ≠ b) : OwV w' base T A n c vs :=
  h.keep (Nat.le_of_eq e.size.symm) fun g _ _ _ hA hg => e.blk hg (hlt g 0 hA)
theorem OwV.lt (h : OwV w base T A n c vs) : ∀ g o, A = some ⟨g, o, none⟩ → g < w.heap.size := by
  intro g o hA
  rcases h.1.2 with ⟨hv, hn⟩ | ⟨g', cap, cur, hv, hb, hg, _⟩
  · injection hv with hA2 _ _; rw [hA2] at hA; cases hA
  · injection hv with hA2 _ _
    rw [hA2] at hA
    injection hA with hA
    injection hA with hA _ _
    subst hA
    exact lt_of_blk hg
theorem OwV.len (h : OwV w base T A n c vs) : vs.length = n := by simpa using h.1.1
theorem OwV.made {b : Nat} {v : Value} (h : New w b (.cells #[v] T) w') : OwV w' b T (some ⟨b, 0, none⟩) 1 1 [v] :=
  ⟨⟨rfl, .inr ⟨b, 1, #[v], rfl, Nat.le_refl _, h.blk, Nat.le_refl _, by decide, rfl, rfl⟩⟩, Nat.le_of_lt (lt_of_blk h.blk)⟩
theorem OwV.made0 {b : Nat} (h : New w b (.cells #[] T) w') : OwV w' b T (some ⟨b, 0, none⟩) 0 0 [] :=
  ⟨⟨rfl, .inr ⟨b, 0, #[], rfl, Nat.le_refl _, h.blk, Nat.le_refl _, Nat.zero_le _, rfl, rfl⟩⟩, Nat.le_of_lt (lt_of_blk h.blk)⟩
theorem OwV.nil (hb : base ≤ w.heap.size) : OwV w base T none 0 0 [] := ⟨⟨rfl, .inl ⟨rfl, rfl⟩⟩, hb⟩
theorem OwV.mono {base' : Nat} (h : OwV w base T A n c vs) (hb : base' ≤ base) : OwV w base' T A n c vs := by
  obtain ⟨⟨h1, h2⟩, h3⟩ := h
  refine ⟨⟨h1, ?_⟩, Nat.le_trans hb h3⟩
  rcases h2 with h2 | ⟨g, cap, cur, hv, hbg, r⟩
  · exact .inl h2
  · exact .inr ⟨g, cap, cur, hv, Nat.le_trans hb hbg, r⟩
theorem OwV.row (h : OwV w base T A n c vs) : n = 0 ∨ ∃ (g : Nat) (cs : List Value), A = some ⟨g, 0, none⟩ ∧ w.heap[g]? = some (.cells cs.toArray T) ∧ (base ≤ g ∧ g < w.heap.size) ∧ n ≤ cs.length ∧ ∀ i, i < n → cs[0 + i]? = vs[i]? := by
  rcases h.1.2 with ⟨hv, hn⟩ | ⟨g, cap, cur, hv, hb, hg, h1, h2, h3, h4⟩
  · exact .inl hn
  · injection hv with hA _ _
    refine .inr ⟨g, cur.toList, hA, by simpa using hg, ⟨hb, lt_of_blk hg⟩, by simp; omega, fun i hi => ?_⟩
    rw [Nat.zero_add, ← h4, List.getElem?_take_of_lt (by omega)]
theorem OwV.cell {g o i : Nat} {v : Value} (h : OwV w base T (some ⟨g, o, none⟩) n c vs) (hi : vs[i]? = some v) : w.cell? ⟨g, o + i, none⟩ = some v := by
  have hil : i < n := by have := (List.getElem?_eq_some_iff.1 hi).1; rw [h.len] at this; exact this
  rcases h.row with h0 | ⟨g', cs, hA, hg, _, hl, hc⟩
  · omega
  · injection hA with hA
    injection hA with hA ho _
    subst hA; subst ho
    rw [Nat.zero_add, cell_of_row w g i cs.toArray T _ hg]
    have := hc i hil
    rw [Nat.zero_add, hi] at this
    simpa using this
end
theorem vals_snoc {vs : List Value} {i : Nat} {f : Nat → Value} {v : Value} (hl : vs.length = i) (h : ∀ q, q < i → vs[q]? = some (f q)) (hv : f i = v) : ∀ q, q < i + 1 → (vs ++ [v])[q]? = some (f q) := fun q hq => by
  rcases Nat.lt_or_ge q i with h1 | h1
  · rw [List.getElem?_append_left (by omega)]; exact h q h1
  · obtain rfl : q = i := by omega
    rw [List.getElem?_append_right (by omega), hl, hv]
    simp
structure RIn (w : World) (lo hi T' : Nat) (m : Nat) (N : Nat → Nat) (E : Nat → List Int) (SL : SlF) : Prop where
  lh : lo ≤ hi ∧ hi ≤ w.heap.size
  inner : ∀ i, i < m → OwS w lo T' 2 .i64 (SL i).1 (N i) (SL i).2 (E i) ∧ ∀ b o, (SL i).1 = some ⟨b, o, none⟩ → b < hi ∧ ∀ i', i' < m → i' ≠ i → ∀ b' o', (SL i').1 = some ⟨b', o', none⟩ → b' ≠ b
section
variable {w w' : World} {lo hi T' m : Nat} {N : Nat → Nat} {E : Nat → List Int} {SL : SlF}
theorem RIn.keep (h : RIn w lo hi T' m N E SL) (hs : w.heap.size ≤ w'.heap.size) (hk : ∀ g ob, (∃ cs fz, ob = .cells cs T' fz) → lo ≤ g → g < hi → w.heap[g]? = some ob → w'.heap[g]? = some ob) : RIn w' lo hi T' m N E SL := by
  refine ⟨⟨h.lh.1, Nat.le_trans h.lh.2 hs⟩, fun i hi' => ⟨?_, (h.inner i hi').2⟩⟩
  obtain ⟨⟨⟨h1, h2⟩, h3⟩, h4⟩ := h.inner i hi'
  refine ⟨⟨h1, ?_⟩, Nat.le_trans h3 hs⟩
  rcases h2 with h2 | ⟨g, cap, cur, hv, hb, hg, r⟩
  · exact .inl h2
  · exact .inr ⟨g, cap, cur, hv, hb, hk g _ ⟨_, _, rfl⟩ hb (h4 g 0 (by injection hv)).1 hg, r⟩
theorem RIn.ext (h : RIn w lo hi T' m N E SL) (e : Ext w w') : RIn w' lo hi T' m N E SL := h.keep e.size fun _ _ _ _ _ hg => e.blk hg
theorem RIn.bl {base : Nat} (h : RIn w lo hi T' m N E SL) (e : Below base w w') (hb : hi ≤ base) : RIn w' lo hi T' m N E SL := h.keep e.size fun g _ _ _ h2 hg => bl_blk e hg (by omega)
theorem RIn.bt {T1 : Nat} (h : RIn w lo hi T' m N E SL) (e : Bt T1 w w') (hs : w.heap.size ≤ w'.heap.size) (hT : T' ≠ T1) : RIn w' lo hi T' m N E SL :=
  h.keep hs fun g ob ⟨cs, fz, he⟩ _ _ hg => by subst he; exact bt_blkT e hg hT
theorem RIn.st {b : Nat} (h : RIn w lo hi T' m N E SL) (e : St b w w') (hb : hi ≤ b ∨ b < lo) : RIn w' lo hi T' m N E SL := h.keep (Nat.le_of_eq e.size.symm) fun g _ _ h1 h2 hg => e.blk hg (by omega)
theorem RIn.zero {lo hi : Nat} (h : lo ≤ hi ∧ hi ≤ w.heap.size) : RIn w lo hi T' 0 N E SL := ⟨h, fun i hi => absurd hi (Nat.not_lt_zero _)⟩
theorem RIn.mono {hi2 : Nat} (h : RIn w lo hi T' m N E SL) (hh : hi ≤ hi2) (h2 : hi2 ≤ w.heap.size) : RIn w lo hi2 T' m N E SL :=
  ⟨⟨by have := h.lh; omega, h2⟩, fun i hi' => ⟨(h.inner i hi').1, fun b o hA => ⟨by have := ((h.inner i hi').2 b o hA).1; omega, ((h.inner i hi').2 b o hA).2⟩⟩⟩
theorem RIn.lo_le {lo2 : Nat} (h : RIn w lo hi T' m N E SL) (hl : lo2 ≤ lo) : RIn w lo2 hi T' m N E SL :=
  ⟨⟨by have := h.lh; omega, h.lh.2⟩, fun i hi' => ⟨(h.inner i hi').1.mono hl, (h.inner i hi').2⟩⟩
theorem RIn.congr {N' : Nat → Nat} {E' : Nat → List Int} {SL' : SlF} (h : RIn w lo hi T' m N E SL) (hN : ∀ i, i < m → N' i = N i) (hE : ∀ i, i < m → E' i = E i) (hS : ∀ i, i < m → SL' i = SL i) : RIn w lo hi T' m N' E' SL' :=
  ⟨h.lh, fun i hi' => by
    rw [hN i hi', hE i hi', hS i hi']
    exact ⟨(h.inner i hi').1, fun b o hA => ⟨((h.inner i hi').2 b o hA).1, fun i' hi2 hne b' o' hb' => ((h.inner i hi').2 b o hA).2 i' hi2 hne b' o' (by rw [← hS i' hi2]; exact hb')⟩⟩⟩
theorem RIn.snoc {s k c : Nat} {B : Option Addr} {L : List Int} (h : RIn w lo hi T' m N E SL) (hO : OwS w s T' 2 .i64 B k c L) (hs : hi ≤ s) (hN : N m = k) (hE : E m = L) : RIn w lo w.heap.size T' (m + 1) N E (updA SL m (B, c)) := by
  have hlh := h.lh
  refine ⟨⟨by omega, Nat.le_refl _⟩, fun i hi' => ?_⟩
  by_cases him : i = m
  · subst him
    rw [updA_same, hN, hE]
    refine ⟨hO.mono (by omega), fun b o hA => ⟨(hO.lt b o hA).1.2, fun i' hi2 hne b' o' hb' => ?_⟩⟩
    rw [updA_ne _ _ hne] at hb'
    have := ((h.inner i' (by omega)).2 b' o' hb').1
    have := (hO.lt b o hA).1.1
    omega
  · rw [updA_ne _ _ him]
    refine ⟨(h.inner i (by omega)).1, fun b o hA => ⟨by have := ((h.inner i (by omega)).2 b o hA).1; omega, fun i' hi2 hne b' o' hb' => ?_⟩⟩
    by_cases him2 : i' = m
    · subst him2
      rw [updA_same] at hb'
      have := ((h.inner i (by omega)).2 b o hA).1
      have := (hO.lt b' o' hb').1.1
      omega
    · rw [updA_ne _ _ him2] at hb'
      exact ((h.inner i (by omega)).2 b o hA).2 i' (by omega) hne b' o' hb'
theorem rr_of {base T l c : Nat} {A : Option Addr} {vs : List Value} (h : OwV w base T A l c vs) (hR : RIn w lo hi T' l N E SL) (hb : lo ≤ base) (hv : ∀ i, i < l → vs[i]? = some (.slice (SL i).1 (N i) (SL i).2)) : RR w lo w.heap.size A l N E SL := by
  refine ⟨Nat.le_refl _, ?_, fun i hi' => ?_⟩
  · rcases h.row with h0 | ⟨g, cs, hA, hg, hr, hl, hc⟩
    · exact .inl h0
    · exact .inr ⟨g, 0, T, cs.toArray, _, hA, hg, ⟨by omega, hr.2⟩, fun i hi' => by have := hc i hi'; rw [hv i hi'] at this; simpa using this⟩
  · obtain ⟨h1, h2⟩ := hR.inner i hi'
    exact ⟨h1.cap, h1.rd, h1.len, fun g o hA _ => ⟨(h1.lt g o hA).1.1, (h1.lt g o hA).1.2⟩⟩
end
section
variable {P : Program} {n : Nat} {fr : Fr} {w : World} {ty : TypeId}
theorem bt_of_grownS2 {w w' : World} {base T n c s : Nat} {A : Option Addr} {xs : List Value} (hO : w.ownsRow base T s (.slice A n c) n xs) (h : w.grownBy w' (Value.ownBlock (.slice A n c))) : Bt T w w' := ⟨fun g o hg hne => by
  have hk := lt_of_blk hg
  refine (h.block g hk (fun he => ?_)).trans hg
  rcases hO.2 with ⟨hv, hn⟩ | ⟨g', cap, cur, hv, hb, hg', _⟩
  · injection hv with hA _ _
    rw [hA] at he
    simp [Value.ownBlock] at he
  · injection hv with hA _ _
    rw [hA] at he
    simp [Value.ownBlock] at he
    subst he
    rw [hg'] at hg
    exact hne _ _ (Option.some.inj hg).symm⟩
theorem oe_appendSt {t e : TypeId} {x y : Operand} {k : IntKind} {A : Option Addr} {m c base bytes g c2 T2 sz : Nat} {L M : List Int} {z : Value} {K : Value → World → Prop} (ht : P.underlying t = some (.slice e))
    (hi : (P.info? e).map (fun i => (i.zero, i.size, i.bytes)) = some (some z, sz, bytes)) (hz : z.cells.size = sz) (hsz : 0 < sz) (hx : EV n fr x (.slice A m c)) (hy : EV n fr y (.slice (some ⟨g, 0, none⟩) 1 c2))
    (hO : OwS w base e sz k A m c L) (hg : w.heap[g]? = some (.cells (M.map (Value.int k)).toArray T2)) (hM : M.length = sz) (hb : (m + 1) * bytes ≤ 140737488355328) (hl : m + 1 ≤ 140737488355328)
    (h : ∀ A' c' w', OwS w' base e sz k A' (m + 1) c' (L ++ M) → Below base w w' → Bt e w w' → K (.slice A' (m + 1) c') w') : OE P n (.call { callee := .builtin .append, args := #[x, y], argTypes := #[t, t] }) ty fr w K := by
  cases hin : P.info? e with
  | none => simp [hin] at hi
  | some inf =>
    simp only [hin, Option.map_some, Option.some.injEq, Prod.mk.injEq] at hi
    obtain ⟨h1, h2, h3⟩ := hi
    obtain ⟨v', w', hr, hown, hgr, _⟩ := run_append_own (P := P) w base t ty e inf z sz bytes ht hin h1 h2 h3 hz hsz (.slice A m c) m _ hO.1 ⟨g, 0, none⟩ 1 c2 (M.map (Value.int k)) (by simp [hM])
      (fun j u hj => by
        have ha : (⟨g, 0, none⟩ : Addr).add j = ⟨g, 0 + j, none⟩ := by unfold Addr.add; split <;> simp_all
        rw [ha, cell_of_row w g (0 + j) _ T2 _ hg, Nat.zero_add]
        simpa using hj) (ints_oneCell k M) (by simp only [maxLen]; omega) hb hO.2
    obtain ⟨A', c', rfl⟩ := own_sliceS hown
    have hO' : OwS w' base e sz k A' (m + 1) c' (L ++ M) := by
      unfold OwS
      rw [List.map_append]
      exact ⟨hown, Nat.le_trans hO.2 hgr.size⟩
    refine OE.of_run (fun _ _ _ _ => ?_) (h A' c' w' hO' (below_of_grown hgr hO.2 fun gg hgg => (hO.1.lt gg hgg).1) (bt_of_grownS2 hO.1 hgr))
    unfold EV at hx hy
    simp only [execOp, resolve, invoke, builtin, hx, hy, hr, List.map_toArray, List.map_cons, List.map_nil, Sem.run_bind, Sem.run_pure, Result.andThen_ok]
theorem oe_appendV {t e : TypeId} {x y : Operand} {A : Option Addr} {m c base bytes g c2 T2 : Nat} {vs : List Value} {v1 z : Value} {K : Value → World → Prop} (ht : P.underlying t = some (.slice e))
    (hi : (P.info? e).map (fun i => (i.zero, i.size, i.bytes)) = some (some z, 1, bytes)) (hz : z.cells.size = 1) (hx : EV n fr x (.slice A m c)) (hy : EV n fr y (.slice (some ⟨g, 0, none⟩) 1 c2))
    (hO : OwV w base e A m c vs) (hg : w.heap[g]? = some (.cells #[v1] T2)) (h1v : v1.oneCell' = true) (hb : (m + 1) * bytes ≤ 140737488355328) (hl : m + 1 ≤ 140737488355328)
    (h : ∀ A' c' w', OwV w' base e A' (m + 1) c' (vs ++ [v1]) → Below base w w' → Bt e w w' → K (.slice A' (m + 1) c') w') : OE P n (.call { callee := .builtin .append, args := #[x, y], argTypes := #[t, t] }) ty fr w K := by
  cases hin : P.info? e with
  | none => simp [hin] at hi
  | some inf =>
    simp only [hin, Option.map_some, Option.some.injEq, Prod.mk.injEq] at hi
    obtain ⟨h1, h2, h3⟩ := hi
    obtain ⟨v', w', hr, hown, hgr, _⟩ := run_append_own (P := P) w base t ty e inf z 1 bytes ht hin h1 h2 h3 hz (by decide) (.slice A m c) m _ hO.1 ⟨g, 0, none⟩ 1 c2 [v1] (by simp)
      (fun j u hj => by
        have ha : (⟨g, 0, none⟩ : Addr).add j = ⟨g, 0 + j, none⟩ := by unfold Addr.add; split <;> simp_all
        rw [ha, cell_of_row w g (0 + j) _ T2 _ hg, Nat.zero_add]
        simpa using hj) (fun u hu => by simp only [List.mem_singleton] at hu; subst hu; exact h1v) (by simp only [maxLen]; omega) hb hO.2
    obtain ⟨A', c', rfl⟩ := own_sliceS hown
    refine OE.of_run (fun _ _ _ _ => ?_) (h A' c' w' ⟨hown, Nat.le_trans hO.2 hgr.size⟩ (below_of_grown hgr hO.2 fun gg hgg => (hO.1.lt gg hgg).1) (bt_of_grownS2 hO.1 hgr))
    unfold EV at hx hy
    simp only [execOp, resolve, invoke, builtin, hx, hy, hr, List.map_toArray, List.map_cons, List.map_nil, Sem.run_bind, Sem.run_pure, Result.andThen_ok]
theorem oe_storeV {t : TypeId} {x y : Operand} {base T c g o i m : Nat} {vs : List Value} {v : Value} {K : Value → World → Prop} (hs : sizeB P t = some 1) (hx : EV n fr x (.pointer (some ⟨g, o + i, none⟩))) (hy : EV n fr y v) (hv : v.cells = #[v]) (h1v : v.oneCell' = true)
    (hO : OwV w base T (some ⟨g, o, none⟩) m c vs) (hi : i < m) (h : ∀ w', OwV w' base T (some ⟨g, o, none⟩) m c (vs.set i v) → Below base w w' → Bt T w w' → K undef w') : OE P n (.store t x y) ty fr w K := by
  rcases hO.1.2 with ⟨hv', hn⟩ | ⟨g', cap, cur, hv', hb, hg, h1, h2, h3, h4⟩
  · injection hv' with hA _ _
    cases hA
  · injection hv' with hA _ hc
    injection hA with hA
    injection hA with h5 h6 _
    subst h5; subst h6; subst hc
    rw [Nat.zero_add] at hx
    have hlc : i < cur.toList.length := by simp; omega
    have hst : stC cur.toList i [v] = some (cur.toList.set i v) := by
      have := stC_mid i cur.toList [v] (by simp at hlc ⊢; omega)
      rw [this, List.set_eq_take_append_cons_drop, if_pos hlc]
      simp
    have hlen := hO.len
    refine oe_store hx hy hs hv rfl (by simp [h1v]) (cs := cur.toList) (T := T) (by simpa using hg) hst fun w' hs' hb' => h w' ⟨⟨by simpa using hlen, .inr ⟨g, c, _, rfl, hb, hb', by simpa using h1, h2, by simpa using h3, ?_⟩⟩, by rw [hs'.size]; exact hO.2⟩
      ⟨hs'.os, hs'.tape, hs'.output, Nat.le_of_eq hs'.size.symm, fun j hj => hs'.block j (by omega)⟩ ⟨fun b ob hb2 hne => hs'.blk hb2 fun he => by
        subst he
        rw [hg] at hb2
        exact hne _ _ (Option.some.inj hb2).symm⟩
    simp only [Nat.mul_one] at h4 ⊢
    rw [List.take_set, h4]
end
end Go.Proofs.YtmbpomcbdopgnaaDoor.Fw
set_option linter.unusedVariables false
set_option linter.unusedSimpArgs false
namespace Go.Proofs.YtmbpomcbdopgnaaDoor.Fw
open Go Go.RowKit
def NilIf (e : Value) (b : Bool) : Prop := (e = .nilIface ∧ b = true) ∨ (∃ tp a, e = .iface tp (.pointer a)) ∧ b = false
section
variable {P : Program} {n : Nat} {fr : Fr} {w : World} {ty : TypeId}
theorem dv_eqNil {x : Operand} {e : Value} {b : Bool} {t t' : TypeId} (ht : P.underlying t = some (.interface (P.methodsAt t))) (hx : EV n fr x e) (h : NilIf e b) : DV P n (.binOp .eql t x (.const .nilIface) t') ty fr w (.bool b) := fun _ _ _ _ => by
  unfold EV at hx
  have hy : (actOf n fr).eval (.const .nilIface) = .nilIface := rfl
  rcases h with ⟨rfl, rfl⟩ | ⟨⟨tp, a, rfl⟩, rfl⟩
  · simp [execOp, hx, hy, eqGuard, binOp, run_equal_nil_nil w t ht]
  · simp [execOp, hx, hy, eqGuard, binOp, run_equal_held_nil w t tp (.pointer a) ht]
end
end Go.Proofs.YtmbpomcbdopgnaaDoor.Fw
set_option linter.unusedVariables false
set_option linter.unusedSimpArgs false
namespace Go.Proofs.YtmbpomcbdopgnaaDoor.Fw
open Go
def i8 (l : List UInt8) : List Int := l.map fun b => (b.toNat : Int)
theorem u8_i8 (l : List UInt8) : u8 (i8 l) = l := by
  unfold u8 i8
  rw [List.map_map]
  conv => rhs; rw [← List.map_id l]
  apply List.map_congr_left
  intro b _
  show UInt8.ofNat ((b.toNat : Int)).toNat = b
  simp
theorem i8_u8 {L : List Int} (h : okW 256 L) : i8 (u8 L) = L := by
  unfold u8 i8
  rw [List.map_map]
  conv => rhs; rw [← List.map_id L]
  apply List.map_congr_left
  intro x hx
  have := h x hx
  show ((UInt8.ofNat x.toNat).toNat : Int) = x
  rw [UInt8.toNat_ofNat']
  omega
theorem ok_i8 (l : List UInt8) : okW 256 (i8 l) := by
  intro c hc
  obtain ⟨b, _, rfl⟩ := List.mem_map.1 hc
  have := b.toNat_lt
  omega
theorem bOf_i8 (s : ByteArray) : bOf (i8 s.data.toList) = s := by
  have h : (bOf (i8 s.data.toList)).data.toList = s.data.toList := u8_i8 _
  cases s with
  | mk d =>
    cases d with
    | mk l => exact congrArg (fun q => (⟨⟨q⟩⟩ : ByteArray)) h
def splB (sep s : List Int) : List (List Int) := (Lib.splitK (u8 sep) 0 (Lib.count (u8 s) (u8 sep)) (u8 s)).map i8
theorem ok_splB (sep s : List Int) : ∀ x ∈ splB sep s, okW 256 x := by
  intro x hx
  obtain ⟨l, _, rfl⟩ := List.mem_map.1 hx
  exact ok_i8 l
theorem splB_vals (sep s : List Int) (n : Nat) (hn : n = Lib.count (u8 s) (u8 sep)) : (Lib.splitB (bOf sep) 0 n (bOf s)).map Value.string = (splB sep s).map fun x => Value.string (bOf x) := by
  subst hn
  have h := Lib.splitB_data (bOf sep) 0 (Lib.count (u8 s) (u8 sep)) (bOf s)
  unfold splB
  rw [show Lib.splitK (u8 sep) 0 (Lib.count (u8 s) (u8 sep)) (u8 s) = (Lib.splitB (bOf sep) 0 (Lib.count (u8 s) (u8 sep)) (bOf s)).map (·.data.toList) from h.symm, List.map_map, List.map_map]
  apply List.map_congr_left
  intro b _
  show Value.string b = Value.string (bOf (i8 b.data.toList))
  rw [bOf_i8]
def cleanT (sep x : List UInt8) : Prop := Lib.index x sep = -1 ∧ ∀ r, Lib.index (x ++ (sep ++ r)) sep = (x.length : Int)
theorem clean_of {sep : List UInt8} (hs : sep ≠ []) : ∀ {x : List UInt8}, (∀ (y z : List UInt8), x = y ++ z → z ≠ [] → sep.isPrefixOf z = false ∧ ∀ r, sep.isPrefixOf (z ++ (sep ++ r)) = false) → cleanT sep x
  | [], _ => by
    refine ⟨?_, fun r => ?_⟩
    · cases sep with
      | nil => exact absurd rfl hs
      | cons a t => rfl
    · cases sep with
      | nil => exact absurd rfl hs
      | cons a t =>
        show Lib.index (a :: (t ++ r)) (a :: t) = 0
        rw [Lib.index, if_pos (by rw [List.isPrefixOf_iff_prefix]; exact ⟨r, rfl⟩)]
  | b :: x, h => by
    have ih := clean_of hs (x := x) (fun y z he hz => h (b :: y) z (by rw [he]; rfl) hz)
    have h0 := h [] (b :: x) rfl (by simp)
    refine ⟨?_, fun r => ?_⟩
    · rw [Lib.index, if_neg (by rw [h0.1]; simp), if_pos (by rw [ih.1]; rfl)]
    · show Lib.index (b :: (x ++ (sep ++ r))) sep = _
      have h2 := ih.2 r
      rw [Lib.index, if_neg (by have := h0.2 r; rw [List.cons_append] at this; rw [this]; simp), if_neg (by rw [h2]; simp), h2]
      simp
theorem clean1 {c : UInt8} {x : List UInt8} (h : ∀ b ∈ x, b ≠ c) : cleanT [c] x := clean_of (by simp) fun y z he hz => by
  cases z with
  | nil => exact absurd rfl hz
  | cons b t =>
    have hb : b ≠ c := h b (by rw [he]; simp)
    have : (c == b) = false := by simpa using fun e => hb e.symm
    exact ⟨by simp [List.isPrefixOf, this], fun r => by simp [List.isPrefixOf, this]⟩
theorem clean3 {a c d : UInt8} {x : List UInt8} (h : ∀ b ∈ x, b ≠ c) (hca : c ≠ a) : cleanT [a, c, d] x := clean_of (by simp) fun y z he hz => by
  cases z with
  | nil => exact absurd rfl hz
  | cons b t =>
    cases t with
    | nil =>
      have h2 : (c == a) = false := by simpa using hca
      exact ⟨by simp [List.isPrefixOf], fun r => by simp [List.isPrefixOf, h2]⟩
    | cons b2 t2 =>
      have hb : b2 ≠ c := h b2 (by rw [he]; simp)
      have h2 : (c == b2) = false := by simpa using fun e => hb e.symm
      exact ⟨by simp [List.isPrefixOf, h2], fun r => by simp [List.isPrefixOf, h2]⟩
theorem join_cc (sep x y : List UInt8) (r : List (List UInt8)) : Lib.join (x :: y :: r) sep = x ++ (sep ++ Lib.join (y :: r) sep) := by simp [Lib.join, List.intercalate, List.intersperse]
theorem split_join {sep : List UInt8} (hs : sep ≠ []) : ∀ (Ls : List (List UInt8)), Ls ≠ [] → (∀ x ∈ Ls, cleanT sep x) → Lib.splitK sep 0 (Lib.count (Lib.join Ls sep) sep) (Lib.join Ls sep) = Ls
  | [], h, _ => absurd rfl h
  | [x], _, h => by
    rw [Lib.join_one, Lib.count_miss (h x (by simp)).1]
    rfl
  | x :: y :: r, _, h => by
    have hx := h x (by simp)
    have ih := split_join hs (y :: r) (by simp) (fun z hz => h z (List.mem_cons_of_mem _ hz))
    rw [join_cc]
    have hi := hx.2 (Lib.join (y :: r) sep)
    have hd : (x ++ (sep ++ Lib.join (y :: r) sep)).drop (x.length + sep.length) = Lib.join (y :: r) sep := by rw [← List.append_assoc, ← List.length_append, List.drop_left]
    rw [Lib.count_hit hs hi, hd, Nat.add_comm 1]
    show (if Lib.index _ sep == -1 then _ else _) = _
    rw [if_neg (by rw [hi]; simp), hi]
    simp only [Int.toNat_natCast, Nat.add_zero, List.take_left]
    rw [hd, ih]
theorem splB_join {sep : List Int} (hsep : sep ≠ []) {Ls : List (List Int)} (h : Ls ≠ []) (hc : ∀ x ∈ Ls, cleanT (u8 sep) (u8 x)) (hok : ∀ x ∈ Ls, okW 256 x) : splB sep (joinL sep Ls) = Ls := by
  unfold splB
  rw [← u8_join, split_join (by simpa [u8] using hsep) _ (by simpa using h) (by
    intro x hx
    obtain ⟨y, hy, rfl⟩ := List.mem_map.1 hx
    exact hc y hy), List.map_map]
  conv => rhs; rw [← List.map_id Ls]
  apply List.map_congr_left
  intro x hx
  exact i8_u8 (hok x hx)
theorem splitK_len (sep : List UInt8) : ∀ (k : Nat) (s : List UInt8), (Lib.splitK sep 0 k s).length ≤ k + 1
  | 0, s => Nat.le_refl _
  | k + 1, s => by
    unfold Lib.splitK
    split
    · simp
    · have := splitK_len sep k (s.drop ((Lib.index s sep).toNat + sep.length)); simp only [List.length_cons]; omega
theorem splitK_piece (sep : List UInt8) : ∀ (k : Nat) (s : List UInt8), ∀ x ∈ Lib.splitK sep 0 k s, x.length ≤ s.length
  | 0, s, x, h => by simp [Lib.splitK] at h; subst h; exact Nat.le_refl _
  | k + 1, s, x, h => by
    unfold Lib.splitK at h
    split at h
    · simp at h; subst h; exact Nat.le_refl _
    · rcases List.mem_cons.1 h with rfl | h
      · simp; omega
      · have := splitK_piece sep k _ x h
        simp at this; omega
theorem splB_len {sep s : List Int} (hs : sep ≠ []) : (splB sep s).length ≤ s.length + 1 := by
  have h1 := splitK_len (u8 sep) (Lib.count (u8 s) (u8 sep)) (u8 s)
  have h2 := Lib.countB_le (bOf sep) (by cases sep with | nil => exact absurd rfl hs | cons a t => simp [bOf_size]) (bOf s).size (bOf s) (Nat.le_refl _)
  have h3 : Lib.countB (bOf s) (bOf sep) = Lib.count (u8 s) (u8 sep) := rfl
  rw [h3, bOf_size] at h2
  unfold splB
  rw [List.length_map]
  omega
theorem splB_piece {sep s : List Int} : ∀ x ∈ splB sep s, x.length ≤ s.length := by
  intro x hx
  obtain ⟨l, hl, rfl⟩ := List.mem_map.1 hx
  have := splitK_piece _ _ _ l hl
  simpa [i8, u8] using this
theorem getD_len {P : List (List Int)} {m : Nat} (h : ∀ x ∈ P, x.length ≤ m) (i : Nat) : (P.getD i []).length ≤ m := by
  rw [List.getD_eq_getElem?_getD]
  cases hi : P[i]? with
  | none => exact Nat.zero_le _
  | some x => exact h x (List.mem_of_getElem? hi)
theorem getD_ok {P : List (List Int)} (h : ∀ x ∈ P, okW 256 x) (i : Nat) : okW 256 (P.getD i []) := by
  rw [List.getD_eq_getElem?_getD]
  cases hi : P[i]? with
  | none => exact fun c hc => by cases hc
  | some x => exact h x (List.mem_of_getElem? hi)
theorem txt_chars (z : Int) : ∀ c ∈ txtL z, c = 45 ∨ (48 ≤ c ∧ c ≤ 57) := by
  have hdg : ∀ n : Nat, ∀ c ∈ dg n, 48 ≤ c ∧ c ≤ 57 := by
    intro n
    induction n using Nat.strongRecOn with
    | _ n ih =>
      intro c hc
      by_cases h0 : n = 0
      · subst h0; rw [dg_zero] at hc; cases hc
      · rw [dg_pos h0] at hc
        rcases List.mem_cons.1 hc with rfl | hc
        · omega
        · exact ih (n / 10) (by omega) c hc
  intro c hc
  unfold txtL at hc
  rcases List.mem_append.1 hc with h | h
  · split at h
    · left; simpa using h
    · cases h
  · split at h
    · right; simp at h; omega
    · right; exact hdg _ c (List.mem_reverse.1 h)
theorem u8_ne {L : List Int} {c : Int} {d : UInt8} (hok : okW 256 L) (hd : (d.toNat : Int) = c) (h : c ∉ L) : ∀ b ∈ u8 L, b ≠ d := by
  intro b hb he
  obtain ⟨x, hx, rfl⟩ := List.mem_map.1 hb
  have := hok x hx
  have h2 : ((UInt8.ofNat x.toNat).toNat : Int) = x := by rw [UInt8.toNat_ofNat']; omega
  rw [he, hd] at h2
  exact h (h2 ▸ hx)
theorem txt_no (z : Int) {c : Int} (h : c < 45 ∨ (45 < c ∧ c < 48) ∨ 57 < c) : c ∉ txtL z := fun hc => by
  have := txt_chars z c hc; omega
theorem wordL_no (E : List Int) {c : Int} (h : c < 45 ∨ (45 < c ∧ c < 48) ∨ 57 < c) : ∀ k, ∀ x ∈ wordL E k, c ∉ x
  | 0, x, hx => by cases hx
  | k + 1, x, hx => by
    simp only [wordL, List.mem_append, List.mem_singleton] at hx
    rcases hx with (hx | rfl) | rfl
    · exact wordL_no E h k x hx
    · exact txt_no _ h
    · exact txt_no _ h
theorem joinL_no {sep : List Int} {c : Int} (hs : c ∉ sep) : ∀ L : List (List Int), (∀ x ∈ L, c ∉ x) → c ∉ joinL sep L
  | [], _ => fun h => by cases h
  | [x], h => h x (by simp)
  | x :: y :: r, h => by
    have h1 := joinL_no hs (y :: r) (fun z hz => h z (List.mem_cons_of_mem _ hz))
    have h2 := h x (by simp)
    show c ∉ x ++ sep ++ joinL sep (y :: r)
    simp only [List.mem_append, not_or]
    exact ⟨⟨h2, hs⟩, h1⟩
theorem splB_ringT (E : List Int) {k : Nat} (hk : k ≠ 0) : splB [32] (ringT E k) = wordL E k :=
  splB_join (by simp) (fun h => hk (by have := congrArg List.length h; rw [wordL_len] at this; simp at this; omega)) (fun x hx => clean1 (c := 32) (u8_ne (c := 32) (ok_wordL E k x hx) rfl (wordL_no E (by omega) k x hx))) (ok_wordL E k)
theorem ringsL_no (N : Nat → Nat) (E : Nat → List Int) : ∀ i, ∀ x ∈ ringsL N E i, (47 : Int) ∉ x
  | 0, x, hx => by cases hx
  | i + 1, x, hx => by
    simp only [ringsL, List.mem_append, List.mem_singleton] at hx
    rcases hx with hx | rfl
    · exact ringsL_no N E i x hx
    · exact joinL_no (by decide) _ (wordL_no _ (by omega) _)
theorem splB_layT (N : Nat → Nat) (E : Nat → List Int) {l : Nat} (hl : l ≠ 0) : splB [32, 47, 32] (layT N E l) = ringsL N E l :=
  splB_join (by simp) (fun h => hl (by have := congrArg List.length h; rw [ringsL_len] at this; simpa using this)) (fun x hx => clean3 (a := 32) (c := 47) (d := 32) (u8_ne (c := 47) (ok_ringsL N E l x hx) rfl (ringsL_no N E l x hx)) (by decide)) (ok_ringsL N E l)
def decS (w : List Int) : Prop := short (numD w) ∧ txtL (numD w) = w
instance (w : List Int) : Decidable (decS w) := by unfold decS; infer_instance
theorem decS_txt {m : Int} (h : short m) : decS (txtL m) := by unfold decS; rw [(canD_txt m).2]; exact ⟨h, rfl⟩
theorem decFrom_dg : ∀ (n acc : Nat), Lib.decFrom acc (u8 (dg n).reverse) = some (acc * 10 ^ (dg n).length + n) := by
  have app : ∀ (l1 l2 : List UInt8) (acc m : Nat), Lib.decFrom acc l1 = some m → Lib.decFrom acc (l1 ++ l2) = Lib.decFrom m l2 := by
    intro l1
    induction l1 with
    | nil => intro l2 acc m h; simp [Lib.decFrom] at h; subst h; rfl
    | cons b t ih =>
      intro l2 acc m h
      simp only [Lib.decFrom, List.cons_append] at h ⊢
      cases hd : Lib.digitVal b with
      | none => rw [hd] at h; cases h
      | some d => rw [hd] at h; exact ih l2 _ m h
  intro n
  induction n using Nat.strongRecOn with
  | _ n ih =>
    intro acc
    by_cases h0 : n = 0
    · subst h0; rw [dg_zero]; simp [u8, Lib.decFrom]
    · rw [dg_pos h0, List.reverse_cons]
      have h1 := ih (n / 10) (by omega) acc
      have e : u8 ((dg (n / 10)).reverse ++ [48 + ((n % 10 : Nat) : Int)]) = u8 (dg (n / 10)).reverse ++ [UInt8.ofNat (48 + n % 10)] := by
        unfold u8; rw [List.map_append]; congr 2
      rw [e, app _ _ _ _ h1]
      have hd : Lib.digitVal (UInt8.ofNat (48 + n % 10)) = some (n % 10) := by
        have e2 : (UInt8.ofNat (48 + n % 10)).toNat = 48 + n % 10 := by rw [UInt8.toNat_ofNat']; omega
        unfold Lib.digitVal
        rw [e2, if_pos (by omega)]
        congr 1
        omega
      simp only [Lib.decFrom, hd, List.length_cons, Nat.pow_succ]
      congr 1
      have := Nat.div_add_mod n 10
      rw [Nat.add_mul, Nat.mul_assoc]
      omega
theorem dg_ne {n : Nat} (h : n ≠ 0) : dg n ≠ [] := by rw [dg_pos h]; simp
theorem atoi_txt (z : Int) : Lib.atoi (u8 (txtL z)) = some z := by
  have nat : ∀ n : Nat, n ≠ 0 → Lib.decNat (u8 (dg n).reverse) = some n := fun n hn => by
    unfold Lib.decNat
    rw [if_neg (by simp [u8, dg_ne hn]), decFrom_dg]
    simp
  by_cases h : z < 0
  · unfold txtL
    rw [if_pos h, if_neg (by omega)]
    show Lib.atoi ((45 : UInt8) :: u8 (dg z.natAbs).reverse) = some z
    rw [Lib.atoi, if_pos (by decide), nat _ (by omega)]
    simp
    omega
  · by_cases h0 : z = 0
    · subst h0; rfl
    · unfold txtL
      rw [if_neg h, if_neg h0, List.nil_append]
      have hn := nat z.natAbs (by omega)
      cases hl : u8 (dg z.natAbs).reverse with
      | nil =>
        exfalso
        have : (dg z.natAbs).reverse = [] := by simpa [u8] using hl
        exact dg_ne (show z.natAbs ≠ 0 by omega) (by simpa using this)
      | cons b t =>
        have hb : b.toNat = 48 + 0 ∨ 48 ≤ b.toNat ∧ b.toNat ≤ 57 := by
          right
          have hmem : b ∈ u8 (txtL z) := by unfold txtL; rw [if_neg h, if_neg h0, List.nil_append, hl]; simp
          obtain ⟨x, hx, rfl⟩ := List.mem_map.1 hmem
          have h1 := txt_chars z x hx
          have h2 : x ≠ 45 := by
            intro h45
            subst h45
            have : (45 : Int) ∈ (dg z.natAbs).reverse := by unfold txtL at hx; rw [if_neg h, if_neg h0, List.nil_append] at hx; exact hx
            have hc : ∀ n : Nat, ∀ c ∈ dg n, 48 ≤ c := by
              intro n
              induction n using Nat.strongRecOn with
              | _ n ih =>
                intro c hc
                by_cases h0 : n = 0
                · subst h0; rw [dg_zero] at hc; cases hc
                · rw [dg_pos h0] at hc
                  rcases List.mem_cons.1 hc with rfl | hc
                  · omega
                  · exact ih (n / 10) (by omega) c hc
            have := hc _ _ (List.mem_reverse.1 this)
            omega
          rw [UInt8.toNat_ofNat']
          omega
        have h45 : (b == 45) = false := by
          have : b ≠ 45 := fun e => by subst e; simp at hb
          simpa using this
        have h43 : (b == 43) = false := by
          have : b ≠ 43 := fun e => by subst e; simp at hb
          simpa using this
        rw [hl] at hn
        rw [Lib.atoi, h45, h43, hn]
        simp
        omega
theorem dg_len15 : ∀ (k n : Nat), n < 10 ^ k → (dg n).length ≤ k
  | 0, n, h => by
    have : n = 0 := by simpa using h
    subst this; rw [dg_zero]; exact Nat.le_refl _
  | k + 1, n, h => by
    by_cases h0 : n = 0
    · subst h0; rw [dg_zero]; exact Nat.zero_le _
    · rw [dg_pos h0, List.length_cons]
      have := dg_len15 k (n / 10) (by rw [Nat.pow_succ] at h; omega)
      omega
theorem txt_len15 {m : Int} (h : short m) : (txtL m).length ≤ 17 := by
  have h1 := dg_len15 15 m.natAbs (by unfold short at h; have e : (10 : Nat) ^ 15 = 1000000000000000 := (by decide); omega)
  unfold txtL
  rw [List.length_append]
  split <;> split <;> simp <;> omega
theorem parse_txt {m : Int} (h : short m) : Lib.parseIntB 64 (u8 (txtL m)) = .ok m := by
  rw [Lib.parseIntB_64, Lib.atoiAll_short _ (by
    have hl : (txtL m).length ≤ 17 := txt_len15 h
    simp only [u8, List.length_map]
    omega), atoi_txt]
  rfl
end Go.Proofs.YtmbpomcbdopgnaaDoor.Fw
set_option linter.unusedVariables false
set_option linter.unusedSimpArgs false
namespace Go.Proofs.YtmbpomcbdopgnaaDoor.Fw
open Go
theorem dec_ok {L : List Int} {b : Bool} {n : Int} (h1 : b = true → Lib.parseIntB 64 (u8 L) = .ok n) (h2 : b = false → ∀ m, Lib.parseIntB 64 (u8 L) ≠ .ok m) (hd : decS L) : b = true ∧ n = numD L := by
  have hp := parse_txt hd.1
  rw [hd.2] at hp
  cases b with
  | false => exact absurd hp (h2 rfl _)
  | true =>
    refine ⟨rfl, ?_⟩
    have := h1 rfl
    rw [hp] at this
    injection this with this
    exact this.symm
theorem dec_of {L : List Int} {n : Int} (hs : short n) (ht : txtL n = L) : decS L ∧ n = numD L := by
  subst ht
  exact ⟨decS_txt hs, (canD_txt n).2.symm⟩
abbrev noneL : List Int := [110, 111, 110, 101]
abbrev pcs (L : List Int) : List (List Int) := splB [32, 47, 32] L
abbrev wds (L : List Int) (i : Nat) : List (List Int) := splB [32] ((pcs L).getD i [])
def pcN (L : List Int) (i : Nat) : Nat := (wds L i).length / 2
def pcE (L : List Int) (i : Nat) : List Int := (wds L i).map numD
def rowOk (L : List Int) (i : Nat) : Prop := (wds L i).length % 2 = 0 ∧ ∀ k, k < (wds L i).length → decS ((wds L i).getD k [])
instance (L : List Int) (i : Nat) : Decidable (rowOk L i) := by unfold rowOk; infer_instance
theorem pcE_len {L : List Int} {i : Nat} (h : (wds L i).length % 2 = 0) : (pcE L i).length = pcN L i * 2 := by
  unfold pcE pcN; rw [List.length_map]; omega
def rdOK (L : List Int) : Prop := L.length ≤ 2000 ∧ L ≠ noneL ∧ (∀ i, i < (pcs L).length → rowOk L i) ∧ layR (pcs L).length (pcN L) (pcE L) = L
instance (L : List Int) : Decidable (rdOK L) := by unfold rdOK; infer_instance
def rdN (L : List Int) : Nat := if rdOK L then (pcs L).length else 0
theorem rdN_t {L : List Int} (h : rdOK L) : rdN L = (pcs L).length := if_pos h
theorem rdN_f {L : List Int} (h : ¬ rdOK L) : rdN L = 0 := if_neg h
abbrev rdB (L : List Int) : Prop := L.length ≤ 2000 ∧ (L = noneL ∨ rdOK L)
theorem map_txt {E : List Int} : ∀ k, k * 2 ≤ E.length → (wordL E k).map numD = E.take (k * 2)
  | 0, _ => by simp [wordL]
  | k + 1, h => by
    have ih := map_txt (E := E) k (by omega)
    show (wordL E k ++ [txtL (E.getD (k * 2) 0)] ++ [txtL (E.getD (k * 2 + 1) 0)]).map numD = _
    rw [List.map_append, List.map_append, ih]
    simp only [List.map_cons, List.map_nil, (canD_txt _).2]
    rw [show (k + 1) * 2 = k * 2 + 1 + 1 by omega, List.take_succ_eq_append_getElem (show k * 2 + 1 < E.length by omega), List.take_succ_eq_append_getElem (show k * 2 < E.length by omega)]
    simp [List.getD_eq_getElem?_getD, show k * 2 < E.length by omega, show k * 2 + 1 < E.length by omega]
theorem wordL_dec {E : List Int} : ∀ {k : Nat}, ringS E k → ∀ x ∈ wordL E k, decS x
  | 0, _, x, hx => by cases hx
  | k + 1, h, x, hx => by
    simp only [wordL, List.mem_append, List.mem_singleton] at hx
    rcases hx with (hx | rfl) | rfl
    · exact wordL_dec (fun q hq => h q (by omega)) x hx
    · exact decS_txt (h k (by omega)).1
    · exact decS_txt (h k (by omega)).2
theorem ringsL_get (N : Nat → Nat) (E : Nat → List Int) : ∀ {l i : Nat}, i < l → (ringsL N E l).getD i [] = ringT (E i) (N i)
  | 0, i, h => by omega
  | l + 1, i, h => by
    show (ringsL N E l ++ [ringT (E l) (N l)]).getD i [] = _
    have hl := ringsL_len N E l
    rcases Nat.lt_or_ge i l with h1 | h1
    · rw [List.getD_eq_getElem?_getD, List.getElem?_append_left (by omega), ← List.getD_eq_getElem?_getD]
      exact ringsL_get N E h1
    · obtain rfl : i = l := by omega
      rw [List.getD_eq_getElem?_getD, List.getElem?_append_right (by omega), hl]
      simp
theorem read_lay {L : List Int} {l : Nat} {N : Nat → Nat} {E : Nat → List Int} (hl : l ≠ 0) (hS : layS l N E) (hE : ∀ i, i < l → (E i).length = N i * 2) (hL : L = layT N E l) : (pcs L).length = l ∧ ∀ i, i < l → rowOk L i ∧ pcN L i = N i ∧ pcE L i = E i := by
  have hp : pcs L = ringsL N E l := by rw [hL]; exact splB_layT N E hl
  refine ⟨by rw [hp, ringsL_len], fun i hi => ?_⟩
  obtain ⟨h0, hr⟩ := hS.2.2 i hi
  have hw : wds L i = wordL (E i) (N i) := by
    show splB [32] ((pcs L).getD i []) = _
    rw [hp, ringsL_get N E hi]
    exact splB_ringT (E i) (by omega)
  have hwl : (wds L i).length = N i * 2 := by rw [hw, wordL_len]
  refine ⟨⟨by omega, fun k hk => ?_⟩, by unfold pcN; omega, ?_⟩
  · rw [hw] at hk ⊢
    refine wordL_dec hr _ ?_
    rw [List.getD_eq_getElem?_getD, List.getElem?_eq_getElem hk]
    exact List.getElem_mem hk
  · unfold pcE
    rw [hw, map_txt _ (by rw [hE i hi]; exact Nat.le_refl _), ← hE i hi, List.take_length]
theorem layR_nn {l : Nat} {N : Nat → Nat} {E : Nat → List Int} {L : List Int} (h : layR l N E = L) (h1 : L ≠ noneL) (h2 : L ≠ []) : l ≠ 0 ∧ layS l N E ∧ L = layT N E l := by
  by_cases h0 : l = 0
  · rw [layR_0 h0] at h; exact absurd h.symm h1
  · by_cases hS : layS l N E
    · rw [layR_t h0 hS] at h; exact ⟨h0, hS, h.symm⟩
    · rw [layR_f h0 hS] at h; exact absurd h.symm h2
theorem rd_same {L : List Int} {l : Nat} {N : Nat → Nat} {E : Nat → List Int} (hlen : L.length ≤ 2000) (h1 : L ≠ noneL) (h2 : L ≠ []) (hE : ∀ i, i < l → (E i).length = N i * 2) (h : layR l N E = L) : rdOK L ∧ (pcs L).length = l ∧ ∀ i, i < l → pcN L i = N i ∧ pcE L i = E i := by
  obtain ⟨h0, hS, hL⟩ := layR_nn h h1 h2
  obtain ⟨hp, hr⟩ := read_lay h0 hS hE hL
  have hT : layR (pcs L).length (pcN L) (pcE L) = L := by
    rw [hp]
    have hS' : layS l (pcN L) (pcE L) := ⟨hS.1, by
      have : ∀ i, i ≤ l → tot (pcN L) i = tot N i := by
        intro i
        induction i with
        | zero => intro _; rfl
        | succ i ih => intro hi; show tot (pcN L) i + pcN L i = tot N i + N i; rw [ih (by omega), (hr i (by omega)).2.1]
      rw [this l (Nat.le_refl _)]
      exact hS.2.1, fun i hi => by rw [(hr i hi).2.1, (hr i hi).2.2]; exact hS.2.2 i hi⟩
    rw [layR_t h0 hS']
    have hq : ∀ i, i ≤ l → ringsL (pcN L) (pcE L) i = ringsL N E i := by
      intro i
      induction i with
      | zero => intro _; rfl
      | succ i ih => intro hi; show ringsL (pcN L) (pcE L) i ++ [ringT (pcE L i) (pcN L i)] = ringsL N E i ++ [ringT (E i) (N i)]; rw [ih (by omega), (hr i (by omega)).2.1, (hr i (by omega)).2.2]
    unfold layT
    rw [hq l (Nat.le_refl _)]
    exact hL.symm
  exact ⟨⟨hlen, h1, fun i hi => (hr i (by rw [← hp]; exact hi)).1, hT⟩, hp, fun i hi => (hr i hi).2⟩
theorem pcN_le {L : List Int} (h : L.length ≤ 2000) (i : Nat) : pcN L i ≤ 1048576 := by
  have h1 := splB_len (sep := [32]) (s := (pcs L).getD i []) (by simp)
  have h2 : ((pcs L).getD i []).length ≤ L.length := getD_len (fun x hx => splB_piece (sep := [32, 47, 32]) (s := L) x hx) i
  unfold pcN wds
  omega
theorem take_map {W : List (List Int)} {k : Nat} {M : List Int} {n1 n2 : Int} (hM : M = (W.take (k * 2)).map numD) (hk : k * 2 + 1 < W.length) (h1 : n1 = numD (W.getD (k * 2) [])) (h2 : n2 = numD (W.getD (k * 2 + 1) [])) : M ++ [n1, n2] = (W.take ((k + 1) * 2)).map numD := by
  have e : W.take ((k + 1) * 2) = W.take (k * 2) ++ [W.getD (k * 2) []] ++ [W.getD (k * 2 + 1) []] := by
    rw [show (k + 1) * 2 = k * 2 + 1 + 1 by omega, List.take_succ_eq_append_getElem (show k * 2 + 1 < W.length by omega), List.take_succ_eq_append_getElem (show k * 2 < W.length by omega)]
    simp [List.getD_eq_getElem?_getD, show k * 2 < W.length by omega, hk]
  rw [e, List.map_append, List.map_append, hM, h1, h2]
  simp only [List.map_cons, List.map_nil, List.append_assoc, List.cons_append, List.nil_append]
end Go.Proofs.YtmbpomcbdopgnaaDoor.Fw
set_option linter.unusedVariables false
set_option linter.unusedSimpArgs false
namespace Go.Proofs.YtmbpomcbdopgnaaDoor.Fw
open Go Go.RowKit
def MLn (g : Nat) (w : World) : Prop := ∃ m : Int, w.cell? ⟨g, 0, none⟩ = some (.int .i64 m)
theorem MLn.ext {g : Nat} {w w' : World} (h : MLn g w) (e : Ext w w') : MLn g w' := by
  obtain ⟨m, hm⟩ := h
  refine ⟨m, ?_⟩
  unfold World.cell? at hm ⊢
  simp only at hm ⊢
  cases hg : w.heap[g]? with
  | none => rw [hg] at hm; cases hm
  | some o => rw [hg] at hm; rw [e.blk hg]; exact hm
end Go.Proofs.YtmbpomcbdopgnaaDoor.Fw
