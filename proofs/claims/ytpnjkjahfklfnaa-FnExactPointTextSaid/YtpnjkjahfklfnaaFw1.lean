/- A calculus for walks: frames as functions, todo lists, worlds as variables. Generic over the program. -/
import Derived.WalkKit
import Derived.OrdersHeld
import Derived.KernelRfl
set_option linter.unusedVariables false
namespace Go.Proofs.Ytpnjkjahfklfnaa.Fw
open Go

/-! ### Frames -/
abbrev Fr := Nat → Value
def upd (fr : Fr) (d : Nat) (v : Value) : Fr := fun i => bif Nat.beq i d then v else fr i
def putO (fr : Fr) : Option Tmp → Value → Fr
  | some d, v => upd fr d v
  | none, _ => fr
def actOf (n : Nat) (fr : Fr) : Act := ⟨Array.ofFn (fun i : Fin n => fr i), []⟩

theorem actOf_put (n : Nat) (fr : Fr) (dst : Option Tmp) (v : Value) : (actOf n fr).put dst v = actOf n (putO fr dst v) := by
  cases dst with
  | none => rfl
  | some d =>
    simp only [Act.put, actOf, putO]
    congr 1
    apply Array.ext_getElem?
    intro i
    simp only [Array.getElem?_setIfInBounds, Array.getElem?_ofFn, Array.size_ofFn, upd]
    by_cases h : d = i
    · subst h; by_cases hl : d < n <;> simp [hl]
    · have : Nat.beq i d = false := by
        rw [← Bool.not_eq_true]; intro hb; exact h (Nat.eq_of_beq_eq_true hb).symm
      simp [h, this]

theorem actOf_getD (n : Nat) (fr : Fr) (t : Nat) (h : Nat.blt t n = true) : (actOf n fr).tmps.getD t undef = fr t := by
  have h' : t < n := by simpa using h
  simp [actOf, h']

def EV (n : Nat) (fr : Fr) (x : Operand) (v : Value) : Prop := (actOf n fr).eval x = v
theorem T {n : Nat} {fr : Fr} {t : Nat} {v : Value} (h : Nat.blt t n = true) (e : fr t = v) : EV n fr (.tmp t) v := by
  show (actOf n fr).tmps.getD t undef = v; rw [actOf_getD n fr t h]; exact e
theorem C {n : Nat} {fr : Fr} {v : Value} : EV n fr (.const v) v := rfl
theorem GL {n : Nat} {fr : Fr} {g : Nat} : EV n fr (.global g) (.pointer (some ⟨g, 0, none⟩)) := rfl
theorem FN {n : Nat} {fr : Fr} {g : Nat} : EV n fr (.func g) (.func (.func g) #[] #[]) := rfl

/-- The frame at the call. -/
def fr0 (args : List Value) : Fr := fun i => args.getD i undef

/-! ### Running a todo list -/
def RunK (P : Program) (f n : Nat) (R : Ending → World → Prop) (k : List Item) (fr : Fr) (w : World) : Prop :=
  ∀ (b : Frame) (cs : List Frame), b.fn = f → b.kind = .normal →
    ∃ e w' frm, R e w' ∧ Comes P (lone (b.at (actOf n fr) k) cs w) (lone frm cs w') e ∧ frm.fn = f ∧ frm.leaving P w' e

section
variable {P : Program} {f n : Nat} {R : Ending → World → Prop} {k : List Item} {fr : Fr} {w : World}

theorem RunK.step {k' : List Item} {fr' : Fr} {w' : World}
    (hs : ∀ (b : Frame) (cs : List Frame), Go.step P (lone (b.at (actOf n fr) k) cs w) = .next (lone (b.at (actOf n fr') k') cs w'))
    (h : RunK P f n R k' fr' w') : RunK P f n R k fr w := by
  intro b cs hb hk
  obtain ⟨e, w2, frm, hR, hc, hf, hl⟩ := h b cs hb hk
  exact ⟨e, w2, frm, hR, Comes.of_steps (.one (hs b cs)) hc, hf, hl⟩

theorem rk_seq {a c : Code} (h : RunK P f n R (.code a :: .code c :: k) fr w) : RunK P f n R (.code (.seq a c) :: k) fr w :=
  h.step fun _ _ => step_seq
theorem rk_block {id : Nat} {c : Code} (h : RunK P f n R (.code c :: .inBlock id :: k) fr w) : RunK P f n R (.code (.block id c) :: k) fr w :=
  h.step fun _ _ => step_block
theorem rk_inBlock {id : Nat} (h : RunK P f n R k fr w) : RunK P f n R (.inBlock id :: k) fr w :=
  h.step fun _ _ => step_inBlock
theorem rk_skip (h : RunK P f n R k fr w) : RunK P f n R (.code .skip :: k) fr w :=
  h.step fun _ _ => step_skip
theorem rk_label {l : Nat} (h : RunK P f n R k fr w) : RunK P f n R (.code (.label l) :: k) fr w :=
  h.step fun _ _ => step_label
theorem rk_exit {id : Nat} {k' : List Item} (he : exitTo id k = some k') (h : RunK P f n R k' fr w) : RunK P f n R (.code (.exit id) :: k) fr w :=
  h.step fun _ _ => step_exit he
theorem rk_inLoop {c : Code} (h : RunK P f n R (.code c :: .inLoop c :: k) fr w) : RunK P f n R (.inLoop c :: k) fr w :=
  h.step fun _ _ => step_inLoop
theorem rk_ct {c : Operand} {x y : Code} (hc : EV n fr c (.bool true)) (h : RunK P f n R (.code x :: k) fr w) : RunK P f n R (.code (.cond c x y) :: k) fr w :=
  RunK.step (fun b cs => by rw [step_cond (t := true) hc]; rfl) h
theorem rk_cf {c : Operand} {x y : Code} (hc : EV n fr c (.bool false)) (h : RunK P f n R (.code y :: k) fr w) : RunK P f n R (.code (.cond c x y) :: k) fr w :=
  RunK.step (fun b cs => by rw [step_cond (t := false) hc]; rfl) h
theorem rk_cond {c : Operand} {x y : Code} {p : Prop} [Decidable p] (hc : EV n fr c (.bool (decide p)))
    (ht : p → RunK P f n R (.code x :: k) fr w) (hf : ¬ p → RunK P f n R (.code y :: k) fr w) : RunK P f n R (.code (.cond c x y) :: k) fr w := by
  by_cases hp : p
  · exact rk_ct (by rw [decide_eq_true hp] at hc; exact hc) (ht hp)
  · exact rk_cf (by rw [decide_eq_false hp] at hc; exact hc) (hf hp)
theorem rk_condb {c : Operand} {x y : Code} {b : Bool} (hc : EV n fr c (.bool b))
    (ht : b = true → RunK P f n R (.code x :: k) fr w) (hf : b = false → RunK P f n R (.code y :: k) fr w) : RunK P f n R (.code (.cond c x y) :: k) fr w := by
  cases b
  · exact rk_cf hc (hf rfl)
  · exact rk_ct hc (ht rfl)

theorem rk_loop {body : Code} (I : Nat → Fr → World → Prop) (d0 : Nat) (h0 : I d0 fr w)
    (hr : ∀ d fr w, I d fr w → (∀ d' fr' w', d' < d → I d' fr' w' → RunK P f n R (.inLoop body :: k) fr' w') →
      RunK P f n R (.code body :: .inLoop body :: k) fr w) : RunK P f n R (.code (.loop body) :: k) fr w := by
  have key : ∀ d fr w, I d fr w → RunK P f n R (.code body :: .inLoop body :: k) fr w := by
    intro d
    induction d using Nat.strongRecOn with
    | _ d ih =>
      intro fr w hI
      exact hr d fr w hI fun d' fr' w' hd hI' => rk_inLoop (ih d' hd fr' w' hI')
  exact RunK.step (fun b cs => step_loop) (key d0 fr w h0)

theorem rk_unroll {body : Code} (h : RunK P f n R (.code body :: .inLoop body :: k) fr w) : RunK P f n R (.code (.loop body) :: k) fr w :=
  RunK.step (fun b cs => step_loop) h
theorem rk_scope {c : Code} (h : RunK P f n R (.code c :: .inScope c :: k) fr w) : RunK P f n R (.code (.scope c) :: k) fr w :=
  RunK.step (fun b cs => step_lone_go (by simp [stepG, stepG.exec, Frame.at])) h
theorem rk_inScope {c : Code} (h : RunK P f n R k fr w) : RunK P f n R (.inScope c :: k) fr w :=
  RunK.step (fun b cs => step_lone_go (by simp [stepG, stepG.exec, Frame.at])) h
/-- Where ways meet again. -/
theorem rk_join {c : Code} (J : Fr → World → Prop) (h2 : ∀ fr w, J fr w → RunK P f n R k fr w) (h1 : (∀ fr w, J fr w → RunK P f n R k fr w) → RunK P f n R (.code c :: k) fr w) :
    RunK P f n R (.code c :: k) fr w := h1 h2

theorem rk_ret {fn : Func} {v : Value} (hf : P.funcs[f]? = some fn) (hr : (results fn (actOf n fr).tmps).run P w = .ok v w) (hR : R (.returned v) w) :
    RunK P f n R (.code .ret :: k) fr w := by
  intro b cs hb hk
  refine ⟨.returned v, w, { b.at (actOf n fr) (.code .ret :: k) with mode := .returning }, hR, Steps.one step_ret, hb, rfl, rfl, hk, fn, ?_, hr⟩
  have : ({ b.at (actOf n fr) (.code .ret :: k) with mode := .returning } : Frame).fn = f := hb
  rw [this]; exact hf

theorem rk_end {fn : Func} {v : Value} (hf : P.funcs[f]? = some fn) (hr : (results fn (actOf n fr).tmps).run P w = .ok v w) (hR : R (.returned v) w) :
    RunK P f n R [] fr w := by
  intro b cs hb hk
  refine ⟨.returned v, w, { b.at (actOf n fr) [] with mode := .returning }, hR, Steps.one step_end, hb, rfl, rfl, hk, fn, ?_, hr⟩
  have : ({ b.at (actOf n fr) [] with mode := .returning } : Frame).fn = f := hb
  rw [this]; exact hf

/-- The beginning of a call. -/
theorem calls_run {fn : Func} {c : Code} {args : List Value} (hf : P.funcs[f]? = some fn) (hb : fn.body = some c) (hn : fn.ntmps = n) (ha : Nat.ble args.length n = true)
    (h : RunK P f n R [.code c] (fr0 args) w) : Calls P f args.toArray w R := by
  intro cs
  let b : Frame := { (default : Frame) with fn := f, kind := .normal }
  have henter : Frame.enter P f args.toArray .normal = b.at (actOf n (fr0 args)) [.code c] := by
    have ha := Nat.le_of_ble_eq_true ha
    have : (args.toArray ++ Array.replicate (fn.ntmps - args.toArray.size) undef) = (actOf n (fr0 args)).tmps := by
      subst hn
      apply Array.ext
      · simp [actOf]; omega
      · intro i h1 h2
        simp only [actOf, Array.getElem_ofFn, fr0, Array.getElem_append]
        split
        · rename_i hlt
          simp at hlt
          simp [List.getD_eq_getElem?_getD, List.getElem?_eq_getElem hlt]
        · rename_i hlt
          simp at hlt
          simp [List.getD_eq_getElem?_getD, List.getElem?_eq_none hlt]
    simp only [Frame.enter, Frame.at, hf, b, Option.map_some, Option.getD_some, Option.bind_some, hb, this]
    rfl
  rw [henter]
  exact h b cs rfl rfl

/-! ### Results -/
def rSem (n : Nat) (fr : Fr) : ResultVar → Sem Value
  | .tmp t => pure ((actOf n fr).tmps.getD t undef)
  | .cell a t => do loadVar t (← asAddr ((actOf n fr).tmps.getD a undef))
def RV (P : Program) (n : Nat) (fr : Fr) (w : World) (r : ResultVar) (v : Value) : Prop := (rSem n fr r).run P w = .ok v w
theorem rv_tmp {t : Nat} {v : Value} (h : Nat.blt t n = true) (e : fr t = v) : RV P n fr w (.tmp t) v := by
  show Result.ok ((actOf n fr).tmps.getD t undef) w = _; rw [actOf_getD n fr t h, e]
theorem results_eq (fn : Func) : results fn (actOf n fr).tmps = (do
    let vs ← fn.results.mapM (rSem n fr)
    pure (if h : vs.size = 1 then vs[0] else .tuple vs)) := by
  unfold results
  congr 1
theorem res1 {fn : Func} {r : ResultVar} {v : Value} (h : fn.results = #[r]) (h1 : RV P n fr w r v) : (results fn (actOf n fr).tmps).run P w = .ok v w := by
  unfold RV at h1
  rw [results_eq, h]
  simp [h1]
theorem res2 {fn : Func} {r s : ResultVar} {v u : Value} (h : fn.results = #[r, s]) (h1 : RV P n fr w r v) (h2 : RV P n fr w s u) :
    (results fn (actOf n fr).tmps).run P w = .ok (.tuple #[v, u]) w := by
  unfold RV at h1 h2
  rw [results_eq, h]
  simp [Sem.run_bind, h1, h2]
theorem res3 {fn : Func} {r s t : ResultVar} {v u x : Value} (h : fn.results = #[r, s, t]) (h1 : RV P n fr w r v) (h2 : RV P n fr w s u) (h3 : RV P n fr w t x) :
    (results fn (actOf n fr).tmps).run P w = .ok (.tuple #[v, u, x]) w := by
  unfold RV at h1 h2 h3
  rw [results_eq, h]
  simp [Sem.run_bind, h1, h2, h3]
end

end Go.Proofs.Ytpnjkjahfklfnaa.Fw
