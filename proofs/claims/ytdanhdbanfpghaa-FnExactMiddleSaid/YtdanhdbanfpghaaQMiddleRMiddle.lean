/- Proved: for every input the law FnExactMiddle returns true (Middle returns what the reference returns). No condition. -/
import Derived.Test.YtdanhdbanfpghaaQMiddlef
namespace Go.Proofs.Ytdanhdbanfpghaa.rowFnExactMiddle
open Go.ChangeShapes Go.WideShapes Go.ChangeAt Go.RowKit Go.Proofs.Ytdanhdbanfpghaa.Fw Go.Proofs.Ytdanhdbanfpghaa.W
set_option linter.unusedVariables false
theorem own : ownKnob Try.prog.godebug = none := by kernel_rfl
theorem laid : laidOutB Try.prog = true := by kernel_rfl
theorem mapsR : mapsRowed Try.prog = true := by kernel_rfl
theorem full : ((List.range Try.prog.types.size).all fun t => match Try.prog.underlying t with | some (.slice e) => decide (0 < Try.prog.cellsOf e) | _ => true) = true := by kernel_rfl
theorem pts : Try.f9.params.toList.all (fun t => decide (t < Try.prog.types.size)) = true := by kernel_rfl
theorem bt : Try.prog.underlying 4 = some .bool := by kernel_rfl
theorem ct0 : Try.prog.cellTypes Try.prog.depth 33 = some [29, 29, 29, 29, 29, 29, 29, 29, 29, 29, 29, 29] := by kernel_rfl
theorem ck0 : ([29, 29, 29, 29, 29, 29, 29, 29, 29, 29, 29, 29] : List TypeId).map (fun u => Try.prog.underlying u) = ([IntKind.u64, IntKind.u64, IntKind.u64, IntKind.u64, IntKind.u64, IntKind.u64, IntKind.u64, IntKind.u64, IntKind.u64, IntKind.u64, IntKind.u64, IntKind.u64] : List IntKind).map (fun k => some (TypeDesc.int k)) := by kernel_rfl
theorem cs0 : Try.prog.cellsOf 33 = ([29, 29, 29, 29, 29, 29, 29, 29, 29, 29, 29, 29] : List TypeId).length := by kernel_rfl
theorem ct1 : Try.prog.cellTypes Try.prog.depth 33 = some [29, 29, 29, 29, 29, 29, 29, 29, 29, 29, 29, 29] := by kernel_rfl
theorem ck1 : ([29, 29, 29, 29, 29, 29, 29, 29, 29, 29, 29, 29] : List TypeId).map (fun u => Try.prog.underlying u) = ([IntKind.u64, IntKind.u64, IntKind.u64, IntKind.u64, IntKind.u64, IntKind.u64, IntKind.u64, IntKind.u64, IntKind.u64, IntKind.u64, IntKind.u64, IntKind.u64] : List IntKind).map (fun k => some (TypeDesc.int k)) := by kernel_rfl
theorem cs1 : Try.prog.cellsOf 33 = ([29, 29, 29, 29, 29, 29, 29, 29, 29, 29, 29, 29] : List TypeId).length := by kernel_rfl
set_option maxRecDepth 100000 in
theorem lifted (os : Os) (started : os.Started) (H : Type) (enc : TypeId × Value → H) :
    ReturnsInHanded {} Try.checked os 9 .any (Rows.fnExactMiddleSpec.pre6 enc Try.prog Try.f9 Rows.fnExactMiddleRow.domain false) (Rows.fnExactMiddleSpec.post enc Try.prog Try.f9 false true false false) := by
  refine returnsInHanded_of_change_sized (C := Try.checked) own started (by kernel_rfl) Try.func9
    (ChangeSpec.witness6 (enc := enc) (C := Try.checked) false ⟨#[], #[.agg #[.int .u64 0, .int .u64 0, .int .u64 0, .int .u64 0, .int .u64 0, .int .u64 0, .int .u64 0, .int .u64 0, .int .u64 0, .int .u64 0, .int .u64 0, .int .u64 0], .agg #[.int .u64 0, .int .u64 0, .int .u64 0, .int .u64 0, .int .u64 0, .int .u64 0, .int .u64 0, .int .u64 0, .int .u64 0, .int .u64 0, .int .u64 0, .int .u64 0]], []⟩ 16 (by kernel_rfl) (by kernel_rfl) (by kernel_rfl) (by kernel_rfl)) ?_
  intro W base args ds gs before hval0 hW hcnd hsz0 _
  have hsz : (DataW.weightsEach Try.prog (Try.f9.params.toList ++ Rows.fnExactMiddleSpec.plain.varTypes Try.prog) (ds ++ gs)).all (· ≤ reachBytes) = true := hsz0
  have hval : ∀ (j : Nat) t v, Try.f9.params[j]? = some t → args[j]? = some v → Value.okWide Try.prog W .any base t v := hval0
  have hW' := hW
  obtain ⟨p, q, hA0, hV, rfl, hfz, hnd⟩ := hW
  have hA : DataW.TrodAll enc Try.prog W 0 (fun _ => true) true Try.f9.params.toList args.toList ds p := hA0
  rw [Try.params9] at hA hval hsz
  obtain ⟨v0, v1, d0, d1, p0, p1, rfl, rfl, rfl, t0, t1⟩ := trodAll_two hA
  obtain ⟨rfl, rfl⟩ := trodVars_none hV
  have o0 := hval 0 33 v0 rfl rfl
  obtain ⟨ns0, rfl, hl0, hb0⟩ := ok_ints Try.underlying33 ct0 ck0 cs0 o0
  obtain _ | ⟨x3, ns0⟩ := ns0
  · simp at hl0
  obtain _ | ⟨x2, ns0⟩ := ns0
  · simp at hl0
  obtain _ | ⟨x1, ns0⟩ := ns0
  · simp at hl0
  obtain _ | ⟨x0, ns0⟩ := ns0
  · simp at hl0
  obtain _ | ⟨y3, ns0⟩ := ns0
  · simp at hl0
  obtain _ | ⟨y2, ns0⟩ := ns0
  · simp at hl0
  obtain _ | ⟨y1, ns0⟩ := ns0
  · simp at hl0
  obtain _ | ⟨y0, ns0⟩ := ns0
  · simp at hl0
  obtain _ | ⟨u3, ns0⟩ := ns0
  · simp at hl0
  obtain _ | ⟨u2, ns0⟩ := ns0
  · simp at hl0
  obtain _ | ⟨u1, ns0⟩ := ns0
  · simp at hl0
  obtain _ | ⟨u0, ns0⟩ := ns0
  · simp at hl0
  obtain _ | ⟨_, _⟩ := ns0
  rotate_left
  · simp at hl0
  have w_x3 := hb0 0 _ x3 rfl rfl
  have w_x2 := hb0 1 _ x2 rfl rfl
  have w_x1 := hb0 2 _ x1 rfl rfl
  have w_x0 := hb0 3 _ x0 rfl rfl
  have w_y3 := hb0 4 _ y3 rfl rfl
  have w_y2 := hb0 5 _ y2 rfl rfl
  have w_y1 := hb0 6 _ y1 rfl rfl
  have w_y0 := hb0 7 _ y0 rfl rfl
  have w_u3 := hb0 8 _ u3 rfl rfl
  have w_u2 := hb0 9 _ u2 rfl rfl
  have w_u1 := hb0 10 _ u1 rfl rfl
  have w_u0 := hb0 11 _ u0 rfl rfl
  have o1 := hval 1 33 v1 rfl rfl
  obtain ⟨ns1, rfl, hl1, hb1⟩ := ok_ints Try.underlying33 ct1 ck1 cs1 o1
  obtain _ | ⟨p3, ns1⟩ := ns1
  · simp at hl1
  obtain _ | ⟨p2, ns1⟩ := ns1
  · simp at hl1
  obtain _ | ⟨p1, ns1⟩ := ns1
  · simp at hl1
  obtain _ | ⟨p0, ns1⟩ := ns1
  · simp at hl1
  obtain _ | ⟨q3, ns1⟩ := ns1
  · simp at hl1
  obtain _ | ⟨q2, ns1⟩ := ns1
  · simp at hl1
  obtain _ | ⟨q1, ns1⟩ := ns1
  · simp at hl1
  obtain _ | ⟨q0, ns1⟩ := ns1
  · simp at hl1
  obtain _ | ⟨r3, ns1⟩ := ns1
  · simp at hl1
  obtain _ | ⟨r2, ns1⟩ := ns1
  · simp at hl1
  obtain _ | ⟨r1, ns1⟩ := ns1
  · simp at hl1
  obtain _ | ⟨r0, ns1⟩ := ns1
  · simp at hl1
  obtain _ | ⟨_, _⟩ := ns1
  rotate_left
  · simp at hl1
  have w_p3 := hb1 0 _ p3 rfl rfl
  have w_p2 := hb1 1 _ p2 rfl rfl
  have w_p1 := hb1 2 _ p1 rfl rfl
  have w_p0 := hb1 3 _ p0 rfl rfl
  have w_q3 := hb1 4 _ q3 rfl rfl
  have w_q2 := hb1 5 _ q2 rfl rfl
  have w_q1 := hb1 6 _ q1 rfl rfl
  have w_q0 := hb1 7 _ q0 rfl rfl
  have w_r3 := hb1 8 _ r3 rfl rfl
  have w_r2 := hb1 9 _ r2 rfl rfl
  have w_r1 := hb1 10 _ r1 rfl rfl
  have w_r0 := hb1 11 _ r0 rfl rfl
  refine Calls.mono (lawMiddle_w (u64_rg w_x3) (u64_rg w_x2) (u64_rg w_x1) (u64_rg w_x0) (u64_rg w_y3) (u64_rg w_y2) (u64_rg w_y1) (u64_rg w_y0) (u64_rg w_u3) (u64_rg w_u2) (u64_rg w_u1) (u64_rg w_u0) (u64_rg w_p3) (u64_rg w_p2) (u64_rg w_p1) (u64_rg w_p0) (u64_rg w_q3) (u64_rg w_q2) (u64_rg w_q1) (u64_rg w_q0) (u64_rg w_r3) (u64_rg w_r2) (u64_rg w_r1) (u64_rg w_r0)) fun e W' ⟨v, he, hv, hx⟩ => ?_
  subst he; subst hv
  exact ⟨_, rfl, law_post laid mapsR full pts rfl rfl bt hW' rfl hx⟩
theorem over : Rows.fnExactMiddleRow.holds Try.pinned (OpenSpec.ofChange Rows.fnExactMiddleSpec) :=
  OpenClaim.holds_of_wide 9 Try.f9 rfl rfl rfl rfl rfl rfl rfl ⟨rfl, rfl, rfl, rfl, rfl⟩ rfl rfl rfl rfl rfl (by kernel_rfl) Try.func9 (by kernel_rfl)
    (of_decide_eq_true (by kernel_rfl)) (by unfold Func.isWrapper; first | (rw [if_pos (by decide +kernel)]; kernel_rfl) | (rw [if_neg (by decide +kernel)]; exact ⟨rfl, rfl⟩))
    (fun os started H enc _ => lifted os started H enc)
end Go.Proofs.Ytdanhdbanfpghaa.rowFnExactMiddle
namespace Go.Proofs.Ytdanhdbanfpghaa
theorem fnExactMiddle_holds : Rows.FnExactMiddleSaid := rowFnExactMiddle.over
#print axioms fnExactMiddle_holds
end Go.Proofs.Ytdanhdbanfpghaa
