/- Proved: for every input the law FnExactBetween returns true (Between returns what the reference returns). No condition. -/
import Derived.Test.YtdanhdbanfpghaaPaLBetween
namespace Go.Proofs.Ytdanhdbanfpghaa.rowFnExactBetween
open Go.ChangeShapes Go.WideShapes Go.ChangeAt Go.RowKit Go.Proofs.Ytdanhdbanfpghaa.Fw Go.Proofs.Ytdanhdbanfpghaa.W
set_option linter.unusedVariables false
theorem own : ownKnob Try.prog.godebug = none := by kernel_rfl
theorem laid : laidOutB Try.prog = true := by kernel_rfl
theorem mapsR : mapsRowed Try.prog = true := by kernel_rfl
theorem full : ((List.range Try.prog.types.size).all fun t => match Try.prog.underlying t with | some (.slice e) => decide (0 < Try.prog.cellsOf e) | _ => true) = true := by kernel_rfl
theorem pts : Try.f4.params.toList.all (fun t => decide (t < Try.prog.types.size)) = true := by kernel_rfl
theorem bt : Try.prog.underlying 4 = some .bool := by kernel_rfl
theorem ct0 : Try.prog.cellTypes Try.prog.depth 33 = some [29, 29, 29, 29, 29, 29, 29, 29, 29, 29, 29, 29] := by kernel_rfl
theorem ck0 : ([29, 29, 29, 29, 29, 29, 29, 29, 29, 29, 29, 29] : List TypeId).map (fun u => Try.prog.underlying u) = ([IntKind.u64, IntKind.u64, IntKind.u64, IntKind.u64, IntKind.u64, IntKind.u64, IntKind.u64, IntKind.u64, IntKind.u64, IntKind.u64, IntKind.u64, IntKind.u64] : List IntKind).map (fun k => some (TypeDesc.int k)) := by kernel_rfl
theorem cs0 : Try.prog.cellsOf 33 = ([29, 29, 29, 29, 29, 29, 29, 29, 29, 29, 29, 29] : List TypeId).length := by kernel_rfl
theorem ct1 : Try.prog.cellTypes Try.prog.depth 33 = some [29, 29, 29, 29, 29, 29, 29, 29, 29, 29, 29, 29] := by kernel_rfl
theorem ck1 : ([29, 29, 29, 29, 29, 29, 29, 29, 29, 29, 29, 29] : List TypeId).map (fun u => Try.prog.underlying u) = ([IntKind.u64, IntKind.u64, IntKind.u64, IntKind.u64, IntKind.u64, IntKind.u64, IntKind.u64, IntKind.u64, IntKind.u64, IntKind.u64, IntKind.u64, IntKind.u64] : List IntKind).map (fun k => some (TypeDesc.int k)) := by kernel_rfl
theorem cs1 : Try.prog.cellsOf 33 = ([29, 29, 29, 29, 29, 29, 29, 29, 29, 29, 29, 29] : List TypeId).length := by kernel_rfl
theorem ct2 : Try.prog.cellTypes Try.prog.depth 33 = some [29, 29, 29, 29, 29, 29, 29, 29, 29, 29, 29, 29] := by kernel_rfl
theorem ck2 : ([29, 29, 29, 29, 29, 29, 29, 29, 29, 29, 29, 29] : List TypeId).map (fun u => Try.prog.underlying u) = ([IntKind.u64, IntKind.u64, IntKind.u64, IntKind.u64, IntKind.u64, IntKind.u64, IntKind.u64, IntKind.u64, IntKind.u64, IntKind.u64, IntKind.u64, IntKind.u64] : List IntKind).map (fun k => some (TypeDesc.int k)) := by kernel_rfl
theorem cs2 : Try.prog.cellsOf 33 = ([29, 29, 29, 29, 29, 29, 29, 29, 29, 29, 29, 29] : List TypeId).length := by kernel_rfl
set_option maxRecDepth 100000 in
theorem lifted (os : Os) (started : os.Started) (H : Type) (enc : TypeId × Value → H) :
    ReturnsInHanded {} Try.checked os 4 .any (Rows.fnExactBetweenSpec.pre6 enc Try.prog Try.f4 Rows.fnExactBetweenRow.domain false) (Rows.fnExactBetweenSpec.post enc Try.prog Try.f4 false true false false) := by
  refine returnsInHanded_of_change_sized (C := Try.checked) own started (by kernel_rfl) Try.func4
    (ChangeSpec.witness6 (enc := enc) (C := Try.checked) false ⟨#[], #[.agg #[.int .u64 0, .int .u64 0, .int .u64 0, .int .u64 0, .int .u64 0, .int .u64 0, .int .u64 0, .int .u64 0, .int .u64 0, .int .u64 0, .int .u64 0, .int .u64 0], .agg #[.int .u64 0, .int .u64 0, .int .u64 0, .int .u64 0, .int .u64 0, .int .u64 0, .int .u64 0, .int .u64 0, .int .u64 0, .int .u64 0, .int .u64 0, .int .u64 0], .agg #[.int .u64 0, .int .u64 0, .int .u64 0, .int .u64 0, .int .u64 0, .int .u64 0, .int .u64 0, .int .u64 0, .int .u64 0, .int .u64 0, .int .u64 0, .int .u64 0]], []⟩ 16 (by kernel_rfl) (by kernel_rfl) (by kernel_rfl) (by kernel_rfl)) ?_
  intro W base args ds gs before hval0 hW hcnd hsz0 _
  have hsz : (DataW.weightsEach Try.prog (Try.f4.params.toList ++ Rows.fnExactBetweenSpec.plain.varTypes Try.prog) (ds ++ gs)).all (· ≤ reachBytes) = true := hsz0
  have hval : ∀ (j : Nat) t v, Try.f4.params[j]? = some t → args[j]? = some v → Value.okWide Try.prog W .any base t v := hval0
  have hW' := hW
  obtain ⟨p, q, hA0, hV, rfl, hfz, hnd⟩ := hW
  have hA : DataW.TrodAll enc Try.prog W 0 (fun _ => true) true Try.f4.params.toList args.toList ds p := hA0
  rw [Try.params4] at hA hval hsz
  obtain ⟨v0, v1, v2, d0, d1, d2, p0, p1, p2, rfl, rfl, rfl, t0, t1, t2⟩ := trodAll_three hA
  obtain ⟨rfl, rfl⟩ := trodVars_none hV
  have o0 := hval 0 33 v0 rfl rfl
  obtain ⟨ns0, rfl, hl0, hb0⟩ := ok_ints Try.underlying33 ct0 ck0 cs0 o0
  obtain _ | ⟨x3, ns0⟩ := ns0
  · simp at hl0
  obtain _ | ⟨x2, ns0⟩ := ns0
  · simp at hl0
  obtain _ | ⟨x1, ns0⟩ := ns0
  · simp at hl0
  obtain _ | ⟨x0, ns0⟩ := ns0
  · simp at hl0
  obtain _ | ⟨y3, ns0⟩ := ns0
  · simp at hl0
  obtain _ | ⟨y2, ns0⟩ := ns0
  · simp at hl0
  obtain _ | ⟨y1, ns0⟩ := ns0
  · simp at hl0
  obtain _ | ⟨y0, ns0⟩ := ns0
  · simp at hl0
  obtain _ | ⟨u3, ns0⟩ := ns0
  · simp at hl0
  obtain _ | ⟨u2, ns0⟩ := ns0
  · simp at hl0
  obtain _ | ⟨u1, ns0⟩ := ns0
  · simp at hl0
  obtain _ | ⟨u0, ns0⟩ := ns0
  · simp at hl0
  obtain _ | ⟨_, _⟩ := ns0
  rotate_left
  · simp at hl0
  have w_x3 := hb0 0 _ x3 rfl rfl
  have w_x2 := hb0 1 _ x2 rfl rfl
  have w_x1 := hb0 2 _ x1 rfl rfl
  have w_x0 := hb0 3 _ x0 rfl rfl
  have w_y3 := hb0 4 _ y3 rfl rfl
  have w_y2 := hb0 5 _ y2 rfl rfl
  have w_y1 := hb0 6 _ y1 rfl rfl
  have w_y0 := hb0 7 _ y0 rfl rfl
  have w_u3 := hb0 8 _ u3 rfl rfl
  have w_u2 := hb0 9 _ u2 rfl rfl
  have w_u1 := hb0 10 _ u1 rfl rfl
  have w_u0 := hb0 11 _ u0 rfl rfl
  have o1 := hval 1 33 v1 rfl rfl
  obtain ⟨ns1, rfl, hl1, hb1⟩ := ok_ints Try.underlying33 ct1 ck1 cs1 o1
  obtain _ | ⟨p3, ns1⟩ := ns1
  · simp at hl1
  obtain _ | ⟨p2, ns1⟩ := ns1
  · simp at hl1
  obtain _ | ⟨p1, ns1⟩ := ns1
  · simp at hl1
  obtain _ | ⟨p0, ns1⟩ := ns1
  · simp at hl1
  obtain _ | ⟨q3, ns1⟩ := ns1
  · simp at hl1
  obtain _ | ⟨q2, ns1⟩ := ns1
  · simp at hl1
  obtain _ | ⟨q1, ns1⟩ := ns1
  · simp at hl1
  obtain _ | ⟨q0, ns1⟩ := ns1
  · simp at hl1
  obtain _ | ⟨r3, ns1⟩ := ns1
  · simp at hl1
  obtain _ | ⟨r2, ns1⟩ := ns1
  · simp at hl1
  obtain _ | ⟨r1, ns1⟩ := ns1
  · simp at hl1
  obtain _ | ⟨r0, ns1⟩ := ns1
  · simp at hl1
  obtain _ | ⟨_, _⟩ := ns1
  rotate_left
  · simp at hl1
  have w_p3 := hb1 0 _ p3 rfl rfl
  have w_p2 := hb1 1 _ p2 rfl rfl
  have w_p1 := hb1 2 _ p1 rfl rfl
  have w_p0 := hb1 3 _ p0 rfl rfl
  have w_q3 := hb1 4 _ q3 rfl rfl
  have w_q2 := hb1 5 _ q2 rfl rfl
  have w_q1 := hb1 6 _ q1 rfl rfl
  have w_q0 := hb1 7 _ q0 rfl rfl
  have w_r3 := hb1 8 _ r3 rfl rfl
  have w_r2 := hb1 9 _ r2 rfl rfl
  have w_r1 := hb1 10 _ r1 rfl rfl
  have w_r0 := hb1 11 _ r0 rfl rfl
  have o2 := hval 2 33 v2 rfl rfl
  obtain ⟨ns2, rfl, hl2, hb2⟩ := ok_ints Try.underlying33 ct2 ck2 cs2 o2
  obtain _ | ⟨xt3, ns2⟩ := ns2
  · simp at hl2
  obtain _ | ⟨xt2, ns2⟩ := ns2
  · simp at hl2
  obtain _ | ⟨xt1, ns2⟩ := ns2
  · simp at hl2
  obtain _ | ⟨xt0, ns2⟩ := ns2
  · simp at hl2
  obtain _ | ⟨yt3, ns2⟩ := ns2
  · simp at hl2
  obtain _ | ⟨yt2, ns2⟩ := ns2
  · simp at hl2
  obtain _ | ⟨yt1, ns2⟩ := ns2
  · simp at hl2
  obtain _ | ⟨yt0, ns2⟩ := ns2
  · simp at hl2
  obtain _ | ⟨ut3, ns2⟩ := ns2
  · simp at hl2
  obtain _ | ⟨ut2, ns2⟩ := ns2
  · simp at hl2
  obtain _ | ⟨ut1, ns2⟩ := ns2
  · simp at hl2
  obtain _ | ⟨ut0, ns2⟩ := ns2
  · simp at hl2
  obtain _ | ⟨_, _⟩ := ns2
  rotate_left
  · simp at hl2
  have w_xt3 := hb2 0 _ xt3 rfl rfl
  have w_xt2 := hb2 1 _ xt2 rfl rfl
  have w_xt1 := hb2 2 _ xt1 rfl rfl
  have w_xt0 := hb2 3 _ xt0 rfl rfl
  have w_yt3 := hb2 4 _ yt3 rfl rfl
  have w_yt2 := hb2 5 _ yt2 rfl rfl
  have w_yt1 := hb2 6 _ yt1 rfl rfl
  have w_yt0 := hb2 7 _ yt0 rfl rfl
  have w_ut3 := hb2 8 _ ut3 rfl rfl
  have w_ut2 := hb2 9 _ ut2 rfl rfl
  have w_ut1 := hb2 10 _ ut1 rfl rfl
  have w_ut0 := hb2 11 _ ut0 rfl rfl
  refine Calls.mono (lawBetween_w (u64_rg w_x3) (u64_rg w_x2) (u64_rg w_x1) (u64_rg w_x0) (u64_rg w_y3) (u64_rg w_y2) (u64_rg w_y1) (u64_rg w_y0) (u64_rg w_u3) (u64_rg w_u2) (u64_rg w_u1) (u64_rg w_u0) (u64_rg w_p3) (u64_rg w_p2) (u64_rg w_p1) (u64_rg w_p0) (u64_rg w_q3) (u64_rg w_q2) (u64_rg w_q1) (u64_rg w_q0) (u64_rg w_r3) (u64_rg w_r2) (u64_rg w_r1) (u64_rg w_r0) (u64_rg w_xt3) (u64_rg w_xt2) (u64_rg w_xt1) (u64_rg w_xt0) (u64_rg w_yt3) (u64_rg w_yt2) (u64_rg w_yt1) (u64_rg w_yt0) (u64_rg w_ut3) (u64_rg w_ut2) (u64_rg w_ut1) (u64_rg w_ut0)) fun e W' ⟨v, he, hv, hx⟩ => ?_
  subst he; subst hv
  exact ⟨_, rfl, law_post laid mapsR full pts rfl rfl bt hW' rfl hx⟩
theorem over : Rows.fnExactBetweenRow.holds Try.pinned (OpenSpec.ofChange Rows.fnExactBetweenSpec) :=
  OpenClaim.holds_of_wide 4 Try.f4 rfl rfl rfl rfl rfl rfl rfl ⟨rfl, rfl, rfl, rfl, rfl⟩ rfl rfl rfl rfl rfl (by kernel_rfl) Try.func4 (by kernel_rfl)
    (of_decide_eq_true (by kernel_rfl)) (by unfold Func.isWrapper; first | (rw [if_pos (by decide +kernel)]; kernel_rfl) | (rw [if_neg (by decide +kernel)]; exact ⟨rfl, rfl⟩))
    (fun os started H enc _ => lifted os started H enc)
end Go.Proofs.Ytdanhdbanfpghaa.rowFnExactBetween
namespace Go.Proofs.Ytdanhdbanfpghaa
theorem fnExactBetween_holds : Rows.FnExactBetweenSaid := rowFnExactBetween.over
#print axioms fnExactBetween_holds
end Go.Proofs.Ytdanhdbanfpghaa
