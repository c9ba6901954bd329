/- Proved: for every input the law FnExactEventPut returns true (EventPut returns what the reference returns). No condition. -/
import Derived.Test.YtmbpomcbdopgnaaGreatPsn
namespace Go.Proofs.YtmbpomcbdopgnaaGreat.rowFnExactEventPut
open Go.ChangeShapes Go.WideShapes Go.ChangeAt Go.RowKit Go.Proofs.YtmbpomcbdopgnaaGreat.Fw Go.Proofs.YtmbpomcbdopgnaaGreat.W
set_option linter.unusedVariables false
theorem own : ownKnob Tryz.prog.godebug = none := by kernel_rfl
theorem laid : laidOutB Tryz.prog = true := by kernel_rfl
theorem mapsR : mapsRowed Tryz.prog = true := by kernel_rfl
theorem full : ((List.range Tryz.prog.types.size).all fun t => match Tryz.prog.underlying t with | some (.slice e) => decide (0 < Tryz.prog.cellsOf e) | _ => true) = true := by kernel_rfl
theorem pts : Tryz.f3.params.toList.all (fun t => decide (t < Tryz.prog.types.size)) = true := by kernel_rfl
theorem bt : Tryz.prog.underlying 4 = some .bool := by kernel_rfl
theorem ct1 : Tryz.prog.cellTypes Tryz.prog.depth 27 = some [23, 23, 23, 23, 23, 23, 23, 23, 23, 23, 23, 23] := by kernel_rfl
theorem ck1 : ([23, 23, 23, 23, 23, 23, 23, 23, 23, 23, 23, 23] : List TypeId).map (fun u => Tryz.prog.underlying u) = ([IntKind.u64, IntKind.u64, IntKind.u64, IntKind.u64, IntKind.u64, IntKind.u64, IntKind.u64, IntKind.u64, IntKind.u64, IntKind.u64, IntKind.u64, IntKind.u64] : List IntKind).map (fun k => some (TypeDesc.int k)) := by kernel_rfl
theorem cs1 : Tryz.prog.cellsOf 27 = ([23, 23, 23, 23, 23, 23, 23, 23, 23, 23, 23, 23] : List TypeId).length := by kernel_rfl
set_option maxRecDepth 100000 in
theorem lifted (os : Os) (started : os.Started) (H : Type) (enc : TypeId × Value → H) :
    ReturnsInHanded {} Tryz.checked os 3 .any (Rows.fnExactEventPutSpec.pre6 enc Tryz.prog Tryz.f3 Rows.fnExactEventPutRow.domain false) (Rows.fnExactEventPutSpec.post enc Tryz.prog Tryz.f3 false true false false) := by
  refine returnsInHanded_of_change_sized (C := Tryz.checked) own started (by kernel_rfl) Tryz.func3
    (ChangeSpec.witness6 (enc := enc) (C := Tryz.checked) false ⟨#[], #[.slice none 0 0, .agg #[.int .u64 0, .int .u64 0, .int .u64 0, .int .u64 0, .int .u64 0, .int .u64 0, .int .u64 0, .int .u64 0, .int .u64 0, .int .u64 0, .int .u64 0, .int .u64 0], .int .i64 0], []⟩ 16 (by kernel_rfl) (by kernel_rfl) (by kernel_rfl) (by kernel_rfl)) ?_
  intro W base args ds gs before hval0 hW hcnd hsz0 _
  have hsz : (DataW.weightsEach Tryz.prog (Tryz.f3.params.toList ++ Rows.fnExactEventPutSpec.plain.varTypes Tryz.prog) (ds ++ gs)).all (· ≤ reachBytes) = true := hsz0
  have hval : ∀ (j : Nat) t v, Tryz.f3.params[j]? = some t → args[j]? = some v → Value.okWide Tryz.prog W .any base t v := hval0
  have hW' := hW
  obtain ⟨p, q, hA0, hV, rfl, hfz, hnd⟩ := hW
  have hA : DataW.TrodAll enc Tryz.prog W 0 (fun _ => true) true Tryz.f3.params.toList args.toList ds p := hA0
  rw [Tryz.params3] at hA hval hsz
  obtain ⟨v0, v1, v2, d0, d1, d2, p0, p1, p2, rfl, rfl, rfl, t0, t1, t2⟩ := trodAll_three hA
  obtain ⟨rfl, rfl⟩ := trodVars_none hV
  have o0 := hval 0 22 v0 rfl rfl
  obtain ⟨A0, l0, c0, W0, E0, SL0, rfl, hlc0, hcm0, hR0, hS0, hW0⟩ := ok_rowE (d := 6) (us := [23, 23, 23, 23, 23, 23, 23, 23, 23, 23, 23, 23, 41]) (ts := 41) (te := 2) Tryz.underlying22 (by kernel_rfl) (by kernel_rfl) rfl (by kernel_rfl) rfl Tryz.underlying41 Tryz.underlying2 (by kernel_rfl) o0 t0
  have o1 := hval 1 27 v1 rfl rfl
  obtain ⟨ns1, rfl, hl1, hb1⟩ := ok_ints Tryz.underlying27 ct1 ck1 cs1 o1
  obtain _ | ⟨x3, ns1⟩ := ns1
  · simp at hl1
  obtain _ | ⟨x2, ns1⟩ := ns1
  · simp at hl1
  obtain _ | ⟨x1, ns1⟩ := ns1
  · simp at hl1
  obtain _ | ⟨x0, ns1⟩ := ns1
  · simp at hl1
  obtain _ | ⟨y3, ns1⟩ := ns1
  · simp at hl1
  obtain _ | ⟨y2, ns1⟩ := ns1
  · simp at hl1
  obtain _ | ⟨y1, ns1⟩ := ns1
  · simp at hl1
  obtain _ | ⟨y0, ns1⟩ := ns1
  · simp at hl1
  obtain _ | ⟨u3, ns1⟩ := ns1
  · simp at hl1
  obtain _ | ⟨u2, ns1⟩ := ns1
  · simp at hl1
  obtain _ | ⟨u1, ns1⟩ := ns1
  · simp at hl1
  obtain _ | ⟨u0, ns1⟩ := ns1
  · simp at hl1
  obtain _ | ⟨_, _⟩ := ns1
  rotate_left
  · simp at hl1
  have w_x3 := hb1 0 _ x3 rfl rfl
  have w_x2 := hb1 1 _ x2 rfl rfl
  have w_x1 := hb1 2 _ x1 rfl rfl
  have w_x0 := hb1 3 _ x0 rfl rfl
  have w_y3 := hb1 4 _ y3 rfl rfl
  have w_y2 := hb1 5 _ y2 rfl rfl
  have w_y1 := hb1 6 _ y1 rfl rfl
  have w_y0 := hb1 7 _ y0 rfl rfl
  have w_u3 := hb1 8 _ u3 rfl rfl
  have w_u2 := hb1 9 _ u2 rfl rfl
  have w_u1 := hb1 10 _ u1 rfl rfl
  have w_u0 := hb1 11 _ u0 rfl rfl
  have o2 := hval 2 2 v2 rfl rfl
  obtain ⟨n, rfl, w_n⟩ := ok_int Tryz.underlying2 o2
  refine Calls.mono (lawEventPut_w hR0 hlc0 hcm0 hS0 hW0 (u64_rg w_x3) (u64_rg w_x2) (u64_rg w_x1) (u64_rg w_x0) (u64_rg w_y3) (u64_rg w_y2) (u64_rg w_y1) (u64_rg w_y0) (u64_rg w_u3) (u64_rg w_u2) (u64_rg w_u1) (u64_rg w_u0)) fun e W' ⟨v, he, hv, hx⟩ => ?_
  subst he; subst hv
  exact ⟨_, rfl, law_post laid mapsR full pts rfl rfl bt hW' rfl hx⟩
theorem over : Rows.fnExactEventPutRow.holds Tryz.pinned (OpenSpec.ofChange Rows.fnExactEventPutSpec) :=
  OpenClaim.holds_of_wide 3 Tryz.f3 rfl rfl rfl rfl rfl rfl rfl ⟨rfl, rfl, rfl, rfl, rfl⟩ rfl rfl rfl rfl rfl (by kernel_rfl) Tryz.func3 (by kernel_rfl)
    (of_decide_eq_true (by kernel_rfl)) (by unfold Func.isWrapper; first | (rw [if_pos (by decide +kernel)]; kernel_rfl) | (rw [if_neg (by decide +kernel)]; exact ⟨rfl, rfl⟩))
    (fun os started H enc _ => lifted os started H enc)
end Go.Proofs.YtmbpomcbdopgnaaGreat.rowFnExactEventPut
namespace Go.Proofs.YtmbpomcbdopgnaaGreat
theorem fnExactEventPut_holds : Rows.FnExactEventPutSaid := rowFnExactEventPut.over
#print axioms fnExactEventPut_holds
end Go.Proofs.YtmbpomcbdopgnaaGreat
