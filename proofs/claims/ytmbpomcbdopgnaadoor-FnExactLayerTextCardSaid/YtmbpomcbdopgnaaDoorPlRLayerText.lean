/- Proved: for every input the law FnExactLayerText returns true (LayerText returns what the reference returns). The listed variables of the library hold what their text lays, which the card ties. -/
import Derived.Test.YtmbpomcbdopgnaaDoorPlb
import Derived.Test.YtmbpomcbdopgnaaDoorTie
import Derived.Test.YtmbpomcbdopgnaaDoorCards
import Derived.LaidMore
import Derived.Lay
import Derived.SevenTiedAt
import Derived.Stop.Joined
import Derived.Stop.LaidErr
namespace Go.Proofs.YtmbpomcbdopgnaaDoor.rowFnExactLayerText
open Go.ChangeShapes Go.WideShapes Go.ChangeAt Go.RowKit Go.Proofs.YtmbpomcbdopgnaaDoor.Fw Go.Proofs.YtmbpomcbdopgnaaDoor.W
set_option linter.unusedVariables false
theorem own : ownKnob Tryd.prog.godebug = none := by kernel_rfl
theorem laid : laidOutB Tryd.prog = true := by kernel_rfl
theorem mapsR : mapsRowed Tryd.prog = true := by kernel_rfl
theorem full : ((List.range Tryd.prog.types.size).all fun t => match Tryd.prog.underlying t with | some (.slice e) => decide (0 < Tryd.prog.cellsOf e) | _ => true) = true := by kernel_rfl
theorem pts : Tryd.f4.params.toList.all (fun t => decide (t < Tryd.prog.types.size)) = true := by kernel_rfl
theorem bt : Tryd.prog.underlying 4 = some .bool := by kernel_rfl
abbrev rw' := Rows.fnExactLayerTextRow
theorem tabs {W : World} (h : laidMetH Tryd.prog rw'.laid W) : TB W := by
  rw [MakeChecks.laidMetH_plain _ _ _ (by kernel_rfl)] at h
  exact Lib.tabIs_of_head (g := 0) (t := 112) (e := 86) (n := 20) tbG (by kernel_rfl) (by kernel_rfl) (by kernel_rfl) (by kernel_rfl) (by kernel_rfl) (laidMet.tail (laidMet.tail h))
set_option maxRecDepth 100000 in
theorem lifted (os : Os) (started : os.Started) (H : Type) (enc : TypeId × Value → H) :
    ReturnsInHanded {} Tryd.checked os 4 .any (fun w args => (Rows.fnExactLayerTextSpec.pre enc Tryd.prog Tryd.f4 rw'.domain false w args ∧ laidMetH Tryd.prog rw'.laid w) ∧ sizedMet enc Tryd.prog Tryd.f4 (OpenSpec.ofChange Rows.fnExactLayerTextSpec) false w args)
      (Rows.fnExactLayerTextSpec.post enc Tryd.prog Tryd.f4 false true false false) := by
  refine returnsInHanded_of_change_and (C := Tryd.checked) (X := fun w _ => laidMetH Tryd.prog rw'.laid w) (fun _ _ _ hh h => h.of_heap hh) own started (by kernel_rfl) Tryd.func4
    (ChangeSpec.witness_shaped (enc := enc) (C := Tryd.checked) (os := os) (X := fun w _ => laidMetH Tryd.prog rw'.laid w) false (World.laidAll Tryd.prog os rw'.laid) #[.slice none 0 0] 16 (World.laidAll_os _ _ _)
      (World.shaped_of_ZipB (by kernel_rfl) (by kernel_rfl)) (by kernel_rfl) (by kernel_rfl) (by kernel_rfl)
      (by rw [MakeChecks.laidMetH_plain _ _ _ (by kernel_rfl)]; exact laidMet_laidAll _ (by kernel_rfl) (by kernel_rfl))) ?_
  intro W base args ds gs before hval0 hW hcnd hsz0 hL _
  have hval : ∀ (j : Nat) t v, Tryd.f4.params[j]? = some t → args[j]? = some v → Value.okWide Tryd.prog W .any base t v := hval0
  have hW' := hW
  obtain ⟨p, q, hA0, hV, rfl, hfz, hnd⟩ := hW
  have hA : DataW.TrodAll enc Tryd.prog W 0 (fun _ => true) true Tryd.f4.params.toList args.toList ds p := hA0
  rw [Tryd.params4] at hA hval
  obtain ⟨v0, d0, rfl, rfl, t0⟩ := trodAll_one hA
  obtain ⟨rfl, rfl⟩ := trodVars_none hV
  have o0 := hval 0 28 v0 rfl rfl
  obtain ⟨A0, l0, c0, N0, E0, SL0, rfl, hlc0, hcm0, hR0, hS0⟩ := ok_rowR (d := 6) (d2 := 6) (ts := 46) (te := 90) (us := [2, 2]) Tryd.underlying28 (by kernel_rfl) (by kernel_rfl) Tryd.underlying46 (by kernel_rfl) rfl (by kernel_rfl) (by kernel_rfl) o0 t0
  refine Calls.mono (lawLayerText_ok hR0 hlc0 hcm0 hS0 (tabs hL)) fun e W' ⟨v, he, hv, hx⟩ => ?_
  subst he; subst hv
  exact ⟨_, rfl, law_post laid mapsR full pts rfl rfl bt hW' rfl hx⟩
theorem over : Rows.fnExactLayerTextRow.holds Tryd.pinned (OpenSpec.ofChange Rows.fnExactLayerTextSpec) :=
  OpenClaim.holds_of_wide 4 Tryd.f4 rfl rfl rfl rfl rfl rfl rfl ⟨rfl, rfl, rfl, rfl, rfl⟩ rfl rfl rfl rfl rfl (by kernel_rfl) Tryd.func4 (by kernel_rfl)
    (of_decide_eq_true (by kernel_rfl)) (by unfold Func.isWrapper; first | (rw [if_pos (by decide +kernel)]; kernel_rfl) | (rw [if_neg (by decide +kernel)]; exact ⟨rfl, rfl⟩))
    (fun os started H enc _ => lifted os started H enc)
end Go.Proofs.YtmbpomcbdopgnaaDoor.rowFnExactLayerText
namespace Go.Proofs.YtmbpomcbdopgnaaDoor
theorem fnExactLayerText_holds : Rows.FnExactLayerTextSaid := rowFnExactLayerText.over
#print axioms fnExactLayerText_holds
theorem fnExactLayerTextCard_holds : Rows.FnExactLayerTextCardSaid :=
  Claim7.holds_tied_plain_at .later [] [.data, .data, .data] true (true, "5215d8bde579fd98832708d7ad27e3e5d74656ff3f60ea34a9b251631daae45c") true fnExactLayerText_holds (fun _ h => by cases h) (by kernel_rfl) (fun _ h => by cases h) fnExactLayerText_row_tie rfl ⟨rfl, rfl⟩ (by kernel_rfl) rfl
    (fun f fn hf hfn => by
      obtain rfl : f = 4 := Option.some.inj ((show Tryd.prog.funcNamed "loop.example/g00225/laws.FnExactLayerText" = some 4 by kernel_rfl).symm.trans hf) |>.symm
      obtain rfl : fn = Tryd.f4 := (Option.some.inj (Tryd.func4.symm.trans hfn)).symm
      exact ⟨by kernel_rfl, fun j t ht => by
        rw [Tryd.params4] at ht
        have hm : t ∈ [28] := by simpa using Array.mem_of_getElem? ht
        have hall : ([28].all fun u => !Tryd.prog.wantsStandIn u) = true := by kernel_rfl
        exact (show Tryd.prog.wantsStandIn t = false by simpa using List.all_eq_true.1 hall t hm)⟩)
    (by kernel_rfl)
#print axioms fnExactLayerTextCard_holds
end Go.Proofs.YtmbpomcbdopgnaaDoor
