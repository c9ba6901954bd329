/- WkLPointCmp: walks, written by a program of this session. -/
import Derived.Test.YtpnjkjahfklfnaaWk24
set_option linter.unusedVariables false
set_option linter.unusedSimpArgs false
namespace Go.Proofs.Ytpnjkjahfklfnaa.W
open Go Go.RowKit Go.Proofs.Ytpnjkjahfklfnaa.Fw
attribute [local irreducible] RunK LW AW DV OE Ct
theorem agt43 : aggB Try.prog 43 = some true := by kernel_rfl
theorem co114 : callOk Try.prog 114 = true := by kernel_rfl
theorem co115 : callOk Try.prog 115 = true := by kernel_rfl
theorem co30 : callOk Try.prog 30 = true := by kernel_rfl
theorem co31 : callOk Try.prog 31 = true := by kernel_rfl
theorem co32 : callOk Try.prog 32 = true := by kernel_rfl
theorem co36 : callOk Try.prog 36 = true := by kernel_rfl
theorem co37 : callOk Try.prog 37 = true := by kernel_rfl
theorem co55 : callOk Try.prog 55 = true := by kernel_rfl
theorem co56 : callOk Try.prog 56 = true := by kernel_rfl
theorem co81 : callOk Try.prog 81 = true := by kernel_rfl
theorem co82 : callOk Try.prog 82 = true := by kernel_rfl
theorem co83 : callOk Try.prog 83 = true := by kernel_rfl
theorem eg46 : Try.prog.eqGuardType Try.prog.depth 46 = false := by kernel_rfl
theorem fl46 : nestB Try.prog 46 .u64 3 4 = true := by kernel_rfl
theorem sz43 : sizeB Try.prog 43 = some 12 := by kernel_rfl
theorem us141 : Try.prog.underlying 141 = some (.slice 46) := by kernel_rfl
set_option maxHeartbeats 1000000 in
theorem l3CmpX_ok {w : World}  {na : Bool} {Aa : Option Addr} {la ca : Nat} {x : Int} {sx : Nat} (ha : Num 32 115 .u32 w na Aa la ca x sx) {nb : Bool} {Ab : Option Addr} {lb cb : Nat} {y : Int} {sy : Nat} (hb : Num 32 115 .u32 w nb Ab lb cb y sy) {nm : Bool} {Am : Option Addr} {lm cm : Nat} {u : Int} {su : Nat} (hm : Num 32 115 .u32 w nm Am lm cm u su) {ne : Bool} {Ae : Option Addr} {le ce : Nat} {p : Int} {sp : Nat} (he : Num 32 115 .u32 w ne Ae le ce p sp) {nf : Bool} {Af : Option Addr} {lf cf : Nat} {q : Int} {sq : Nat} (hf : Num 32 115 .u32 w nf Af lf cf q sq) {ng : Bool} {Ag : Option Addr} {lg cg : Nat} {r : Int} {sr : Nat} (hg : Num 32 115 .u32 w ng Ag lg cg r sr) (hbsx : sx ≤ 100000) (hbsy : sy ≤ 100000) (hbsu : su ≤ 100000) (hbsp : sp ≤ 100000) (hbsq : sq ≤ 100000) (hbsr : sr ≤ 100000)  : Ct Try.prog 114 [.agg #[.bool na, .slice Aa la ca, .bool nb, .slice Ab lb cb, .bool nm, .slice Am lm cm], .agg #[.bool ne, .slice Ae le ce, .bool nf, .slice Af lf cf, .bool ng, .slice Ag lg cg]] w fun v w1 => v = .int .i64 (sgnI (x * r - p * u)) ∧ Ext w w1 := by
  refine ct_run (n := 16) Try.func114 rfl Try.ntmps114 rfl ?_
  have E0 : Below w.heap.size w w := Below.refl _ _
  have lha := Num.len (by decide) ha
  have lhb := Num.len (by decide) hb
  have lhm := Num.len (by decide) hm
  have lhe := Num.len (by decide) he
  have lhf := Num.len (by decide) hf
  have lhg := Num.len (by decide) hg
  refine rk_seq ?_
  refine rk_reg ?_
  refine lw_e (oe_box (v := .agg #[.bool na, .slice Aa la ca, .bool nb, .slice Ab lb cb, .bool nm, .slice Am lm cm]) (cs := #[.bool na, .slice Aa la ca, .bool nb, .slice Ab lb cb, .bool nm, .slice Am lm cm]) (T rfl rfl) rfl ?_)
  intro b1 w2 n3
  have N4 : w.heap.size ≤ b1 := n3.eq ▸ E0.size
  have E5 := below_ext E0 E0.size n3.ext
  refine lw_e (oe_box (v := .agg #[.bool ne, .slice Ae le ce, .bool nf, .slice Af lf cf, .bool ng, .slice Ag lg cg]) (cs := #[.bool ne, .slice Ae le ce, .bool nf, .slice Af lf cf, .bool ng, .slice Ag lg cg]) (T rfl rfl) rfl ?_)
  intro b6 w7 n8
  have N9 : w.heap.size ≤ b6 := n8.eq ▸ E5.size
  have : b1 < b6 := n8.eq ▸ lt_of_blk n3.blk
  have E10 := below_ext E5 E5.size n8.ext
  refine lw_v (.int .i64 0) (dv_assign C) ?_
  refine lw_nil ?_
  refine rk_seq ?_
  refine rk_any (fun w => w.heap[b1]? = some (.cells #[.bool na, .slice Aa la ca, .bool nb, .slice Ab lb cb, .bool nm, .slice Am lm cm] 92) ∧ w.heap[b6]? = some (.cells #[.bool ne, .slice Ae le ce, .bool nf, .slice Af lf cf, .bool ng, .slice Ag lg cg] 92)) [11] mo ?_
  intro w11 d12
  have E13 := below_ext E10 E10.size d12.ext
  have H14 := (d12.ext.blk (n8.ext.blk n3.blk))
  have H15 := (d12.ext.blk n8.blk)
  refine aw_pure 0 (.pointer (some ⟨b1, 0, none⟩)) rfl (by kernel_rfl) .none ⟨H14, H15⟩ (fun _ => dv_fieldAddr (a := ⟨b1, 0, none⟩) (a' := ⟨b1, 0, none⟩) fo92_0 (T rfl rfl) rfl) ?_
  refine aw_load 1 (.agg #[.bool na, .slice Aa la ca]) rfl (by kernel_rfl) .none ⟨H14, H15⟩ (fun _ s => dv_loads (l := [.bool na, .slice Aa la ca]) agt62 sz62 (T rfl rfl) s.1 rfl) ?_
  refine aw_pure 2 (.pointer (some ⟨b6, 4, none⟩)) rfl (by kernel_rfl) .none ⟨H14, H15⟩ (fun _ => dv_fieldAddr (a := ⟨b6, 0, none⟩) (a' := ⟨b6, 4, none⟩) fo92_2 (T rfl rfl) rfl) ?_
  refine aw_load 3 (.agg #[.bool ng, .slice Ag lg cg]) rfl (by kernel_rfl) .none ⟨H14, H15⟩ (fun _ s => dv_loads (l := [.bool ng, .slice Ag lg cg]) agt62 sz62 (T rfl rfl) s.2 rfl) ?_
  refine aw_pure 5 (.pointer (some ⟨b6, 0, none⟩)) rfl (by kernel_rfl) .none ⟨H14, H15⟩ (fun _ => dv_fieldAddr (a := ⟨b6, 0, none⟩) (a' := ⟨b6, 0, none⟩) fo92_0 (T rfl rfl) rfl) ?_
  refine aw_load 6 (.agg #[.bool ne, .slice Ae le ce]) rfl (by kernel_rfl) .none ⟨H14, H15⟩ (fun _ s => dv_loads (l := [.bool ne, .slice Ae le ce]) agt62 sz62 (T rfl rfl) s.2 rfl) ?_
  refine aw_pure 7 (.pointer (some ⟨b1, 4, none⟩)) rfl (by kernel_rfl) .none ⟨H14, H15⟩ (fun _ => dv_fieldAddr (a := ⟨b1, 0, none⟩) (a' := ⟨b1, 4, none⟩) fo92_2 (T rfl rfl) rfl) ?_
  refine aw_load 8 (.agg #[.bool nm, .slice Am lm cm]) rfl (by kernel_rfl) .none ⟨H14, H15⟩ (fun _ s => dv_loads (l := [.bool nm, .slice Am lm cm]) agt62 sz62 (T rfl rfl) s.1 rfl) ?_
  have h16 := (((ha.ext n3.ext).ext n8.ext).ext d12.ext)
  have h17 := (((hg.ext n3.ext).ext n8.ext).ext d12.ext)
  refine aw_one 4 rfl (by kernel_rfl) .none (oe_callf (vs := [.agg #[.bool na, .slice Aa la ca], .agg #[.bool ng, .slice Ag lg cg]]) co56 (ar2 (T rfl rfl) (T rfl rfl)) (l1Mul_ok h16 h17 (by first | decide | omega) (by first | decide | omega)) ?_)
  rintro _ w23 ⟨nr18, A19, n20, c21, rfl, e24, h22⟩
  have E25 := below_ext E13 E13.size e24
  have lh22 := Num.len (by decide) h22
  have H26 := (e24.blk H14)
  have H27 := (e24.blk H15)
  refine ⟨.inr ⟨H26, H27⟩, ?_⟩
  have h28 := ((((he.ext n3.ext).ext n8.ext).ext d12.ext).ext e24)
  have h29 := ((((hm.ext n3.ext).ext n8.ext).ext d12.ext).ext e24)
  refine aw_one 9 rfl (by kernel_rfl) .none (oe_callf (vs := [.agg #[.bool ne, .slice Ae le ce], .agg #[.bool nm, .slice Am lm cm]]) co56 (ar2 (T rfl rfl) (T rfl rfl)) (l1Mul_ok h28 h29 (by first | decide | omega) (by first | decide | omega)) ?_)
  rintro _ w35 ⟨nr30, A31, n32, c33, rfl, e36, h34⟩
  have E37 := below_ext E25 E25.size e36
  have lh34 := Num.len (by decide) h34
  have H38 := (e36.blk H26)
  have H39 := (e36.blk H27)
  refine ⟨.inr ⟨H38, H39⟩, ?_⟩
  have h40 := (h22.ext e36)
  refine aw_one 10 rfl (by kernel_rfl) .none (oe_callf (vs := [.agg #[.bool nr18, .slice A19 n20 c21], .agg #[.bool nr30, .slice A31 n32 c33]]) co59 (ar2 (T rfl rfl) (T rfl rfl)) (l1Cmp_ok h40 h34 (by first | decide | omega) (by first | decide | omega)) ?_)
  rintro _ w41 ⟨rfl, e42⟩
  have E43 := below_ext E37 E37.size e42
  have H44 := (e42.blk H38)
  have H45 := (e42.blk H39)
  refine ⟨.inr ⟨H44, H45⟩, ?_⟩
  refine aw_last 11 (.int .i64 (sgnI ((x * r) - (p * u)))) rfl (by kernel_rfl) .none (fun _ => dv_assign (T rfl rfl)) ?_
  refine aw_done (by kernel_rfl) ?_
  refine rk_ret Try.func114 (v := .int .i64 (sgnI ((x * r) - (p * u)))) (res1 Try.results114 (rv_tmp rfl rfl)) ⟨_, rfl, ?_⟩
  exact ⟨(vi (by rfl)), E43⟩

set_option maxHeartbeats 1000000 in
theorem l3CmpY_ok {w : World}  {na : Bool} {Aa : Option Addr} {la ca : Nat} {x : Int} {sx : Nat} (ha : Num 32 115 .u32 w na Aa la ca x sx) {nb : Bool} {Ab : Option Addr} {lb cb : Nat} {y : Int} {sy : Nat} (hb : Num 32 115 .u32 w nb Ab lb cb y sy) {nm : Bool} {Am : Option Addr} {lm cm : Nat} {u : Int} {su : Nat} (hm : Num 32 115 .u32 w nm Am lm cm u su) {ne : Bool} {Ae : Option Addr} {le ce : Nat} {p : Int} {sp : Nat} (he : Num 32 115 .u32 w ne Ae le ce p sp) {nf : Bool} {Af : Option Addr} {lf cf : Nat} {q : Int} {sq : Nat} (hf : Num 32 115 .u32 w nf Af lf cf q sq) {ng : Bool} {Ag : Option Addr} {lg cg : Nat} {r : Int} {sr : Nat} (hg : Num 32 115 .u32 w ng Ag lg cg r sr) (hbsx : sx ≤ 100000) (hbsy : sy ≤ 100000) (hbsu : su ≤ 100000) (hbsp : sp ≤ 100000) (hbsq : sq ≤ 100000) (hbsr : sr ≤ 100000)  : Ct Try.prog 115 [.agg #[.bool na, .slice Aa la ca, .bool nb, .slice Ab lb cb, .bool nm, .slice Am lm cm], .agg #[.bool ne, .slice Ae le ce, .bool nf, .slice Af lf cf, .bool ng, .slice Ag lg cg]] w fun v w1 => v = .int .i64 (sgnI (y * r - q * u)) ∧ Ext w w1 := by
  refine ct_run (n := 16) Try.func115 rfl Try.ntmps115 rfl ?_
  have E0 : Below w.heap.size w w := Below.refl _ _
  have lha := Num.len (by decide) ha
  have lhb := Num.len (by decide) hb
  have lhm := Num.len (by decide) hm
  have lhe := Num.len (by decide) he
  have lhf := Num.len (by decide) hf
  have lhg := Num.len (by decide) hg
  refine rk_seq ?_
  refine rk_reg ?_
  refine lw_e (oe_box (v := .agg #[.bool na, .slice Aa la ca, .bool nb, .slice Ab lb cb, .bool nm, .slice Am lm cm]) (cs := #[.bool na, .slice Aa la ca, .bool nb, .slice Ab lb cb, .bool nm, .slice Am lm cm]) (T rfl rfl) rfl ?_)
  intro b1 w2 n3
  have N4 : w.heap.size ≤ b1 := n3.eq ▸ E0.size
  have E5 := below_ext E0 E0.size n3.ext
  refine lw_e (oe_box (v := .agg #[.bool ne, .slice Ae le ce, .bool nf, .slice Af lf cf, .bool ng, .slice Ag lg cg]) (cs := #[.bool ne, .slice Ae le ce, .bool nf, .slice Af lf cf, .bool ng, .slice Ag lg cg]) (T rfl rfl) rfl ?_)
  intro b6 w7 n8
  have N9 : w.heap.size ≤ b6 := n8.eq ▸ E5.size
  have : b1 < b6 := n8.eq ▸ lt_of_blk n3.blk
  have E10 := below_ext E5 E5.size n8.ext
  refine lw_v (.int .i64 0) (dv_assign C) ?_
  refine lw_nil ?_
  refine rk_seq ?_
  refine rk_any (fun w => w.heap[b1]? = some (.cells #[.bool na, .slice Aa la ca, .bool nb, .slice Ab lb cb, .bool nm, .slice Am lm cm] 92) ∧ w.heap[b6]? = some (.cells #[.bool ne, .slice Ae le ce, .bool nf, .slice Af lf cf, .bool ng, .slice Ag lg cg] 92)) [11] mo ?_
  intro w11 d12
  have E13 := below_ext E10 E10.size d12.ext
  have H14 := (d12.ext.blk (n8.ext.blk n3.blk))
  have H15 := (d12.ext.blk n8.blk)
  refine aw_pure 0 (.pointer (some ⟨b1, 2, none⟩)) rfl (by kernel_rfl) .none ⟨H14, H15⟩ (fun _ => dv_fieldAddr (a := ⟨b1, 0, none⟩) (a' := ⟨b1, 2, none⟩) fo92_1 (T rfl rfl) rfl) ?_
  refine aw_load 1 (.agg #[.bool nb, .slice Ab lb cb]) rfl (by kernel_rfl) .none ⟨H14, H15⟩ (fun _ s => dv_loads (l := [.bool nb, .slice Ab lb cb]) agt62 sz62 (T rfl rfl) s.1 rfl) ?_
  refine aw_pure 2 (.pointer (some ⟨b6, 4, none⟩)) rfl (by kernel_rfl) .none ⟨H14, H15⟩ (fun _ => dv_fieldAddr (a := ⟨b6, 0, none⟩) (a' := ⟨b6, 4, none⟩) fo92_2 (T rfl rfl) rfl) ?_
  refine aw_load 3 (.agg #[.bool ng, .slice Ag lg cg]) rfl (by kernel_rfl) .none ⟨H14, H15⟩ (fun _ s => dv_loads (l := [.bool ng, .slice Ag lg cg]) agt62 sz62 (T rfl rfl) s.2 rfl) ?_
  refine aw_pure 5 (.pointer (some ⟨b6, 2, none⟩)) rfl (by kernel_rfl) .none ⟨H14, H15⟩ (fun _ => dv_fieldAddr (a := ⟨b6, 0, none⟩) (a' := ⟨b6, 2, none⟩) fo92_1 (T rfl rfl) rfl) ?_
  refine aw_load 6 (.agg #[.bool nf, .slice Af lf cf]) rfl (by kernel_rfl) .none ⟨H14, H15⟩ (fun _ s => dv_loads (l := [.bool nf, .slice Af lf cf]) agt62 sz62 (T rfl rfl) s.2 rfl) ?_
  refine aw_pure 7 (.pointer (some ⟨b1, 4, none⟩)) rfl (by kernel_rfl) .none ⟨H14, H15⟩ (fun _ => dv_fieldAddr (a := ⟨b1, 0, none⟩) (a' := ⟨b1, 4, none⟩) fo92_2 (T rfl rfl) rfl) ?_
  refine aw_load 8 (.agg #[.bool nm, .slice Am lm cm]) rfl (by kernel_rfl) .none ⟨H14, H15⟩ (fun _ s => dv_loads (l := [.bool nm, .slice Am lm cm]) agt62 sz62 (T rfl rfl) s.1 rfl) ?_
  have h16 := (((hb.ext n3.ext).ext n8.ext).ext d12.ext)
  have h17 := (((hg.ext n3.ext).ext n8.ext).ext d12.ext)
  refine aw_one 4 rfl (by kernel_rfl) .none (oe_callf (vs := [.agg #[.bool nb, .slice Ab lb cb], .agg #[.bool ng, .slice Ag lg cg]]) co56 (ar2 (T rfl rfl) (T rfl rfl)) (l1Mul_ok h16 h17 (by first | decide | omega) (by first | decide | omega)) ?_)
  rintro _ w23 ⟨nr18, A19, n20, c21, rfl, e24, h22⟩
  have E25 := below_ext E13 E13.size e24
  have lh22 := Num.len (by decide) h22
  have H26 := (e24.blk H14)
  have H27 := (e24.blk H15)
  refine ⟨.inr ⟨H26, H27⟩, ?_⟩
  have h28 := ((((hf.ext n3.ext).ext n8.ext).ext d12.ext).ext e24)
  have h29 := ((((hm.ext n3.ext).ext n8.ext).ext d12.ext).ext e24)
  refine aw_one 9 rfl (by kernel_rfl) .none (oe_callf (vs := [.agg #[.bool nf, .slice Af lf cf], .agg #[.bool nm, .slice Am lm cm]]) co56 (ar2 (T rfl rfl) (T rfl rfl)) (l1Mul_ok h28 h29 (by first | decide | omega) (by first | decide | omega)) ?_)
  rintro _ w35 ⟨nr30, A31, n32, c33, rfl, e36, h34⟩
  have E37 := below_ext E25 E25.size e36
  have lh34 := Num.len (by decide) h34
  have H38 := (e36.blk H26)
  have H39 := (e36.blk H27)
  refine ⟨.inr ⟨H38, H39⟩, ?_⟩
  have h40 := (h22.ext e36)
  refine aw_one 10 rfl (by kernel_rfl) .none (oe_callf (vs := [.agg #[.bool nr18, .slice A19 n20 c21], .agg #[.bool nr30, .slice A31 n32 c33]]) co59 (ar2 (T rfl rfl) (T rfl rfl)) (l1Cmp_ok h40 h34 (by first | decide | omega) (by first | decide | omega)) ?_)
  rintro _ w41 ⟨rfl, e42⟩
  have E43 := below_ext E37 E37.size e42
  have H44 := (e42.blk H38)
  have H45 := (e42.blk H39)
  refine ⟨.inr ⟨H44, H45⟩, ?_⟩
  refine aw_last 11 (.int .i64 (sgnI ((y * r) - (q * u)))) rfl (by kernel_rfl) .none (fun _ => dv_assign (T rfl rfl)) ?_
  refine aw_done (by kernel_rfl) ?_
  refine rk_ret Try.func115 (v := .int .i64 (sgnI ((y * r) - (q * u)))) (res1 Try.results115 (rv_tmp rfl rfl)) ⟨_, rfl, ?_⟩
  exact ⟨(vi (by rfl)), E43⟩

set_option maxHeartbeats 1000000 in
theorem l3Cmp_ok {w : World}  {na : Bool} {Aa : Option Addr} {la ca : Nat} {x : Int} {sx : Nat} (ha : Num 32 115 .u32 w na Aa la ca x sx) {nb : Bool} {Ab : Option Addr} {lb cb : Nat} {y : Int} {sy : Nat} (hb : Num 32 115 .u32 w nb Ab lb cb y sy) {nm : Bool} {Am : Option Addr} {lm cm : Nat} {u : Int} {su : Nat} (hm : Num 32 115 .u32 w nm Am lm cm u su) {ne : Bool} {Ae : Option Addr} {le ce : Nat} {p : Int} {sp : Nat} (he : Num 32 115 .u32 w ne Ae le ce p sp) {nf : Bool} {Af : Option Addr} {lf cf : Nat} {q : Int} {sq : Nat} (hf : Num 32 115 .u32 w nf Af lf cf q sq) {ng : Bool} {Ag : Option Addr} {lg cg : Nat} {r : Int} {sr : Nat} (hg : Num 32 115 .u32 w ng Ag lg cg r sr) (hbsx : sx ≤ 100000) (hbsy : sy ≤ 100000) (hbsu : su ≤ 100000) (hbsp : sp ≤ 100000) (hbsq : sq ≤ 100000) (hbsr : sr ≤ 100000)  : Ct Try.prog 81 [.agg #[.bool na, .slice Aa la ca, .bool nb, .slice Ab lb cb, .bool nm, .slice Am lm cm], .agg #[.bool ne, .slice Ae le ce, .bool nf, .slice Af lf cf, .bool ng, .slice Ag lg cg]] w fun v w1 => v = .int .i64 (pc x y u p q r) ∧ Ext w w1 := by
  refine ct_run (n := 15) Try.func81 rfl Try.ntmps81 rfl ?_
  have E0 : Below w.heap.size w w := Below.refl _ _
  have lha := Num.len (by decide) ha
  have lhb := Num.len (by decide) hb
  have lhm := Num.len (by decide) hm
  have lhe := Num.len (by decide) he
  have lhf := Num.len (by decide) hf
  have lhg := Num.len (by decide) hg
  refine rk_seq ?_
  refine rk_reg ?_
  refine lw_e (oe_box (v := .agg #[.bool na, .slice Aa la ca, .bool nb, .slice Ab lb cb, .bool nm, .slice Am lm cm]) (cs := #[.bool na, .slice Aa la ca, .bool nb, .slice Ab lb cb, .bool nm, .slice Am lm cm]) (T rfl rfl) rfl ?_)
  intro b1 w2 n3
  have N4 : w.heap.size ≤ b1 := n3.eq ▸ E0.size
  have E5 := below_ext E0 E0.size n3.ext
  refine lw_e (oe_box (v := .agg #[.bool ne, .slice Ae le ce, .bool nf, .slice Af lf cf, .bool ng, .slice Ag lg cg]) (cs := #[.bool ne, .slice Ae le ce, .bool nf, .slice Af lf cf, .bool ng, .slice Ag lg cg]) (T rfl rfl) rfl ?_)
  intro b6 w7 n8
  have N9 : w.heap.size ≤ b6 := n8.eq ▸ E5.size
  have : b1 < b6 := n8.eq ▸ lt_of_blk n3.blk
  have E10 := below_ext E5 E5.size n8.ext
  refine lw_v (.int .i64 0) (dv_assign C) ?_
  refine lw_nil ?_
  refine rk_seq ?_
  refine rk_reg ?_
  have H11 := (n8.ext.blk n3.blk)
  refine lw_v (.agg #[.bool na, .slice Aa la ca, .bool nb, .slice Ab lb cb, .bool nm, .slice Am lm cm]) (dv_loads (l := [.bool na, .slice Aa la ca, .bool nb, .slice Ab lb cb, .bool nm, .slice Am lm cm]) agt92 sz92 (T rfl rfl) H11 rfl) ?_
  refine lw_v (.agg #[.bool ne, .slice Ae le ce, .bool nf, .slice Af lf cf, .bool ng, .slice Ag lg cg]) (dv_loads (l := [.bool ne, .slice Ae le ce, .bool nf, .slice Af lf cf, .bool ng, .slice Ag lg cg]) agt92 sz92 (T rfl rfl) n8.blk rfl) ?_
  have h12 := ((ha.ext n3.ext).ext n8.ext)
  have h13 := ((hb.ext n3.ext).ext n8.ext)
  have h14 := ((hm.ext n3.ext).ext n8.ext)
  have h15 := ((he.ext n3.ext).ext n8.ext)
  have h16 := ((hf.ext n3.ext).ext n8.ext)
  have h17 := ((hg.ext n3.ext).ext n8.ext)
  refine lw_e (oe_callf (vs := [.agg #[.bool na, .slice Aa la ca, .bool nb, .slice Ab lb cb, .bool nm, .slice Am lm cm], .agg #[.bool ne, .slice Ae le ce, .bool nf, .slice Af lf cf, .bool ng, .slice Ag lg cg]]) co114 (ar2 (T rfl rfl) (T rfl rfl)) (l3CmpX_ok h12 h13 h14 h15 h16 h17 (by first | decide | omega) (by first | decide | omega) (by first | decide | omega) (by first | decide | omega) (by first | decide | omega) (by first | decide | omega) ) ?_)
  rintro _ w18 ⟨rfl, e19⟩
  have E20 := below_ext E10 E10.size e19
  refine lw_v (.int .i64 (sgnI (x * r - p * u))) (dv_assign (T rfl rfl)) ?_
  refine lw_nil ?_
  refine rk_seq ?_
  refine rk_seq ?_
  refine rk_reg ?_
  refine lw_v (.int .i64 (sgnI (x * r - p * u))) (dv_move (T rfl rfl)) ?_
  refine lw_v (.bool (decide ((sgnI (x * r - p * u)) ≠ 0))) (dv_neq (a := sgnI (x * r - p * u)) (b := 0) (T rfl rfl) C) ?_
  refine lw_nil ?_
  by_cases hb21 : (sgnI (x * r - p * u)) ≠ 0
  · -- T
    refine rk_ct (T rfl (congrArg Value.bool (decide_eq_true hb21))) ?_
    refine rk_seq ?_
    refine rk_reg ?_
    refine lw_v (.int .i64 (sgnI (x * r - p * u))) (dv_move (T rfl rfl)) ?_
    refine lw_v (.int .i64 (sgnI (x * r - p * u))) (dv_assign (T rfl rfl)) ?_
    refine lw_nil ?_
    refine rk_ret Try.func81 (v := .int .i64 (sgnI (x * r - p * u))) (res1 Try.results81 (rv_tmp rfl rfl)) ⟨_, rfl, ?_⟩
    exact ⟨(vi (by unfold pc; first | rw [if_pos (by assumption)] | rw [if_neg (by assumption)])), E20⟩
  · -- F
    refine rk_cf (T rfl (congrArg Value.bool (decide_eq_false hb21))) ?_
    refine rk_skip ?_
    refine rk_seq ?_
    refine rk_reg ?_
    have H22 := (e19.blk H11)
    refine lw_v (.agg #[.bool na, .slice Aa la ca, .bool nb, .slice Ab lb cb, .bool nm, .slice Am lm cm]) (dv_loads (l := [.bool na, .slice Aa la ca, .bool nb, .slice Ab lb cb, .bool nm, .slice Am lm cm]) agt92 sz92 (T rfl rfl) H22 rfl) ?_
    have H23 := (e19.blk n8.blk)
    refine lw_v (.agg #[.bool ne, .slice Ae le ce, .bool nf, .slice Af lf cf, .bool ng, .slice Ag lg cg]) (dv_loads (l := [.bool ne, .slice Ae le ce, .bool nf, .slice Af lf cf, .bool ng, .slice Ag lg cg]) agt92 sz92 (T rfl rfl) H23 rfl) ?_
    have h24 := (h12.ext e19)
    have h25 := (h13.ext e19)
    have h26 := (h14.ext e19)
    have h27 := (h15.ext e19)
    have h28 := (h16.ext e19)
    have h29 := (h17.ext e19)
    refine lw_e (oe_callf (vs := [.agg #[.bool na, .slice Aa la ca, .bool nb, .slice Ab lb cb, .bool nm, .slice Am lm cm], .agg #[.bool ne, .slice Ae le ce, .bool nf, .slice Af lf cf, .bool ng, .slice Ag lg cg]]) co115 (ar2 (T rfl rfl) (T rfl rfl)) (l3CmpY_ok h24 h25 h26 h27 h28 h29 (by first | decide | omega) (by first | decide | omega) (by first | decide | omega) (by first | decide | omega) (by first | decide | omega) (by first | decide | omega) ) ?_)
    rintro _ w30 ⟨rfl, e31⟩
    have E32 := below_ext E20 E20.size e31
    refine lw_v (.int .i64 (sgnI (y * r - q * u))) (dv_assign (T rfl rfl)) ?_
    refine lw_nil ?_
    refine rk_ret Try.func81 (v := .int .i64 (sgnI (y * r - q * u))) (res1 Try.results81 (rv_tmp rfl rfl)) ⟨_, rfl, ?_⟩
    exact ⟨(vi (by unfold pc; first | rw [if_pos (by assumption)] | rw [if_neg (by assumption)])), E32⟩

set_option maxHeartbeats 1000000 in
theorem cmpPoints_ok {w : World} {x y u p q r : Int} (fx_ : fits x) (fy_ : fits y) (fu_ : fits u) (fp_ : fits p) (fq_ : fits q) (fr_ : fits r)  : Ct Try.prog 83 [.agg #[.int .u64 (wv3 x), .int .u64 (wv2 x), .int .u64 (wv1 x), .int .u64 (wv0 x), .int .u64 (wv3 y), .int .u64 (wv2 y), .int .u64 (wv1 y), .int .u64 (wv0 y), .int .u64 (wv3 u), .int .u64 (wv2 u), .int .u64 (wv1 u), .int .u64 (wv0 u)], .agg #[.int .u64 (wv3 p), .int .u64 (wv2 p), .int .u64 (wv1 p), .int .u64 (wv0 p), .int .u64 (wv3 q), .int .u64 (wv2 q), .int .u64 (wv1 q), .int .u64 (wv0 q), .int .u64 (wv3 r), .int .u64 (wv2 r), .int .u64 (wv1 r), .int .u64 (wv0 r)]] w fun v w1 => v = .int .i64 (pc x y u p q r) ∧ Ext w w1 := by
  refine ct_run (n := 40) Try.func83 rfl Try.ntmps83 rfl ?_
  have E0 : Below w.heap.size w w := Below.refl _ _
  refine rk_seq ?_
  refine rk_reg ?_
  refine lw_e (oe_box (v := .agg #[.int .u64 (wv3 x), .int .u64 (wv2 x), .int .u64 (wv1 x), .int .u64 (wv0 x), .int .u64 (wv3 y), .int .u64 (wv2 y), .int .u64 (wv1 y), .int .u64 (wv0 y), .int .u64 (wv3 u), .int .u64 (wv2 u), .int .u64 (wv1 u), .int .u64 (wv0 u)]) (cs := #[.int .u64 (wv3 x), .int .u64 (wv2 x), .int .u64 (wv1 x), .int .u64 (wv0 x), .int .u64 (wv3 y), .int .u64 (wv2 y), .int .u64 (wv1 y), .int .u64 (wv0 y), .int .u64 (wv3 u), .int .u64 (wv2 u), .int .u64 (wv1 u), .int .u64 (wv0 u)]) (T rfl rfl) rfl ?_)
  intro b1 w2 n3
  have N4 : w.heap.size ≤ b1 := n3.eq ▸ E0.size
  have E5 := below_ext E0 E0.size n3.ext
  refine lw_e (oe_box (v := .agg #[.int .u64 (wv3 p), .int .u64 (wv2 p), .int .u64 (wv1 p), .int .u64 (wv0 p), .int .u64 (wv3 q), .int .u64 (wv2 q), .int .u64 (wv1 q), .int .u64 (wv0 q), .int .u64 (wv3 r), .int .u64 (wv2 r), .int .u64 (wv1 r), .int .u64 (wv0 r)]) (cs := #[.int .u64 (wv3 p), .int .u64 (wv2 p), .int .u64 (wv1 p), .int .u64 (wv0 p), .int .u64 (wv3 q), .int .u64 (wv2 q), .int .u64 (wv1 q), .int .u64 (wv0 q), .int .u64 (wv3 r), .int .u64 (wv2 r), .int .u64 (wv1 r), .int .u64 (wv0 r)]) (T rfl rfl) rfl ?_)
  intro b6 w7 n8
  have N9 : w.heap.size ≤ b6 := n8.eq ▸ E5.size
  have : b1 < b6 := n8.eq ▸ lt_of_blk n3.blk
  have E10 := below_ext E5 E5.size n8.ext
  refine lw_v (.int .i64 0) (dv_assign C) ?_
  refine lw_nil ?_
  refine rk_seq ?_
  refine rk_seq ?_
  refine rk_reg ?_
  have H11 := (n8.ext.blk n3.blk)
  refine lw_v (.agg #[.int .u64 (wv3 x), .int .u64 (wv2 x), .int .u64 (wv1 x), .int .u64 (wv0 x), .int .u64 (wv3 y), .int .u64 (wv2 y), .int .u64 (wv1 y), .int .u64 (wv0 y), .int .u64 (wv3 u), .int .u64 (wv2 u), .int .u64 (wv1 u), .int .u64 (wv0 u)]) (dv_loads (l := [.int .u64 (wv3 x), .int .u64 (wv2 x), .int .u64 (wv1 x), .int .u64 (wv0 x), .int .u64 (wv3 y), .int .u64 (wv2 y), .int .u64 (wv1 y), .int .u64 (wv0 y), .int .u64 (wv3 u), .int .u64 (wv2 u), .int .u64 (wv1 u), .int .u64 (wv0 u)]) agt46 sz46 (T rfl rfl) H11 rfl) ?_
  refine lw_v (.agg #[.int .u64 (wv3 p), .int .u64 (wv2 p), .int .u64 (wv1 p), .int .u64 (wv0 p), .int .u64 (wv3 q), .int .u64 (wv2 q), .int .u64 (wv1 q), .int .u64 (wv0 q), .int .u64 (wv3 r), .int .u64 (wv2 r), .int .u64 (wv1 r), .int .u64 (wv0 r)]) (dv_loads (l := [.int .u64 (wv3 p), .int .u64 (wv2 p), .int .u64 (wv1 p), .int .u64 (wv0 p), .int .u64 (wv3 q), .int .u64 (wv2 q), .int .u64 (wv1 q), .int .u64 (wv0 q), .int .u64 (wv3 r), .int .u64 (wv2 r), .int .u64 (wv1 r), .int .u64 (wv0 r)]) agt46 sz46 (T rfl rfl) n8.blk rfl) ?_
  refine lw_v (.bool (decide (([wv3 x, wv2 x, wv1 x, wv0 x, wv3 y, wv2 y, wv1 y, wv0 y, wv3 u, wv2 u, wv1 u, wv0 u] : List Int) = [wv3 p, wv2 p, wv1 p, wv0 p, wv3 q, wv2 q, wv1 q, wv0 q, wv3 r, wv2 r, wv1 r, wv0 r]))) (dv_eqln (k := .u64) (la := [wv3 x, wv2 x, wv1 x, wv0 x, wv3 y, wv2 y, wv1 y, wv0 y, wv3 u, wv2 u, wv1 u, wv0 u]) (lb := [wv3 p, wv2 p, wv1 p, wv0 p, wv3 q, wv2 q, wv1 q, wv0 q, wv3 r, wv2 r, wv1 r, wv0 r]) fl46 eg46 (T rfl rfl) (T rfl rfl) rfl rfl) ?_
  refine lw_nil ?_
  by_cases hb12 : ([wv3 x, wv2 x, wv1 x, wv0 x, wv3 y, wv2 y, wv1 y, wv0 y, wv3 u, wv2 u, wv1 u, wv0 u] : List Int) = [wv3 p, wv2 p, wv1 p, wv0 p, wv3 q, wv2 q, wv1 q, wv0 q, wv3 r, wv2 r, wv1 r, wv0 r]
  · -- T
    have hz13 := (wl3_eq fx_ fy_ fu_ fp_ fq_ fr_).1 hb12
    refine rk_ct (T rfl (congrArg Value.bool (decide_eq_true hb12))) ?_
    refine rk_seq ?_
    refine rk_reg ?_
    refine lw_v (.int .i64 0) (dv_assign C) ?_
    refine lw_nil ?_
    refine rk_ret Try.func83 (v := .int .i64 0) (res1 Try.results83 (rv_tmp rfl rfl)) ⟨_, rfl, ?_⟩
    exact ⟨(vi (by exact (by first | (obtain ⟨rfl, rfl, rfl⟩ : x = p ∧ y = q ∧ u = r := ‹_›; exact (pc_self ..).symm) | (unfold pc; first | rw [if_pos (by assumption)] | rw [if_neg (by assumption)])))), E10⟩
  · -- F
    have hz14 := mt (wl3_eq fx_ fy_ fu_ fp_ fq_ fr_).2 hb12
    refine rk_cf (T rfl (congrArg Value.bool (decide_eq_false hb12))) ?_
    refine rk_skip ?_
    refine rk_seq ?_
    have : b1 < w7.heap.size := lt_of_blk H11
    have : b6 < w7.heap.size := lt_of_blk n8.blk
    have : w.heap.size ≤ w7.heap.size := E10.size
    refine rk_par2 [fun vq wq_ => vq = .agg #[.int .u64 (wv3 x), .int .u64 (wv2 x), .int .u64 (wv1 x), .int .u64 (wv0 x), .int .u64 (wv3 y), .int .u64 (wv2 y), .int .u64 (wv1 y), .int .u64 (wv0 y), .int .u64 (wv3 u), .int .u64 (wv2 u), .int .u64 (wv1 u), .int .u64 (wv0 u)], fun vq wq_ => ∃ (nr29 : Bool) (A30 : Option Addr) (n31 : Nat) (c32 : Nat) (nr33 : Bool) (A34 : Option Addr) (n35 : Nat) (c36 : Nat) (nr37 : Bool) (A38 : Option Addr) (n39 : Nat) (c40 : Nat), vq = .agg #[.bool nr29, .slice A30 n31 c32, .bool nr33, .slice A34 n35 c36, .bool nr37, .slice A38 n39 c40] ∧ Num 64 22 .u64 wq_ nr29 A30 n31 c32 x 256 ∧ Num 64 22 .u64 wq_ nr33 A34 n35 c36 y 256 ∧ Num 64 22 .u64 wq_ nr37 A38 n39 c40 u 256, fun vq wq_ => vq = .agg #[.int .u64 (wv3 p), .int .u64 (wv2 p), .int .u64 (wv1 p), .int .u64 (wv0 p), .int .u64 (wv3 q), .int .u64 (wv2 q), .int .u64 (wv1 q), .int .u64 (wv0 q), .int .u64 (wv3 r), .int .u64 (wv2 r), .int .u64 (wv1 r), .int .u64 (wv0 r)], fun vq wq_ => ∃ (nr61 : Bool) (A62 : Option Addr) (n63 : Nat) (c64 : Nat) (nr65 : Bool) (A66 : Option Addr) (n67 : Nat) (c68 : Nat) (nr69 : Bool) (A70 : Option Addr) (n71 : Nat) (c72 : Nat), vq = .agg #[.bool nr61, .slice A62 n63 c64, .bool nr65, .slice A66 n67 c68, .bool nr69, .slice A70 n71 c72] ∧ Num 64 22 .u64 wq_ nr61 A62 n63 c64 p 256 ∧ Num 64 22 .u64 wq_ nr65 A66 n67 c68 q 256 ∧ Num 64 22 .u64 wq_ nr69 A70 n71 c72 r 256, fun _ _ => True, fun _ _ => True, fun _ _ => True, fun _ _ => True] [⟨4, 6, 1, 97, #[.bool false, .slice none 0 0, .bool false, .slice none 0 0, .bool false, .slice none 0 0]⟩, ⟨5, 7, 3, 97, #[.bool false, .slice none 0 0, .bool false, .slice none 0 0, .bool false, .slice none 0 0]⟩] [97] mo (by kernel_rfl) (by kernel_rfl) ?_ ?_ ?_ ?_ ?_
    · intro e he e2 he2 h; simp only [List.mem_cons, List.not_mem_nil, or_false] at he he2; rcases he with rfl | rfl <;> rcases he2 with rfl | rfl <;> first | rfl | exact absurd h (by decide)
    · exact ⟨⟨fun v w w2 e h => h, fun v w w2 b cs T fz s hb hT h => h⟩, ⟨fun v w w2 e ⟨nr29, A30, n31, c32, nr33, A34, n35, c36, nr37, A38, n39, c40, hv, h0_, h1_, h2_⟩ => ⟨nr29, A30, n31, c32, nr33, A34, n35, c36, nr37, A38, n39, c40, hv, h0_.ext e, h1_.ext e, h2_.ext e⟩, fun v w w2 b cs T fz s hb hT ⟨nr29, A30, n31, c32, nr33, A34, n35, c36, nr37, A38, n39, c40, hv, h0_, h1_, h2_⟩ => ⟨nr29, A30, n31, c32, nr33, A34, n35, c36, nr37, A38, n39, c40, hv, h0_.st s hb (ts_ne hT (by decide)), h1_.st s hb (ts_ne hT (by decide)), h2_.st s hb (ts_ne hT (by decide))⟩⟩, ⟨fun v w w2 e h => h, fun v w w2 b cs T fz s hb hT h => h⟩, ⟨fun v w w2 e ⟨nr61, A62, n63, c64, nr65, A66, n67, c68, nr69, A70, n71, c72, hv, h0_, h1_, h2_⟩ => ⟨nr61, A62, n63, c64, nr65, A66, n67, c68, nr69, A70, n71, c72, hv, h0_.ext e, h1_.ext e, h2_.ext e⟩, fun v w w2 b cs T fz s hb hT ⟨nr61, A62, n63, c64, nr65, A66, n67, c68, nr69, A70, n71, c72, hv, h0_, h1_, h2_⟩ => ⟨nr61, A62, n63, c64, nr65, A66, n67, c68, nr69, A70, n71, c72, hv, h0_.st s hb (ts_ne hT (by decide)), h1_.st s hb (ts_ne hT (by decide)), h2_.st s hb (ts_ne hT (by decide))⟩⟩, ⟨fun v w w2 e h => h, fun v w w2 b cs T fz s hb hT h => h⟩, ⟨fun v w w2 e h => h, fun v w w2 b cs T fz s hb hT h => h⟩, ⟨fun v w w2 e h => h, fun v w w2 b cs T fz s hb hT h => h⟩, ⟨fun v w w2 e h => h, fun v w w2 b cs T fz s hb hT h => h⟩, trivial⟩
    · refine ⟨?_, ?_, ?_, ?_, ?_, ?_, ?_, ?_, trivial⟩
      · refine .inr ⟨by kernel_rfl, ?_⟩
        intro fr16 w15 e17 hF18 hD19
        have E20 := below_ext E10 E10.size e17
        have H21 := (e17.blk H11)
        exact DV.oe (dv_loads (l := [.int .u64 (wv3 x), .int .u64 (wv2 x), .int .u64 (wv1 x), .int .u64 (wv0 x), .int .u64 (wv3 y), .int .u64 (wv2 y), .int .u64 (wv1 y), .int .u64 (wv0 y), .int .u64 (wv3 u), .int .u64 (wv2 u), .int .u64 (wv1 u), .int .u64 (wv0 u)]) agt46 sz46 (T rfl (hF18 2 (by kernel_rfl))) H21 rfl) ⟨Below.refl _ _, rfl⟩
      · refine .inr ⟨by kernel_rfl, ?_⟩
        intro fr23 w22 e24 hF25 hD26
        have E27 := below_ext E10 E10.size e24
        have hv28 : fr23 11 = .agg #[.int .u64 (wv3 x), .int .u64 (wv2 x), .int .u64 (wv1 x), .int .u64 (wv0 x), .int .u64 (wv3 y), .int .u64 (wv2 y), .int .u64 (wv1 y), .int .u64 (wv0 y), .int .u64 (wv3 u), .int .u64 (wv2 u), .int .u64 (wv1 u), .int .u64 (wv0 u)] := hD26 0 _ (by kernel_rfl) rfl (by kernel_rfl)
        refine id (oe_callf (vs := [.agg #[.int .u64 (wv3 x), .int .u64 (wv2 x), .int .u64 (wv1 x), .int .u64 (wv0 x), .int .u64 (wv3 y), .int .u64 (wv2 y), .int .u64 (wv1 y), .int .u64 (wv0 y), .int .u64 (wv3 u), .int .u64 (wv2 u), .int .u64 (wv1 u), .int .u64 (wv0 u)]]) co72 (ar1 (T rfl hv28)) (spot_ok fx_ fy_ fu_  ) ?_)
        rintro _ w44 ⟨nr29, A30, n31, c32, nr33, A34, n35, c36, nr37, A38, n39, c40, rfl, e45, h41, h42, h43⟩
        have E46 := below_ext E27 E27.size e45
        have lh41 := Num.len (by decide) h41
        have lh42 := Num.len (by decide) h42
        have lh43 := Num.len (by decide) h43
        exact ⟨e45, nr29, A30, n31, c32, nr33, A34, n35, c36, nr37, A38, n39, c40, rfl, h41, h42, h43⟩
      · refine .inr ⟨by kernel_rfl, ?_⟩
        intro fr48 w47 e49 hF50 hD51
        have E52 := below_ext E10 E10.size e49
        have H53 := (e49.blk n8.blk)
        exact DV.oe (dv_loads (l := [.int .u64 (wv3 p), .int .u64 (wv2 p), .int .u64 (wv1 p), .int .u64 (wv0 p), .int .u64 (wv3 q), .int .u64 (wv2 q), .int .u64 (wv1 q), .int .u64 (wv0 q), .int .u64 (wv3 r), .int .u64 (wv2 r), .int .u64 (wv1 r), .int .u64 (wv0 r)]) agt46 sz46 (T rfl (hF50 3 (by kernel_rfl))) H53 rfl) ⟨Below.refl _ _, rfl⟩
      · refine .inr ⟨by kernel_rfl, ?_⟩
        intro fr55 w54 e56 hF57 hD58
        have E59 := below_ext E10 E10.size e56
        have hv60 : fr55 13 = .agg #[.int .u64 (wv3 p), .int .u64 (wv2 p), .int .u64 (wv1 p), .int .u64 (wv0 p), .int .u64 (wv3 q), .int .u64 (wv2 q), .int .u64 (wv1 q), .int .u64 (wv0 q), .int .u64 (wv3 r), .int .u64 (wv2 r), .int .u64 (wv1 r), .int .u64 (wv0 r)] := hD58 2 _ (by kernel_rfl) rfl (by kernel_rfl)
        refine id (oe_callf (vs := [.agg #[.int .u64 (wv3 p), .int .u64 (wv2 p), .int .u64 (wv1 p), .int .u64 (wv0 p), .int .u64 (wv3 q), .int .u64 (wv2 q), .int .u64 (wv1 q), .int .u64 (wv0 q), .int .u64 (wv3 r), .int .u64 (wv2 r), .int .u64 (wv1 r), .int .u64 (wv0 r)]]) co72 (ar1 (T rfl hv60)) (spot_ok fp_ fq_ fr_  ) ?_)
        rintro _ w76 ⟨nr61, A62, n63, c64, nr65, A66, n67, c68, nr69, A70, n71, c72, rfl, e77, h73, h74, h75⟩
        have E78 := below_ext E59 E59.size e77
        have lh73 := Num.len (by decide) h73
        have lh74 := Num.len (by decide) h74
        have lh75 := Num.len (by decide) h75
        exact ⟨e77, nr61, A62, n63, c64, nr65, A66, n67, c68, nr69, A70, n71, c72, rfl, h73, h74, h75⟩
      · exact .inl (.inr ⟨by kernel_rfl, fun _ _ => trivial⟩)
      · exact .inl (.inr ⟨by kernel_rfl, fun _ _ => trivial⟩)
      · exact .inl (.inl (by kernel_rfl))
      · exact .inl (.inl (by kernel_rfl))
    · refine ⟨⟨⟨_, rfl, fun _ _ => oe_alloc ze97 fun b w hn => ⟨b, rfl, hn⟩⟩, ⟨_, rfl, ?_⟩⟩, ⟨⟨_, rfl, fun _ _ => oe_alloc ze97 fun b w hn => ⟨b, rfl, hn⟩⟩, ⟨_, rfl, ?_⟩⟩, trivial⟩
      · intro fr80 w79 b84 e81 hF82 hD83 hA85 hB86
        have E87 := below_ext E10 E10.size e81
        obtain ⟨nr88, A89, n90, c91, nr92, A93, n94, c95, nr96, A97, n98, c99, hv100, hp101, hp102, hp103⟩ : ∃ (nr29 : Bool) (A30 : Option Addr) (n31 : Nat) (c32 : Nat) (nr33 : Bool) (A34 : Option Addr) (n35 : Nat) (c36 : Nat) (nr37 : Bool) (A38 : Option Addr) (n39 : Nat) (c40 : Nat), fr80 12 = .agg #[.bool nr29, .slice A30 n31 c32, .bool nr33, .slice A34 n35 c36, .bool nr37, .slice A38 n39 c40] ∧ Num 64 22 .u64 w79 nr29 A30 n31 c32 x 256 ∧ Num 64 22 .u64 w79 nr33 A34 n35 c36 y 256 ∧ Num 64 22 .u64 w79 nr37 A38 n39 c40 u 256 := hD83 1 _ (by kernel_rfl) rfl (by kernel_rfl)
        have lhp101 := Num.len (by decide) hp101
        have lhp102 := Num.len (by decide) hp102
        have lhp103 := Num.len (by decide) hp103
        refine id (oe_store (v := .agg #[.bool nr88, .slice A89 n90 c91, .bool nr92, .slice A93 n94 c95, .bool nr96, .slice A97 n98 c99]) (vs := [.bool nr88, .slice A89 n90 c91, .bool nr92, .slice A93 n94 c95, .bool nr96, .slice A97 n98 c99]) (l := [.bool nr88, .slice A89 n90 c91, .bool nr92, .slice A93 n94 c95, .bool nr96, .slice A97 n98 c99]) (T rfl hA85) (T rfl hv100) sz97 rfl rfl rfl hB86 rfl ?_)
        intro w104 s105 H106
        exact ⟨s105, H106.trans (congrArg (fun v : Value => some (Obj.cells v.cells 97)) (show fr80 12 = _ from hv100).symm)⟩
      · intro fr109 w108 b113 e110 hF111 hD112 hA114 hB115
        have E116 := below_ext E10 E10.size e110
        obtain ⟨nr117, A118, n119, c120, nr121, A122, n123, c124, nr125, A126, n127, c128, hv129, hp130, hp131, hp132⟩ : ∃ (nr61 : Bool) (A62 : Option Addr) (n63 : Nat) (c64 : Nat) (nr65 : Bool) (A66 : Option Addr) (n67 : Nat) (c68 : Nat) (nr69 : Bool) (A70 : Option Addr) (n71 : Nat) (c72 : Nat), fr109 14 = .agg #[.bool nr61, .slice A62 n63 c64, .bool nr65, .slice A66 n67 c68, .bool nr69, .slice A70 n71 c72] ∧ Num 64 22 .u64 w108 nr61 A62 n63 c64 p 256 ∧ Num 64 22 .u64 w108 nr65 A66 n67 c68 q 256 ∧ Num 64 22 .u64 w108 nr69 A70 n71 c72 r 256 := hD112 3 _ (by kernel_rfl) rfl (by kernel_rfl)
        have lhp130 := Num.len (by decide) hp130
        have lhp131 := Num.len (by decide) hp131
        have lhp132 := Num.len (by decide) hp132
        refine id (oe_store (v := .agg #[.bool nr117, .slice A118 n119 c120, .bool nr121, .slice A122 n123 c124, .bool nr125, .slice A126 n127 c128]) (vs := [.bool nr117, .slice A118 n119 c120, .bool nr121, .slice A122 n123 c124, .bool nr125, .slice A126 n127 c128]) (l := [.bool nr117, .slice A118 n119 c120, .bool nr121, .slice A122 n123 c124, .bool nr125, .slice A126 n127 c128]) (T rfl hA114) (T rfl hv129) sz97 rfl rfl rfl hB115 rfl ?_)
        intro w133 s134 H135
        exact ⟨s134, H135.trans (congrArg (fun v : Value => some (Obj.cells v.cells 97)) (show fr109 14 = _ from hv129).symm)⟩
    intro fr138 w137 e139 hF140 hP141 hM142 hN143
    have E144 := below_ext E10 E10.size e139
    obtain ⟨_, p145, _, p146, _, _, _, _, _⟩ := hP141
    obtain ⟨nr147, A148, n149, c150, nr151, A152, n153, c154, nr155, A156, n157, c158, hv159, hp160, hp161, hp162⟩ : ∃ (nr29 : Bool) (A30 : Option Addr) (n31 : Nat) (c32 : Nat) (nr33 : Bool) (A34 : Option Addr) (n35 : Nat) (c36 : Nat) (nr37 : Bool) (A38 : Option Addr) (n39 : Nat) (c40 : Nat), fr138 12 = .agg #[.bool nr29, .slice A30 n31 c32, .bool nr33, .slice A34 n35 c36, .bool nr37, .slice A38 n39 c40] ∧ Num 64 22 .u64 w137 nr29 A30 n31 c32 x 256 ∧ Num 64 22 .u64 w137 nr33 A34 n35 c36 y 256 ∧ Num 64 22 .u64 w137 nr37 A38 n39 c40 u 256 := p145.resolve_left (nst (by kernel_rfl))
    have lhp160 := Num.len (by decide) hp160
    have lhp161 := Num.len (by decide) hp161
    have lhp162 := Num.len (by decide) hp162
    obtain ⟨nr163, A164, n165, c166, nr167, A168, n169, c170, nr171, A172, n173, c174, hv175, hp176, hp177, hp178⟩ : ∃ (nr61 : Bool) (A62 : Option Addr) (n63 : Nat) (c64 : Nat) (nr65 : Bool) (A66 : Option Addr) (n67 : Nat) (c68 : Nat) (nr69 : Bool) (A70 : Option Addr) (n71 : Nat) (c72 : Nat), fr138 14 = .agg #[.bool nr61, .slice A62 n63 c64, .bool nr65, .slice A66 n67 c68, .bool nr69, .slice A70 n71 c72] ∧ Num 64 22 .u64 w137 nr61 A62 n63 c64 p 256 ∧ Num 64 22 .u64 w137 nr65 A66 n67 c68 q 256 ∧ Num 64 22 .u64 w137 nr69 A70 n71 c72 r 256 := p146.resolve_left (nst (by kernel_rfl))
    have lhp176 := Num.len (by decide) hp176
    have lhp177 := Num.len (by decide) hp177
    have lhp178 := Num.len (by decide) hp178
    obtain ⟨⟨b179, hA180, hB181, hC182⟩, ⟨b183, hA184, hB185, hC186⟩, _⟩ := hM142
    have H187 : w137.heap[b179]? = some (.cells #[.bool nr147, .slice A148 n149 c150, .bool nr151, .slice A152 n153 c154, .bool nr155, .slice A156 n157 c158] 97) := hC182.trans (congrArg (fun v : Value => some (Obj.cells v.cells 97)) hv159)
    have N188 : w.heap.size ≤ b179 := by omega
    have H189 : w137.heap[b183]? = some (.cells #[.bool nr163, .slice A164 n165 c166, .bool nr167, .slice A168 n169 c170, .bool nr171, .slice A172 n173 c174] 97) := hC186.trans (congrArg (fun v : Value => some (Obj.cells v.cells 97)) hv175)
    have N190 : w.heap.size ≤ b183 := by omega
    have : b183 ≠ b179 := fun hh => hN143 _ (.tail _ (.head _)) _ (.head _) (by decide) (hA184.trans ((congrArg (fun q => Value.pointer (some ⟨q, 0, none⟩)) hh).trans hA180.symm))
    refine rk_seq ?_
    refine rk_seq ?_
    refine rk_any (fun w => w.heap[b179]? = some (.cells #[.bool nr147, .slice A148 n149 c150, .bool nr151, .slice A152 n153 c154, .bool nr155, .slice A156 n157 c158] 97) ∧ w.heap[b183]? = some (.cells #[.bool nr163, .slice A164 n165 c166, .bool nr167, .slice A168 n169 c170, .bool nr171, .slice A172 n173 c174] 97)) [11] mo ?_
    intro w191 d192
    have E193 := below_ext E144 E144.size d192.ext
    have H194 := (d192.ext.blk H187)
    have H195 := (d192.ext.blk H189)
    refine aw_pure 0 (.pointer (some ⟨b179, 0, none⟩)) rfl (by kernel_rfl) .none ⟨H194, H195⟩ (fun _ => dv_fieldAddr (a := ⟨b179, 0, none⟩) (a' := ⟨b179, 0, none⟩) fo97_0 (T rfl hA180) rfl) ?_
    refine aw_load 1 (.agg #[.bool nr147, .slice A148 n149 c150]) rfl (by kernel_rfl) .none ⟨H194, H195⟩ (fun _ s => dv_loads (l := [.bool nr147, .slice A148 n149 c150]) agt69 sz69 (T rfl rfl) s.1 rfl) ?_
    refine aw_pure 2 (.pointer (some ⟨b183, 4, none⟩)) rfl (by kernel_rfl) .none ⟨H194, H195⟩ (fun _ => dv_fieldAddr (a := ⟨b183, 0, none⟩) (a' := ⟨b183, 4, none⟩) fo97_2 (T rfl hA184) rfl) ?_
    refine aw_load 3 (.agg #[.bool nr171, .slice A172 n173 c174]) rfl (by kernel_rfl) .none ⟨H194, H195⟩ (fun _ s => dv_loads (l := [.bool nr171, .slice A172 n173 c174]) agt69 sz69 (T rfl rfl) s.2 rfl) ?_
    refine aw_pure 5 (.pointer (some ⟨b183, 0, none⟩)) rfl (by kernel_rfl) .none ⟨H194, H195⟩ (fun _ => dv_fieldAddr (a := ⟨b183, 0, none⟩) (a' := ⟨b183, 0, none⟩) fo97_0 (T rfl hA184) rfl) ?_
    refine aw_load 6 (.agg #[.bool nr163, .slice A164 n165 c166]) rfl (by kernel_rfl) .none ⟨H194, H195⟩ (fun _ s => dv_loads (l := [.bool nr163, .slice A164 n165 c166]) agt69 sz69 (T rfl rfl) s.2 rfl) ?_
    refine aw_pure 7 (.pointer (some ⟨b179, 4, none⟩)) rfl (by kernel_rfl) .none ⟨H194, H195⟩ (fun _ => dv_fieldAddr (a := ⟨b179, 0, none⟩) (a' := ⟨b179, 4, none⟩) fo97_2 (T rfl hA180) rfl) ?_
    refine aw_load 8 (.agg #[.bool nr155, .slice A156 n157 c158]) rfl (by kernel_rfl) .none ⟨H194, H195⟩ (fun _ s => dv_loads (l := [.bool nr155, .slice A156 n157 c158]) agt69 sz69 (T rfl rfl) s.1 rfl) ?_
    have h196 := (hp160.ext d192.ext)
    have h197 := (hp178.ext d192.ext)
    refine aw_one 4 rfl (by kernel_rfl) .none (oe_callf (vs := [.agg #[.bool nr147, .slice A148 n149 c150], .agg #[.bool nr171, .slice A172 n173 c174]]) co55 (ar2 (T rfl rfl) (T rfl rfl)) (nby_ok h196 h197 (by first | decide | omega) (by first | decide | omega)) ?_)
    rintro _ w203 ⟨nr198, A199, n200, c201, rfl, e204, h202⟩
    have E205 := below_ext E193 E193.size e204
    have lh202 := Num.len (by decide) h202
    have H206 := (e204.blk H194)
    have H207 := (e204.blk H195)
    refine ⟨.inr ⟨H206, H207⟩, ?_⟩
    have h208 := ((hp176.ext d192.ext).ext e204)
    have h209 := ((hp162.ext d192.ext).ext e204)
    refine aw_one 9 rfl (by kernel_rfl) .none (oe_callf (vs := [.agg #[.bool nr163, .slice A164 n165 c166], .agg #[.bool nr155, .slice A156 n157 c158]]) co55 (ar2 (T rfl rfl) (T rfl rfl)) (nby_ok h208 h209 (by first | decide | omega) (by first | decide | omega)) ?_)
    rintro _ w215 ⟨nr210, A211, n212, c213, rfl, e216, h214⟩
    have E217 := below_ext E205 E205.size e216
    have lh214 := Num.len (by decide) h214
    have H218 := (e216.blk H206)
    have H219 := (e216.blk H207)
    refine ⟨.inr ⟨H218, H219⟩, ?_⟩
    have h220 := (h202.ext e216)
    refine aw_one 10 rfl (by kernel_rfl) .none (oe_callf (vs := [.agg #[.bool nr198, .slice A199 n200 c201], .agg #[.bool nr210, .slice A211 n212 c213]]) co76 (ar2 (T rfl rfl) (T rfl rfl)) (ncmp_ok h220 h214 (by first | decide | omega) (by first | decide | omega)) ?_)
    rintro _ w221 ⟨rfl, e222⟩
    have E223 := below_ext E217 E217.size e222
    have H224 := (e222.blk H218)
    have H225 := (e222.blk H219)
    refine ⟨.inr ⟨H224, H225⟩, ?_⟩
    refine aw_last 11 (.int .i64 (sgnI ((x * r) - (p * u)))) rfl (by kernel_rfl) .none (fun _ => dv_assign (T rfl rfl)) ?_
    refine aw_done (by kernel_rfl) ?_
    refine rk_seq ?_
    refine rk_reg ?_
    refine lw_v (.int .i64 (sgnI ((x * r) - (p * u)))) (dv_move (T rfl rfl)) ?_
    refine lw_v (.bool (decide ((sgnI ((x * r) - (p * u))) ≠ 0))) (dv_neq (a := sgnI ((x * r) - (p * u))) (b := 0) (T rfl rfl) C) ?_
    refine lw_nil ?_
    by_cases hb226 : (sgnI ((x * r) - (p * u))) ≠ 0
    · -- FT
      refine rk_ct (T rfl (congrArg Value.bool (decide_eq_true hb226))) ?_
      refine rk_seq ?_
      refine rk_reg ?_
      refine lw_v (.int .i64 (sgnI ((x * r) - (p * u)))) (dv_move (T rfl rfl)) ?_
      refine lw_v (.int .i64 (sgnI ((x * r) - (p * u)))) (dv_assign (T rfl rfl)) ?_
      refine lw_nil ?_
      refine rk_ret Try.func83 (v := .int .i64 (sgnI ((x * r) - (p * u)))) (res1 Try.results83 (rv_tmp rfl rfl)) ⟨_, rfl, ?_⟩
      exact ⟨(vi (by exact (by first | (obtain ⟨rfl, rfl, rfl⟩ : x = p ∧ y = q ∧ u = r := ‹_›; exact (pc_self ..).symm) | (unfold pc; first | rw [if_pos (by assumption)] | rw [if_neg (by assumption)])))), E223⟩
    · -- FF
      refine rk_cf (T rfl (congrArg Value.bool (decide_eq_false hb226))) ?_
      refine rk_skip ?_
      refine rk_seq ?_
      refine rk_any (fun w => w.heap[b179]? = some (.cells #[.bool nr147, .slice A148 n149 c150, .bool nr151, .slice A152 n153 c154, .bool nr155, .slice A156 n157 c158] 97) ∧ w.heap[b183]? = some (.cells #[.bool nr163, .slice A164 n165 c166, .bool nr167, .slice A168 n169 c170, .bool nr171, .slice A172 n173 c174] 97)) [11] mo ?_
      intro w227 d228
      have E229 := below_ext E223 E223.size d228.ext
      have H230 := (d228.ext.blk H224)
      have H231 := (d228.ext.blk H225)
      refine aw_pure 0 (.pointer (some ⟨b179, 2, none⟩)) rfl (by kernel_rfl) .none ⟨H230, H231⟩ (fun _ => dv_fieldAddr (a := ⟨b179, 0, none⟩) (a' := ⟨b179, 2, none⟩) fo97_1 (T rfl hA180) rfl) ?_
      refine aw_load 1 (.agg #[.bool nr151, .slice A152 n153 c154]) rfl (by kernel_rfl) .none ⟨H230, H231⟩ (fun _ s => dv_loads (l := [.bool nr151, .slice A152 n153 c154]) agt69 sz69 (T rfl rfl) s.1 rfl) ?_
      refine aw_pure 2 (.pointer (some ⟨b183, 4, none⟩)) rfl (by kernel_rfl) .none ⟨H230, H231⟩ (fun _ => dv_fieldAddr (a := ⟨b183, 0, none⟩) (a' := ⟨b183, 4, none⟩) fo97_2 (T rfl hA184) rfl) ?_
      refine aw_load 3 (.agg #[.bool nr171, .slice A172 n173 c174]) rfl (by kernel_rfl) .none ⟨H230, H231⟩ (fun _ s => dv_loads (l := [.bool nr171, .slice A172 n173 c174]) agt69 sz69 (T rfl rfl) s.2 rfl) ?_
      refine aw_pure 5 (.pointer (some ⟨b183, 2, none⟩)) rfl (by kernel_rfl) .none ⟨H230, H231⟩ (fun _ => dv_fieldAddr (a := ⟨b183, 0, none⟩) (a' := ⟨b183, 2, none⟩) fo97_1 (T rfl hA184) rfl) ?_
      refine aw_load 6 (.agg #[.bool nr167, .slice A168 n169 c170]) rfl (by kernel_rfl) .none ⟨H230, H231⟩ (fun _ s => dv_loads (l := [.bool nr167, .slice A168 n169 c170]) agt69 sz69 (T rfl rfl) s.2 rfl) ?_
      refine aw_pure 7 (.pointer (some ⟨b179, 4, none⟩)) rfl (by kernel_rfl) .none ⟨H230, H231⟩ (fun _ => dv_fieldAddr (a := ⟨b179, 0, none⟩) (a' := ⟨b179, 4, none⟩) fo97_2 (T rfl hA180) rfl) ?_
      refine aw_load 8 (.agg #[.bool nr155, .slice A156 n157 c158]) rfl (by kernel_rfl) .none ⟨H230, H231⟩ (fun _ s => dv_loads (l := [.bool nr155, .slice A156 n157 c158]) agt69 sz69 (T rfl rfl) s.1 rfl) ?_
      have h232 := (((((hp161.ext d192.ext).ext e204).ext e216).ext e222).ext d228.ext)
      have h233 := ((((h197.ext e204).ext e216).ext e222).ext d228.ext)
      refine aw_one 4 rfl (by kernel_rfl) .none (oe_callf (vs := [.agg #[.bool nr151, .slice A152 n153 c154], .agg #[.bool nr171, .slice A172 n173 c174]]) co55 (ar2 (T rfl rfl) (T rfl rfl)) (nby_ok h232 h233 (by first | decide | omega) (by first | decide | omega)) ?_)
      rintro _ w239 ⟨nr234, A235, n236, c237, rfl, e240, h238⟩
      have E241 := below_ext E229 E229.size e240
      have lh238 := Num.len (by decide) h238
      have H242 := (e240.blk H230)
      have H243 := (e240.blk H231)
      refine ⟨.inr ⟨H242, H243⟩, ?_⟩
      have h244 := ((((((hp177.ext d192.ext).ext e204).ext e216).ext e222).ext d228.ext).ext e240)
      have h245 := ((((h209.ext e216).ext e222).ext d228.ext).ext e240)
      refine aw_one 9 rfl (by kernel_rfl) .none (oe_callf (vs := [.agg #[.bool nr167, .slice A168 n169 c170], .agg #[.bool nr155, .slice A156 n157 c158]]) co55 (ar2 (T rfl rfl) (T rfl rfl)) (nby_ok h244 h245 (by first | decide | omega) (by first | decide | omega)) ?_)
      rintro _ w251 ⟨nr246, A247, n248, c249, rfl, e252, h250⟩
      have E253 := below_ext E241 E241.size e252
      have lh250 := Num.len (by decide) h250
      have H254 := (e252.blk H242)
      have H255 := (e252.blk H243)
      refine ⟨.inr ⟨H254, H255⟩, ?_⟩
      have h256 := (h238.ext e252)
      refine aw_one 10 rfl (by kernel_rfl) .none (oe_callf (vs := [.agg #[.bool nr234, .slice A235 n236 c237], .agg #[.bool nr246, .slice A247 n248 c249]]) co76 (ar2 (T rfl rfl) (T rfl rfl)) (ncmp_ok h256 h250 (by first | decide | omega) (by first | decide | omega)) ?_)
      rintro _ w257 ⟨rfl, e258⟩
      have E259 := below_ext E253 E253.size e258
      have H260 := (e258.blk H254)
      have H261 := (e258.blk H255)
      refine ⟨.inr ⟨H260, H261⟩, ?_⟩
      refine aw_last 11 (.int .i64 (sgnI ((y * r) - (q * u)))) rfl (by kernel_rfl) .none (fun _ => dv_assign (T rfl rfl)) ?_
      refine aw_done (by kernel_rfl) ?_
      refine rk_ret Try.func83 (v := .int .i64 (sgnI ((y * r) - (q * u)))) (res1 Try.results83 (rv_tmp rfl rfl)) ⟨_, rfl, ?_⟩
      exact ⟨(vi (by exact (by first | (obtain ⟨rfl, rfl, rfl⟩ : x = p ∧ y = q ∧ u = r := ‹_›; exact (pc_self ..).symm) | (unfold pc; first | rw [if_pos (by assumption)] | rw [if_neg (by assumption)])))), E259⟩

set_option maxHeartbeats 1000000 in
theorem areP2_ok {w : World} {bl : Nat} {x y u p q r : Int} (fx_ : fits x) (fy_ : fits y) (fu_ : fits u) (fp_ : fits p) (fq_ : fits q) (fr_ : fits r) (hL : w.heap[bl]? = some (.cells #[.int .u64 (wv3 x), .int .u64 (wv2 x), .int .u64 (wv1 x), .int .u64 (wv0 x), .int .u64 (wv3 y), .int .u64 (wv2 y), .int .u64 (wv1 y), .int .u64 (wv0 y), .int .u64 (wv3 u), .int .u64 (wv2 u), .int .u64 (wv1 u), .int .u64 (wv0 u), .int .u64 (wv3 p), .int .u64 (wv2 p), .int .u64 (wv1 p), .int .u64 (wv0 p), .int .u64 (wv3 q), .int .u64 (wv2 q), .int .u64 (wv1 q), .int .u64 (wv0 q), .int .u64 (wv3 r), .int .u64 (wv2 r), .int .u64 (wv1 r), .int .u64 (wv0 r)] 46)) : Ct Try.prog 82 [.slice (some ⟨bl, 0, none⟩) 2 2] w fun v w1 => v = .bool (decide (pOk x y u ∧ pOk p q r)) ∧ Ext w w1 := by
  refine ct_run (n := 15) Try.func82 rfl Try.ntmps82 rfl ?_
  have E0 : Below w.heap.size w w := Below.refl _ _
  refine rk_seq ?_
  refine rk_reg ?_
  refine lw_v (.bool false) (dv_assign C) ?_
  refine lw_nil ?_
  refine rk_seq ?_
  refine rk_seq ?_
  refine rk_reg ?_
  refine lw_v (.slice (some ⟨bl, 0, none⟩) 2 2) (dv_move (T rfl rfl)) ?_
  refine lw_v (.int .i64 2) (dv_len (ad := some ⟨bl, 0, none⟩) (l := 2) (c := 2) us141 (T rfl rfl)) ?_
  refine lw_v (.int .i64 0) (dv_move C) ?_
  refine lw_nil ?_
  refine rk_block ?_
  refine rk_unroll ?_
  refine rk_seq ?_
  refine rk_reg ?_
  refine lw_v (.bool (decide (((0 : Int) < 2 : Prop)))) (dv_lss (a := 0) (b := 2) (T rfl rfl) (T rfl rfl)) ?_
  refine lw_nil ?_
  refine rk_seq ?_
  refine rk_ct (T rfl (rfl)) ?_
  refine rk_skip ?_
  refine rk_seq ?_
  refine rk_block ?_
  refine rk_seq ?_
  refine rk_reg ?_
  refine lw_v (.pointer (some ⟨bl, 0, none⟩)) (dv_indexAddr (a := ⟨bl, 0, none⟩) (a' := ⟨bl, 0, none⟩) (l := 2) (c := 2) (j := 0) us141 sz46 (T rfl rfl) (T rfl rfl) (by decide) (by decide) rfl) ?_
  refine lw_v (.agg #[.int .u64 (wv3 x), .int .u64 (wv2 x), .int .u64 (wv1 x), .int .u64 (wv0 x), .int .u64 (wv3 y), .int .u64 (wv2 y), .int .u64 (wv1 y), .int .u64 (wv0 y), .int .u64 (wv3 u), .int .u64 (wv2 u), .int .u64 (wv1 u), .int .u64 (wv0 u)]) (dv_loads (l := [.int .u64 (wv3 x), .int .u64 (wv2 x), .int .u64 (wv1 x), .int .u64 (wv0 x), .int .u64 (wv3 y), .int .u64 (wv2 y), .int .u64 (wv1 y), .int .u64 (wv0 y), .int .u64 (wv3 u), .int .u64 (wv2 u), .int .u64 (wv1 u), .int .u64 (wv0 u)]) agt46 sz46 (T rfl rfl) hL rfl) ?_
  refine lw_e (oe_alloc ze46 ?_)
  intro b1 w2 n3
  have N4 : w.heap.size ≤ b1 := n3.eq ▸ E0.size
  have : bl < b1 := n3.eq ▸ lt_of_blk hL
  have E5 := below_ext E0 E0.size n3.ext
  refine lw_e (oe_store (v := .agg #[.int .u64 (wv3 x), .int .u64 (wv2 x), .int .u64 (wv1 x), .int .u64 (wv0 x), .int .u64 (wv3 y), .int .u64 (wv2 y), .int .u64 (wv1 y), .int .u64 (wv0 y), .int .u64 (wv3 u), .int .u64 (wv2 u), .int .u64 (wv1 u), .int .u64 (wv0 u)]) (vs := [.int .u64 (wv3 x), .int .u64 (wv2 x), .int .u64 (wv1 x), .int .u64 (wv0 x), .int .u64 (wv3 y), .int .u64 (wv2 y), .int .u64 (wv1 y), .int .u64 (wv0 y), .int .u64 (wv3 u), .int .u64 (wv2 u), .int .u64 (wv1 u), .int .u64 (wv0 u)]) (l := [.int .u64 (wv3 x), .int .u64 (wv2 x), .int .u64 (wv1 x), .int .u64 (wv0 x), .int .u64 (wv3 y), .int .u64 (wv2 y), .int .u64 (wv1 y), .int .u64 (wv0 y), .int .u64 (wv3 u), .int .u64 (wv2 u), .int .u64 (wv1 u), .int .u64 (wv0 u)]) (T rfl rfl) (T rfl rfl) sz46 rfl rfl rfl n3.blk rfl ?_)
  intro w6 s7 H8
  have E9 := below_st E5 N4 s7
  refine lw_nil ?_
  refine rk_seq ?_
  refine rk_reg ?_
  refine lw_v (.agg #[.int .u64 (wv3 x), .int .u64 (wv2 x), .int .u64 (wv1 x), .int .u64 (wv0 x), .int .u64 (wv3 y), .int .u64 (wv2 y), .int .u64 (wv1 y), .int .u64 (wv0 y), .int .u64 (wv3 u), .int .u64 (wv2 u), .int .u64 (wv1 u), .int .u64 (wv0 u)]) (dv_loads (l := [.int .u64 (wv3 x), .int .u64 (wv2 x), .int .u64 (wv1 x), .int .u64 (wv0 x), .int .u64 (wv3 y), .int .u64 (wv2 y), .int .u64 (wv1 y), .int .u64 (wv0 y), .int .u64 (wv3 u), .int .u64 (wv2 u), .int .u64 (wv1 u), .int .u64 (wv0 u)]) agt46 sz46 (T rfl rfl) H8 rfl) ?_
  refine lw_e (oe_callf (vs := [.agg #[.int .u64 (wv3 x), .int .u64 (wv2 x), .int .u64 (wv1 x), .int .u64 (wv0 x), .int .u64 (wv3 y), .int .u64 (wv2 y), .int .u64 (wv1 y), .int .u64 (wv0 y), .int .u64 (wv3 u), .int .u64 (wv2 u), .int .u64 (wv1 u), .int .u64 (wv0 u)]]) co32 (ar1 (T rfl rfl)) (iPointOk_ok (x := x) (y := y) (u := u) fx_ fy_ fu_ ) ?_)
  rintro _ w10 ⟨rfl, e11⟩
  have E12 := below_ext E9 E9.size e11
  refine lw_v (.bool (decide (¬ (pOk x y u)))) (dv_notd (p := pOk x y u) (T rfl rfl)) ?_
  refine lw_nil ?_
  by_cases hb13 : pOk x y u
  · -- T
    refine rk_cf (T rfl (congrArg Value.bool (decide_eq_false (not_not_intro hb13)))) ?_
    refine rk_skip ?_
    refine rk_inBlock ?_
    refine rk_reg ?_
    refine lw_v (.int .i64 1) (dv_add (a := 0) (b := 1) (z := 1) (T rfl rfl) C (by decide)) ?_
    refine lw_v (.int .i64 1) (dv_move (T rfl rfl)) ?_
    refine lw_nil ?_
    refine rk_inLoop ?_
    refine rk_seq ?_
    refine rk_reg ?_
    refine lw_v (.bool (decide (((1 : Int) < 2 : Prop)))) (dv_lss (a := 1) (b := 2) (T rfl rfl) (T rfl rfl)) ?_
    refine lw_nil ?_
    refine rk_seq ?_
    refine rk_ct (T rfl (rfl)) ?_
    refine rk_skip ?_
    refine rk_seq ?_
    refine rk_block ?_
    refine rk_seq ?_
    refine rk_reg ?_
    refine lw_v (.pointer (some ⟨bl, 12, none⟩)) (dv_indexAddr (a := ⟨bl, 0, none⟩) (a' := ⟨bl, 12, none⟩) (l := 2) (c := 2) (j := 1) us141 sz46 (T rfl rfl) (T rfl rfl) (by decide) (by decide) rfl) ?_
    have H14 := (e11.blk (s7.blk (n3.ext.blk hL) (by omega)))
    refine lw_v (.agg #[.int .u64 (wv3 p), .int .u64 (wv2 p), .int .u64 (wv1 p), .int .u64 (wv0 p), .int .u64 (wv3 q), .int .u64 (wv2 q), .int .u64 (wv1 q), .int .u64 (wv0 q), .int .u64 (wv3 r), .int .u64 (wv2 r), .int .u64 (wv1 r), .int .u64 (wv0 r)]) (dv_loads (l := [.int .u64 (wv3 p), .int .u64 (wv2 p), .int .u64 (wv1 p), .int .u64 (wv0 p), .int .u64 (wv3 q), .int .u64 (wv2 q), .int .u64 (wv1 q), .int .u64 (wv0 q), .int .u64 (wv3 r), .int .u64 (wv2 r), .int .u64 (wv1 r), .int .u64 (wv0 r)]) agt46 sz46 (T rfl rfl) H14 rfl) ?_
    refine lw_e (oe_alloc ze46 ?_)
    intro b15 w16 n17
    have N18 : w.heap.size ≤ b15 := n17.eq ▸ E12.size
    have H19 := (e11.blk H8)
    have : b1 < b15 := n17.eq ▸ lt_of_blk H19
    have E20 := below_ext E12 E12.size n17.ext
    refine lw_e (oe_store (v := .agg #[.int .u64 (wv3 p), .int .u64 (wv2 p), .int .u64 (wv1 p), .int .u64 (wv0 p), .int .u64 (wv3 q), .int .u64 (wv2 q), .int .u64 (wv1 q), .int .u64 (wv0 q), .int .u64 (wv3 r), .int .u64 (wv2 r), .int .u64 (wv1 r), .int .u64 (wv0 r)]) (vs := [.int .u64 (wv3 p), .int .u64 (wv2 p), .int .u64 (wv1 p), .int .u64 (wv0 p), .int .u64 (wv3 q), .int .u64 (wv2 q), .int .u64 (wv1 q), .int .u64 (wv0 q), .int .u64 (wv3 r), .int .u64 (wv2 r), .int .u64 (wv1 r), .int .u64 (wv0 r)]) (l := [.int .u64 (wv3 p), .int .u64 (wv2 p), .int .u64 (wv1 p), .int .u64 (wv0 p), .int .u64 (wv3 q), .int .u64 (wv2 q), .int .u64 (wv1 q), .int .u64 (wv0 q), .int .u64 (wv3 r), .int .u64 (wv2 r), .int .u64 (wv1 r), .int .u64 (wv0 r)]) (T rfl rfl) (T rfl rfl) sz46 rfl rfl rfl n17.blk rfl ?_)
    intro w21 s22 H23
    have E24 := below_st E20 N18 s22
    refine lw_nil ?_
    refine rk_seq ?_
    refine rk_reg ?_
    refine lw_v (.agg #[.int .u64 (wv3 p), .int .u64 (wv2 p), .int .u64 (wv1 p), .int .u64 (wv0 p), .int .u64 (wv3 q), .int .u64 (wv2 q), .int .u64 (wv1 q), .int .u64 (wv0 q), .int .u64 (wv3 r), .int .u64 (wv2 r), .int .u64 (wv1 r), .int .u64 (wv0 r)]) (dv_loads (l := [.int .u64 (wv3 p), .int .u64 (wv2 p), .int .u64 (wv1 p), .int .u64 (wv0 p), .int .u64 (wv3 q), .int .u64 (wv2 q), .int .u64 (wv1 q), .int .u64 (wv0 q), .int .u64 (wv3 r), .int .u64 (wv2 r), .int .u64 (wv1 r), .int .u64 (wv0 r)]) agt46 sz46 (T rfl rfl) H23 rfl) ?_
    refine lw_e (oe_callf (vs := [.agg #[.int .u64 (wv3 p), .int .u64 (wv2 p), .int .u64 (wv1 p), .int .u64 (wv0 p), .int .u64 (wv3 q), .int .u64 (wv2 q), .int .u64 (wv1 q), .int .u64 (wv0 q), .int .u64 (wv3 r), .int .u64 (wv2 r), .int .u64 (wv1 r), .int .u64 (wv0 r)]]) co32 (ar1 (T rfl rfl)) (iPointOk_ok (x := p) (y := q) (u := r) fp_ fq_ fr_ ) ?_)
    rintro _ w25 ⟨rfl, e26⟩
    have E27 := below_ext E24 E24.size e26
    refine lw_v (.bool (decide (¬ (pOk p q r)))) (dv_notd (p := pOk p q r) (T rfl rfl)) ?_
    refine lw_nil ?_
    by_cases hb28 : pOk p q r
    · -- TT
      refine rk_cf (T rfl (congrArg Value.bool (decide_eq_false (not_not_intro hb28)))) ?_
      refine rk_skip ?_
      refine rk_inBlock ?_
      refine rk_reg ?_
      refine lw_v (.int .i64 2) (dv_add (a := 1) (b := 1) (z := 2) (T rfl rfl) C (by decide)) ?_
      refine lw_v (.int .i64 2) (dv_move (T rfl rfl)) ?_
      refine lw_nil ?_
      refine rk_inLoop ?_
      refine rk_seq ?_
      refine rk_reg ?_
      refine lw_v (.bool (decide (((2 : Int) < 2 : Prop)))) (dv_lss (a := 2) (b := 2) (T rfl rfl) (T rfl rfl)) ?_
      refine lw_nil ?_
      refine rk_seq ?_
      refine rk_cf (T rfl (rfl)) ?_
      refine rk_exit rfl ?_
      refine rk_seq ?_
      refine rk_reg ?_
      refine lw_v (.bool true) (dv_assign C) ?_
      refine lw_nil ?_
      refine rk_ret Try.func82 (v := .bool true) (res1 Try.results82 (rv_tmp rfl rfl)) ⟨_, rfl, ?_⟩
      exact ⟨(vt (by first | assumption | exact ⟨(by first | assumption | simpa using ‹_›), (by first | assumption | simpa using ‹_›)⟩)), E27⟩
    · -- TF
      refine rk_ct (T rfl (congrArg Value.bool (decide_eq_true hb28))) ?_
      refine rk_seq ?_
      refine rk_reg ?_
      refine lw_v (.bool false) (dv_assign C) ?_
      refine lw_nil ?_
      refine rk_ret Try.func82 (v := .bool false) (res1 Try.results82 (rv_tmp rfl rfl)) ⟨_, rfl, ?_⟩
      exact ⟨(vf (by first | assumption | (intro hh; first | exact absurd hh (by assumption) | exact absurd hh.1 (by assumption) | exact absurd hh.2 (by assumption) | exact absurd hh.2.1 (by assumption) | exact absurd hh.2.2 (by assumption)))), E27⟩
  · -- F
    refine rk_ct (T rfl (congrArg Value.bool (decide_eq_true hb13))) ?_
    refine rk_seq ?_
    refine rk_reg ?_
    refine lw_v (.bool false) (dv_assign C) ?_
    refine lw_nil ?_
    refine rk_ret Try.func82 (v := .bool false) (res1 Try.results82 (rv_tmp rfl rfl)) ⟨_, rfl, ?_⟩
    exact ⟨(vf (by first | assumption | (intro hh; first | exact absurd hh (by assumption) | exact absurd hh.1 (by assumption) | exact absurd hh.2 (by assumption) | exact absurd hh.2.1 (by assumption) | exact absurd hh.2.2 (by assumption)))), E12⟩

set_option maxHeartbeats 1000000 in
theorem sPointCmp_ok {w : World} {x y u p q r : Int} (fx_ : fits x) (fy_ : fits y) (fu_ : fits u) (fp_ : fits p) (fq_ : fits q) (fr_ : fits r)  : Ct Try.prog 36 [.agg #[.int .u64 (wv3 x), .int .u64 (wv2 x), .int .u64 (wv1 x), .int .u64 (wv0 x), .int .u64 (wv3 y), .int .u64 (wv2 y), .int .u64 (wv1 y), .int .u64 (wv0 y), .int .u64 (wv3 u), .int .u64 (wv2 u), .int .u64 (wv1 u), .int .u64 (wv0 u)], .agg #[.int .u64 (wv3 p), .int .u64 (wv2 p), .int .u64 (wv1 p), .int .u64 (wv0 p), .int .u64 (wv3 q), .int .u64 (wv2 q), .int .u64 (wv1 q), .int .u64 (wv0 q), .int .u64 (wv3 r), .int .u64 (wv2 r), .int .u64 (wv1 r), .int .u64 (wv0 r)]] w fun v w1 => v = .int .i64 (pCmp x y u p q r) ∧ Ext w w1 := by
  refine ct_run (n := 18) Try.func36 rfl Try.ntmps36 rfl ?_
  have E0 : Below w.heap.size w w := Below.refl _ _
  refine rk_seq ?_
  refine rk_reg ?_
  refine lw_e (oe_box (v := .agg #[.int .u64 (wv3 x), .int .u64 (wv2 x), .int .u64 (wv1 x), .int .u64 (wv0 x), .int .u64 (wv3 y), .int .u64 (wv2 y), .int .u64 (wv1 y), .int .u64 (wv0 y), .int .u64 (wv3 u), .int .u64 (wv2 u), .int .u64 (wv1 u), .int .u64 (wv0 u)]) (cs := #[.int .u64 (wv3 x), .int .u64 (wv2 x), .int .u64 (wv1 x), .int .u64 (wv0 x), .int .u64 (wv3 y), .int .u64 (wv2 y), .int .u64 (wv1 y), .int .u64 (wv0 y), .int .u64 (wv3 u), .int .u64 (wv2 u), .int .u64 (wv1 u), .int .u64 (wv0 u)]) (T rfl rfl) rfl ?_)
  intro b1 w2 n3
  have N4 : w.heap.size ≤ b1 := n3.eq ▸ E0.size
  have E5 := below_ext E0 E0.size n3.ext
  refine lw_e (oe_box (v := .agg #[.int .u64 (wv3 p), .int .u64 (wv2 p), .int .u64 (wv1 p), .int .u64 (wv0 p), .int .u64 (wv3 q), .int .u64 (wv2 q), .int .u64 (wv1 q), .int .u64 (wv0 q), .int .u64 (wv3 r), .int .u64 (wv2 r), .int .u64 (wv1 r), .int .u64 (wv0 r)]) (cs := #[.int .u64 (wv3 p), .int .u64 (wv2 p), .int .u64 (wv1 p), .int .u64 (wv0 p), .int .u64 (wv3 q), .int .u64 (wv2 q), .int .u64 (wv1 q), .int .u64 (wv0 q), .int .u64 (wv3 r), .int .u64 (wv2 r), .int .u64 (wv1 r), .int .u64 (wv0 r)]) (T rfl rfl) rfl ?_)
  intro b6 w7 n8
  have N9 : w.heap.size ≤ b6 := n8.eq ▸ E5.size
  have : b1 < b6 := n8.eq ▸ lt_of_blk n3.blk
  have E10 := below_ext E5 E5.size n8.ext
  refine lw_v (.int .i64 0) (dv_assign C) ?_
  refine lw_nil ?_
  refine rk_seq ?_
  refine rk_seq ?_
  refine rk_reg ?_
  have H11 := (n8.ext.blk n3.blk)
  refine lw_v (.agg #[.int .u64 (wv3 x), .int .u64 (wv2 x), .int .u64 (wv1 x), .int .u64 (wv0 x), .int .u64 (wv3 y), .int .u64 (wv2 y), .int .u64 (wv1 y), .int .u64 (wv0 y), .int .u64 (wv3 u), .int .u64 (wv2 u), .int .u64 (wv1 u), .int .u64 (wv0 u)]) (dv_loads (l := [.int .u64 (wv3 x), .int .u64 (wv2 x), .int .u64 (wv1 x), .int .u64 (wv0 x), .int .u64 (wv3 y), .int .u64 (wv2 y), .int .u64 (wv1 y), .int .u64 (wv0 y), .int .u64 (wv3 u), .int .u64 (wv2 u), .int .u64 (wv1 u), .int .u64 (wv0 u)]) agt46 sz46 (T rfl rfl) H11 rfl) ?_
  refine lw_e (oe_callf (vs := [.agg #[.int .u64 (wv3 x), .int .u64 (wv2 x), .int .u64 (wv1 x), .int .u64 (wv0 x), .int .u64 (wv3 y), .int .u64 (wv2 y), .int .u64 (wv1 y), .int .u64 (wv0 y), .int .u64 (wv3 u), .int .u64 (wv2 u), .int .u64 (wv1 u), .int .u64 (wv0 u)]]) co30 (ar1 (T rfl rfl)) (sPointOk_ok (x := x) (y := y) (u := u) fx_ fy_ fu_ ) ?_)
  rintro _ w12 ⟨rfl, e13⟩
  have E14 := below_ext E10 E10.size e13
  refine lw_v (.bool (decide (¬ (pOk x y u)))) (dv_notd (p := pOk x y u) (T rfl rfl)) ?_
  refine lw_v (.bool (decide (¬ (pOk x y u)))) (dv_move (T rfl rfl)) ?_
  by_cases hb15 : pOk x y u
  · -- T
    have H16 := (e13.blk n8.blk)
    refine lw_vy (.agg #[.int .u64 (wv3 p), .int .u64 (wv2 p), .int .u64 (wv1 p), .int .u64 (wv0 p), .int .u64 (wv3 q), .int .u64 (wv2 q), .int .u64 (wv1 q), .int .u64 (wv0 q), .int .u64 (wv3 r), .int .u64 (wv2 r), .int .u64 (wv1 r), .int .u64 (wv0 r)]) (d := 8) rfl rfl (congrArg Value.bool (decide_eq_false (not_not_intro hb15))) (dv_loads (l := [.int .u64 (wv3 p), .int .u64 (wv2 p), .int .u64 (wv1 p), .int .u64 (wv0 p), .int .u64 (wv3 q), .int .u64 (wv2 q), .int .u64 (wv1 q), .int .u64 (wv0 q), .int .u64 (wv3 r), .int .u64 (wv2 r), .int .u64 (wv1 r), .int .u64 (wv0 r)]) agt46 sz46 (T rfl rfl) H16 rfl) ?_
    refine lw_ey (d := 8) rfl rfl (congrArg Value.bool (decide_eq_false (not_not_intro hb15))) (oe_callf (vs := [.agg #[.int .u64 (wv3 p), .int .u64 (wv2 p), .int .u64 (wv1 p), .int .u64 (wv0 p), .int .u64 (wv3 q), .int .u64 (wv2 q), .int .u64 (wv1 q), .int .u64 (wv0 q), .int .u64 (wv3 r), .int .u64 (wv2 r), .int .u64 (wv1 r), .int .u64 (wv0 r)]]) co30 (ar1 (T rfl rfl)) (sPointOk_ok (x := p) (y := q) (u := r) fp_ fq_ fr_ ) ?_)
    rintro _ w17 ⟨rfl, e18⟩
    have E19 := below_ext E14 E14.size e18
    refine lw_vy (.bool (decide (¬ (pOk p q r)))) (d := 8) rfl rfl (congrArg Value.bool (decide_eq_false (not_not_intro hb15))) (dv_notd (p := pOk p q r) (T rfl rfl)) ?_
    refine lw_v (.bool (decide (¬ (pOk p q r)))) (dv_pick_f (T rfl (congrArg Value.bool (decide_eq_false (not_not_intro hb15)))) (T rfl rfl)) ?_
    refine lw_nil ?_
    by_cases hb20 : pOk p q r
    · -- TT
      refine rk_cf (T rfl (congrArg Value.bool (decide_eq_false (not_not_intro hb20)))) ?_
      refine rk_skip ?_
      refine rk_seq ?_
      refine rk_any (fun w => w.heap[b1]? = some (.cells #[.int .u64 (wv3 x), .int .u64 (wv2 x), .int .u64 (wv1 x), .int .u64 (wv0 x), .int .u64 (wv3 y), .int .u64 (wv2 y), .int .u64 (wv1 y), .int .u64 (wv0 y), .int .u64 (wv3 u), .int .u64 (wv2 u), .int .u64 (wv1 u), .int .u64 (wv0 u)] 46) ∧ w.heap[b6]? = some (.cells #[.int .u64 (wv3 p), .int .u64 (wv2 p), .int .u64 (wv1 p), .int .u64 (wv0 p), .int .u64 (wv3 q), .int .u64 (wv2 q), .int .u64 (wv1 q), .int .u64 (wv0 q), .int .u64 (wv3 r), .int .u64 (wv2 r), .int .u64 (wv1 r), .int .u64 (wv0 r)] 46)) [5] mo ?_
      intro w21 d22
      have E23 := below_ext E19 E19.size d22.ext
      have H24 := (d22.ext.blk (e18.blk (e13.blk H11)))
      have H25 := (d22.ext.blk (e18.blk H16))
      refine aw_load 0 (.agg #[.int .u64 (wv3 x), .int .u64 (wv2 x), .int .u64 (wv1 x), .int .u64 (wv0 x), .int .u64 (wv3 y), .int .u64 (wv2 y), .int .u64 (wv1 y), .int .u64 (wv0 y), .int .u64 (wv3 u), .int .u64 (wv2 u), .int .u64 (wv1 u), .int .u64 (wv0 u)]) rfl (by kernel_rfl) .none ⟨H24, H25⟩ (fun _ s => dv_loads (l := [.int .u64 (wv3 x), .int .u64 (wv2 x), .int .u64 (wv1 x), .int .u64 (wv0 x), .int .u64 (wv3 y), .int .u64 (wv2 y), .int .u64 (wv1 y), .int .u64 (wv0 y), .int .u64 (wv3 u), .int .u64 (wv2 u), .int .u64 (wv1 u), .int .u64 (wv0 u)]) agt46 sz46 (T rfl rfl) s.1 rfl) ?_
      refine aw_load 2 (.agg #[.int .u64 (wv3 p), .int .u64 (wv2 p), .int .u64 (wv1 p), .int .u64 (wv0 p), .int .u64 (wv3 q), .int .u64 (wv2 q), .int .u64 (wv1 q), .int .u64 (wv0 q), .int .u64 (wv3 r), .int .u64 (wv2 r), .int .u64 (wv1 r), .int .u64 (wv0 r)]) rfl (by kernel_rfl) .none ⟨H24, H25⟩ (fun _ s => dv_loads (l := [.int .u64 (wv3 p), .int .u64 (wv2 p), .int .u64 (wv1 p), .int .u64 (wv0 p), .int .u64 (wv3 q), .int .u64 (wv2 q), .int .u64 (wv1 q), .int .u64 (wv0 q), .int .u64 (wv3 r), .int .u64 (wv2 r), .int .u64 (wv1 r), .int .u64 (wv0 r)]) agt46 sz46 (T rfl rfl) s.2 rfl) ?_
      refine aw_one 1 rfl (by kernel_rfl) .none (oe_callf (vs := [.agg #[.int .u64 (wv3 x), .int .u64 (wv2 x), .int .u64 (wv1 x), .int .u64 (wv0 x), .int .u64 (wv3 y), .int .u64 (wv2 y), .int .u64 (wv1 y), .int .u64 (wv0 y), .int .u64 (wv3 u), .int .u64 (wv2 u), .int .u64 (wv1 u), .int .u64 (wv0 u)]]) co68 (ar1 (T rfl rfl)) (l3Of_ok fx_ fy_ fu_  ) ?_)
      rintro _ w41 ⟨nr26, A27, n28, c29, nr30, A31, n32, c33, nr34, A35, n36, c37, rfl, e42, h38, h39, h40⟩
      have E43 := below_ext E23 E23.size e42
      have lh38 := Num.len (by decide) h38
      have lh39 := Num.len (by decide) h39
      have lh40 := Num.len (by decide) h40
      have H44 := (e42.blk H24)
      have H45 := (e42.blk H25)
      refine ⟨.inr ⟨H44, H45⟩, ?_⟩
      refine aw_one 3 rfl (by kernel_rfl) .none (oe_callf (vs := [.agg #[.int .u64 (wv3 p), .int .u64 (wv2 p), .int .u64 (wv1 p), .int .u64 (wv0 p), .int .u64 (wv3 q), .int .u64 (wv2 q), .int .u64 (wv1 q), .int .u64 (wv0 q), .int .u64 (wv3 r), .int .u64 (wv2 r), .int .u64 (wv1 r), .int .u64 (wv0 r)]]) co68 (ar1 (T rfl rfl)) (l3Of_ok fp_ fq_ fr_  ) ?_)
      rintro _ w61 ⟨nr46, A47, n48, c49, nr50, A51, n52, c53, nr54, A55, n56, c57, rfl, e62, h58, h59, h60⟩
      have E63 := below_ext E43 E43.size e62
      have lh58 := Num.len (by decide) h58
      have lh59 := Num.len (by decide) h59
      have lh60 := Num.len (by decide) h60
      have H64 := (e62.blk H44)
      have H65 := (e62.blk H45)
      refine ⟨.inr ⟨H64, H65⟩, ?_⟩
      have h66 := (h38.ext e62)
      have h67 := (h39.ext e62)
      have h68 := (h40.ext e62)
      refine aw_one 4 rfl (by kernel_rfl) .none (oe_callf (vs := [.agg #[.bool nr26, .slice A27 n28 c29, .bool nr30, .slice A31 n32 c33, .bool nr34, .slice A35 n36 c37], .agg #[.bool nr46, .slice A47 n48 c49, .bool nr50, .slice A51 n52 c53, .bool nr54, .slice A55 n56 c57]]) co81 (ar2 (T rfl rfl) (T rfl rfl)) (l3Cmp_ok h66 h67 h68 h58 h59 h60 (by first | decide | omega) (by first | decide | omega) (by first | decide | omega) (by first | decide | omega) (by first | decide | omega) (by first | decide | omega) ) ?_)
      rintro _ w69 ⟨rfl, e70⟩
      have E71 := below_ext E63 E63.size e70
      have H72 := (e70.blk H64)
      have H73 := (e70.blk H65)
      refine ⟨.inr ⟨H72, H73⟩, ?_⟩
      refine aw_last 5 (.int .i64 (pc x y u p q r)) rfl (by kernel_rfl) .none (fun _ => dv_assign (T rfl rfl)) ?_
      refine aw_done (by kernel_rfl) ?_
      refine rk_ret Try.func36 (v := .int .i64 (pc x y u p q r)) (res1 Try.results36 (rv_tmp rfl rfl)) ⟨_, rfl, ?_⟩
      exact ⟨(vi (by unfold pCmp; first | rw [if_pos (by first | assumption | exact ⟨(by first | assumption | simpa using ‹_›), (by first | assumption | simpa using ‹_›)⟩)] | rw [if_neg (by first | assumption | (intro hh; first | exact absurd hh (by assumption) | exact absurd hh.1 (by assumption) | exact absurd hh.2 (by assumption) | exact absurd hh.2.1 (by assumption) | exact absurd hh.2.2 (by assumption)))])), E71⟩
    · -- TF
      refine rk_ct (T rfl (congrArg Value.bool (decide_eq_true hb20))) ?_
      refine rk_seq ?_
      refine rk_reg ?_
      refine lw_v (.int .i64 0) (dv_assign C) ?_
      refine lw_nil ?_
      refine rk_ret Try.func36 (v := .int .i64 0) (res1 Try.results36 (rv_tmp rfl rfl)) ⟨_, rfl, ?_⟩
      exact ⟨(vi (by unfold pCmp; first | rw [if_pos (by first | assumption | exact ⟨(by first | assumption | simpa using ‹_›), (by first | assumption | simpa using ‹_›)⟩)] | rw [if_neg (by first | assumption | (intro hh; first | exact absurd hh (by assumption) | exact absurd hh.1 (by assumption) | exact absurd hh.2 (by assumption) | exact absurd hh.2.1 (by assumption) | exact absurd hh.2.2 (by assumption)))])), E19⟩
  · -- F
    refine lw_no (d := 8) rfl rfl (congrArg Value.bool (decide_eq_true hb15)) ?_
    refine lw_no (d := 8) rfl rfl (congrArg Value.bool (decide_eq_true hb15)) ?_
    refine lw_no (d := 8) rfl rfl (congrArg Value.bool (decide_eq_true hb15)) ?_
    refine lw_v (.bool true) (dv_pick_t (T rfl (congrArg Value.bool (decide_eq_true hb15))) C) ?_
    refine lw_nil ?_
    refine rk_ct (T rfl rfl) ?_
    refine rk_seq ?_
    refine rk_reg ?_
    refine lw_v (.int .i64 0) (dv_assign C) ?_
    refine lw_nil ?_
    refine rk_ret Try.func36 (v := .int .i64 0) (res1 Try.results36 (rv_tmp rfl rfl)) ⟨_, rfl, ?_⟩
    exact ⟨(vi (by unfold pCmp; first | rw [if_pos (by first | assumption | exact ⟨(by first | assumption | simpa using ‹_›), (by first | assumption | simpa using ‹_›)⟩)] | rw [if_neg (by first | assumption | (intro hh; first | exact absurd hh (by assumption) | exact absurd hh.1 (by assumption) | exact absurd hh.2 (by assumption) | exact absurd hh.2.1 (by assumption) | exact absurd hh.2.2 (by assumption)))])), E14⟩

set_option maxHeartbeats 1000000 in
theorem iPointCmp_ok {w : World} {x y u p q r : Int} (fx_ : fits x) (fy_ : fits y) (fu_ : fits u) (fp_ : fits p) (fq_ : fits q) (fr_ : fits r)  : Ct Try.prog 37 [.agg #[.int .u64 (wv3 x), .int .u64 (wv2 x), .int .u64 (wv1 x), .int .u64 (wv0 x), .int .u64 (wv3 y), .int .u64 (wv2 y), .int .u64 (wv1 y), .int .u64 (wv0 y), .int .u64 (wv3 u), .int .u64 (wv2 u), .int .u64 (wv1 u), .int .u64 (wv0 u)], .agg #[.int .u64 (wv3 p), .int .u64 (wv2 p), .int .u64 (wv1 p), .int .u64 (wv0 p), .int .u64 (wv3 q), .int .u64 (wv2 q), .int .u64 (wv1 q), .int .u64 (wv0 q), .int .u64 (wv3 r), .int .u64 (wv2 r), .int .u64 (wv1 r), .int .u64 (wv0 r)]] w fun v w1 => v = .int .i64 (pCmp x y u p q r) ∧ Ext w w1 := by
  refine ct_run (n := 13) Try.func37 rfl Try.ntmps37 rfl ?_
  have E0 : Below w.heap.size w w := Below.refl _ _
  refine rk_seq ?_
  refine rk_reg ?_
  refine lw_e (oe_box (v := .agg #[.int .u64 (wv3 x), .int .u64 (wv2 x), .int .u64 (wv1 x), .int .u64 (wv0 x), .int .u64 (wv3 y), .int .u64 (wv2 y), .int .u64 (wv1 y), .int .u64 (wv0 y), .int .u64 (wv3 u), .int .u64 (wv2 u), .int .u64 (wv1 u), .int .u64 (wv0 u)]) (cs := #[.int .u64 (wv3 x), .int .u64 (wv2 x), .int .u64 (wv1 x), .int .u64 (wv0 x), .int .u64 (wv3 y), .int .u64 (wv2 y), .int .u64 (wv1 y), .int .u64 (wv0 y), .int .u64 (wv3 u), .int .u64 (wv2 u), .int .u64 (wv1 u), .int .u64 (wv0 u)]) (T rfl rfl) rfl ?_)
  intro b1 w2 n3
  have N4 : w.heap.size ≤ b1 := n3.eq ▸ E0.size
  have E5 := below_ext E0 E0.size n3.ext
  refine lw_e (oe_box (v := .agg #[.int .u64 (wv3 p), .int .u64 (wv2 p), .int .u64 (wv1 p), .int .u64 (wv0 p), .int .u64 (wv3 q), .int .u64 (wv2 q), .int .u64 (wv1 q), .int .u64 (wv0 q), .int .u64 (wv3 r), .int .u64 (wv2 r), .int .u64 (wv1 r), .int .u64 (wv0 r)]) (cs := #[.int .u64 (wv3 p), .int .u64 (wv2 p), .int .u64 (wv1 p), .int .u64 (wv0 p), .int .u64 (wv3 q), .int .u64 (wv2 q), .int .u64 (wv1 q), .int .u64 (wv0 q), .int .u64 (wv3 r), .int .u64 (wv2 r), .int .u64 (wv1 r), .int .u64 (wv0 r)]) (T rfl rfl) rfl ?_)
  intro b6 w7 n8
  have N9 : w.heap.size ≤ b6 := n8.eq ▸ E5.size
  have : b1 < b6 := n8.eq ▸ lt_of_blk n3.blk
  have E10 := below_ext E5 E5.size n8.ext
  refine lw_v (.int .i64 0) (dv_assign C) ?_
  refine lw_nil ?_
  refine rk_seq ?_
  refine rk_seq ?_
  refine rk_reg ?_
  have H11 := (n8.ext.blk n3.blk)
  refine lw_v (.agg #[.int .u64 (wv3 x), .int .u64 (wv2 x), .int .u64 (wv1 x), .int .u64 (wv0 x), .int .u64 (wv3 y), .int .u64 (wv2 y), .int .u64 (wv1 y), .int .u64 (wv0 y), .int .u64 (wv3 u), .int .u64 (wv2 u), .int .u64 (wv1 u), .int .u64 (wv0 u)]) (dv_loads (l := [.int .u64 (wv3 x), .int .u64 (wv2 x), .int .u64 (wv1 x), .int .u64 (wv0 x), .int .u64 (wv3 y), .int .u64 (wv2 y), .int .u64 (wv1 y), .int .u64 (wv0 y), .int .u64 (wv3 u), .int .u64 (wv2 u), .int .u64 (wv1 u), .int .u64 (wv0 u)]) agt46 sz46 (T rfl rfl) H11 rfl) ?_
  refine lw_v (.agg #[.int .u64 (wv3 p), .int .u64 (wv2 p), .int .u64 (wv1 p), .int .u64 (wv0 p), .int .u64 (wv3 q), .int .u64 (wv2 q), .int .u64 (wv1 q), .int .u64 (wv0 q), .int .u64 (wv3 r), .int .u64 (wv2 r), .int .u64 (wv1 r), .int .u64 (wv0 r)]) (dv_loads (l := [.int .u64 (wv3 p), .int .u64 (wv2 p), .int .u64 (wv1 p), .int .u64 (wv0 p), .int .u64 (wv3 q), .int .u64 (wv2 q), .int .u64 (wv1 q), .int .u64 (wv0 q), .int .u64 (wv3 r), .int .u64 (wv2 r), .int .u64 (wv1 r), .int .u64 (wv0 r)]) agt46 sz46 (T rfl rfl) n8.blk rfl) ?_
  refine lw_e (oe_buildSlice (pv := [(0, .agg #[.int .u64 (wv3 x), .int .u64 (wv2 x), .int .u64 (wv1 x), .int .u64 (wv0 x), .int .u64 (wv3 y), .int .u64 (wv2 y), .int .u64 (wv1 y), .int .u64 (wv0 y), .int .u64 (wv3 u), .int .u64 (wv2 u), .int .u64 (wv1 u), .int .u64 (wv0 u)]), (1, .agg #[.int .u64 (wv3 p), .int .u64 (wv2 p), .int .u64 (wv1 p), .int .u64 (wv0 p), .int .u64 (wv3 q), .int .u64 (wv2 q), .int .u64 (wv1 q), .int .u64 (wv0 q), .int .u64 (wv3 r), .int .u64 (wv2 r), .int .u64 (wv1 r), .int .u64 (wv0 r)])]) (init := [.int .u64 0, .int .u64 0, .int .u64 0, .int .u64 0, .int .u64 0, .int .u64 0, .int .u64 0, .int .u64 0, .int .u64 0, .int .u64 0, .int .u64 0, .int .u64 0, .int .u64 0, .int .u64 0, .int .u64 0, .int .u64 0, .int .u64 0, .int .u64 0, .int .u64 0, .int .u64 0, .int .u64 0, .int .u64 0, .int .u64 0, .int .u64 0]) (l := [.int .u64 (wv3 x), .int .u64 (wv2 x), .int .u64 (wv1 x), .int .u64 (wv0 x), .int .u64 (wv3 y), .int .u64 (wv2 y), .int .u64 (wv1 y), .int .u64 (wv0 y), .int .u64 (wv3 u), .int .u64 (wv2 u), .int .u64 (wv1 u), .int .u64 (wv0 u), .int .u64 (wv3 p), .int .u64 (wv2 p), .int .u64 (wv1 p), .int .u64 (wv0 p), .int .u64 (wv3 q), .int .u64 (wv2 q), .int .u64 (wv1 q), .int .u64 (wv0 q), .int .u64 (wv3 r), .int .u64 (wv2 r), .int .u64 (wv1 r), .int .u64 (wv0 r)]) us141 sz46 rfl rfl zc46 (by kernel_rfl) ⟨rfl, (T rfl rfl), ⟨rfl, (T rfl rfl), trivial⟩⟩ rfl ?_)
  intro b12 w13 n14
  have N15 : w.heap.size ≤ b12 := n14.eq ▸ E10.size
  have : b6 < b12 := n14.eq ▸ lt_of_blk n8.blk
  have E16 := below_ext E10 E10.size n14.ext
  refine lw_e (oe_callf (vs := [.slice (some ⟨b12, 0, none⟩) 2 2]) co82 (ar1 (T rfl rfl)) (areP2_ok fx_ fy_ fu_ fp_ fq_ fr_ n14.blk) ?_)
  rintro _ w17 ⟨rfl, e18⟩
  have E19 := below_ext E16 E16.size e18
  refine lw_v (.bool (decide (¬ (pOk x y u ∧ pOk p q r)))) (dv_notd (p := pOk x y u ∧ pOk p q r) (T rfl rfl)) ?_
  refine lw_nil ?_
  by_cases hb20 : pOk x y u ∧ pOk p q r
  · -- T
    refine rk_cf (T rfl (congrArg Value.bool (decide_eq_false (not_not_intro hb20)))) ?_
    refine rk_skip ?_
    refine rk_seq ?_
    refine rk_reg ?_
    have H21 := (e18.blk (n14.ext.blk H11))
    refine lw_v (.agg #[.int .u64 (wv3 x), .int .u64 (wv2 x), .int .u64 (wv1 x), .int .u64 (wv0 x), .int .u64 (wv3 y), .int .u64 (wv2 y), .int .u64 (wv1 y), .int .u64 (wv0 y), .int .u64 (wv3 u), .int .u64 (wv2 u), .int .u64 (wv1 u), .int .u64 (wv0 u)]) (dv_loads (l := [.int .u64 (wv3 x), .int .u64 (wv2 x), .int .u64 (wv1 x), .int .u64 (wv0 x), .int .u64 (wv3 y), .int .u64 (wv2 y), .int .u64 (wv1 y), .int .u64 (wv0 y), .int .u64 (wv3 u), .int .u64 (wv2 u), .int .u64 (wv1 u), .int .u64 (wv0 u)]) agt46 sz46 (T rfl rfl) H21 rfl) ?_
    have H22 := (e18.blk (n14.ext.blk n8.blk))
    refine lw_v (.agg #[.int .u64 (wv3 p), .int .u64 (wv2 p), .int .u64 (wv1 p), .int .u64 (wv0 p), .int .u64 (wv3 q), .int .u64 (wv2 q), .int .u64 (wv1 q), .int .u64 (wv0 q), .int .u64 (wv3 r), .int .u64 (wv2 r), .int .u64 (wv1 r), .int .u64 (wv0 r)]) (dv_loads (l := [.int .u64 (wv3 p), .int .u64 (wv2 p), .int .u64 (wv1 p), .int .u64 (wv0 p), .int .u64 (wv3 q), .int .u64 (wv2 q), .int .u64 (wv1 q), .int .u64 (wv0 q), .int .u64 (wv3 r), .int .u64 (wv2 r), .int .u64 (wv1 r), .int .u64 (wv0 r)]) agt46 sz46 (T rfl rfl) H22 rfl) ?_
    refine lw_e (oe_callf (vs := [.agg #[.int .u64 (wv3 x), .int .u64 (wv2 x), .int .u64 (wv1 x), .int .u64 (wv0 x), .int .u64 (wv3 y), .int .u64 (wv2 y), .int .u64 (wv1 y), .int .u64 (wv0 y), .int .u64 (wv3 u), .int .u64 (wv2 u), .int .u64 (wv1 u), .int .u64 (wv0 u)], .agg #[.int .u64 (wv3 p), .int .u64 (wv2 p), .int .u64 (wv1 p), .int .u64 (wv0 p), .int .u64 (wv3 q), .int .u64 (wv2 q), .int .u64 (wv1 q), .int .u64 (wv0 q), .int .u64 (wv3 r), .int .u64 (wv2 r), .int .u64 (wv1 r), .int .u64 (wv0 r)]]) co83 (ar2 (T rfl rfl) (T rfl rfl)) (cmpPoints_ok (x := x) (y := y) (u := u) (p := p) (q := q) (r := r) fx_ fy_ fu_ fp_ fq_ fr_ ) ?_)
    rintro _ w23 ⟨rfl, e24⟩
    have E25 := below_ext E19 E19.size e24
    refine lw_v (.int .i64 (pc x y u p q r)) (dv_assign (T rfl rfl)) ?_
    refine lw_nil ?_
    refine rk_ret Try.func37 (v := .int .i64 (pc x y u p q r)) (res1 Try.results37 (rv_tmp rfl rfl)) ⟨_, rfl, ?_⟩
    exact ⟨(vi (by unfold pCmp; first | rw [if_pos (by first | assumption | exact ⟨(by first | assumption | simpa using ‹_›), (by first | assumption | simpa using ‹_›)⟩)] | rw [if_neg (by first | assumption | (intro hh; first | exact absurd hh (by assumption) | exact absurd hh.1 (by assumption) | exact absurd hh.2 (by assumption) | exact absurd hh.2.1 (by assumption) | exact absurd hh.2.2 (by assumption)))])), E25⟩
  · -- F
    refine rk_ct (T rfl (congrArg Value.bool (decide_eq_true hb20))) ?_
    refine rk_seq ?_
    refine rk_reg ?_
    refine lw_v (.int .i64 0) (dv_assign C) ?_
    refine lw_nil ?_
    refine rk_ret Try.func37 (v := .int .i64 0) (res1 Try.results37 (rv_tmp rfl rfl)) ⟨_, rfl, ?_⟩
    exact ⟨(vi (by unfold pCmp; first | rw [if_pos (by first | assumption | exact ⟨(by first | assumption | simpa using ‹_›), (by first | assumption | simpa using ‹_›)⟩)] | rw [if_neg (by first | assumption | (intro hh; first | exact absurd hh (by assumption) | exact absurd hh.1 (by assumption) | exact absurd hh.2 (by assumption) | exact absurd hh.2.1 (by assumption) | exact absurd hh.2.2 (by assumption)))])), E19⟩

set_option maxHeartbeats 1000000 in
theorem lawPointCmp_ok {w : World} {x y u p q r : Int} (fx_ : fits x) (fy_ : fits y) (fu_ : fits u) (fp_ : fits p) (fq_ : fits q) (fr_ : fits r)  : Ct Try.prog 11 [.agg #[.int .u64 (wv3 x), .int .u64 (wv2 x), .int .u64 (wv1 x), .int .u64 (wv0 x), .int .u64 (wv3 y), .int .u64 (wv2 y), .int .u64 (wv1 y), .int .u64 (wv0 y), .int .u64 (wv3 u), .int .u64 (wv2 u), .int .u64 (wv1 u), .int .u64 (wv0 u)], .agg #[.int .u64 (wv3 p), .int .u64 (wv2 p), .int .u64 (wv1 p), .int .u64 (wv0 p), .int .u64 (wv3 q), .int .u64 (wv2 q), .int .u64 (wv1 q), .int .u64 (wv0 q), .int .u64 (wv3 r), .int .u64 (wv2 r), .int .u64 (wv1 r), .int .u64 (wv0 r)]] w fun v w1 => v = .bool true ∧ Ext w w1 := by
  refine ct_run (n := 20) Try.func11 rfl Try.ntmps11 rfl ?_
  have E0 : Below w.heap.size w w := Below.refl _ _
  refine rk_seq ?_
  refine rk_reg ?_
  refine lw_e (oe_box (v := .agg #[.int .u64 (wv3 x), .int .u64 (wv2 x), .int .u64 (wv1 x), .int .u64 (wv0 x), .int .u64 (wv3 y), .int .u64 (wv2 y), .int .u64 (wv1 y), .int .u64 (wv0 y), .int .u64 (wv3 u), .int .u64 (wv2 u), .int .u64 (wv1 u), .int .u64 (wv0 u)]) (cs := #[.int .u64 (wv3 x), .int .u64 (wv2 x), .int .u64 (wv1 x), .int .u64 (wv0 x), .int .u64 (wv3 y), .int .u64 (wv2 y), .int .u64 (wv1 y), .int .u64 (wv0 y), .int .u64 (wv3 u), .int .u64 (wv2 u), .int .u64 (wv1 u), .int .u64 (wv0 u)]) (T rfl rfl) rfl ?_)
  intro b1 w2 n3
  have N4 : w.heap.size ≤ b1 := n3.eq ▸ E0.size
  have E5 := below_ext E0 E0.size n3.ext
  refine lw_e (oe_box (v := .agg #[.int .u64 (wv3 p), .int .u64 (wv2 p), .int .u64 (wv1 p), .int .u64 (wv0 p), .int .u64 (wv3 q), .int .u64 (wv2 q), .int .u64 (wv1 q), .int .u64 (wv0 q), .int .u64 (wv3 r), .int .u64 (wv2 r), .int .u64 (wv1 r), .int .u64 (wv0 r)]) (cs := #[.int .u64 (wv3 p), .int .u64 (wv2 p), .int .u64 (wv1 p), .int .u64 (wv0 p), .int .u64 (wv3 q), .int .u64 (wv2 q), .int .u64 (wv1 q), .int .u64 (wv0 q), .int .u64 (wv3 r), .int .u64 (wv2 r), .int .u64 (wv1 r), .int .u64 (wv0 r)]) (T rfl rfl) rfl ?_)
  intro b6 w7 n8
  have N9 : w.heap.size ≤ b6 := n8.eq ▸ E5.size
  have : b1 < b6 := n8.eq ▸ lt_of_blk n3.blk
  have E10 := below_ext E5 E5.size n8.ext
  refine lw_v (.bool false) (dv_assign C) ?_
  refine lw_nil ?_
  refine rk_seq ?_
  refine rk_any (fun w => w.heap[b1]? = some (.cells #[.int .u64 (wv3 x), .int .u64 (wv2 x), .int .u64 (wv1 x), .int .u64 (wv0 x), .int .u64 (wv3 y), .int .u64 (wv2 y), .int .u64 (wv1 y), .int .u64 (wv0 y), .int .u64 (wv3 u), .int .u64 (wv2 u), .int .u64 (wv1 u), .int .u64 (wv0 u)] 43) ∧ w.heap[b6]? = some (.cells #[.int .u64 (wv3 p), .int .u64 (wv2 p), .int .u64 (wv1 p), .int .u64 (wv0 p), .int .u64 (wv3 q), .int .u64 (wv2 q), .int .u64 (wv1 q), .int .u64 (wv0 q), .int .u64 (wv3 r), .int .u64 (wv2 r), .int .u64 (wv1 r), .int .u64 (wv0 r)] 43)) [5] mo ?_
  intro w11 d12
  have E13 := below_ext E10 E10.size d12.ext
  have H14 := (d12.ext.blk (n8.ext.blk n3.blk))
  have H15 := (d12.ext.blk n8.blk)
  refine aw_load 0 (.agg #[.int .u64 (wv3 x), .int .u64 (wv2 x), .int .u64 (wv1 x), .int .u64 (wv0 x), .int .u64 (wv3 y), .int .u64 (wv2 y), .int .u64 (wv1 y), .int .u64 (wv0 y), .int .u64 (wv3 u), .int .u64 (wv2 u), .int .u64 (wv1 u), .int .u64 (wv0 u)]) rfl (by kernel_rfl) .none ⟨H14, H15⟩ (fun _ s => dv_loads (l := [.int .u64 (wv3 x), .int .u64 (wv2 x), .int .u64 (wv1 x), .int .u64 (wv0 x), .int .u64 (wv3 y), .int .u64 (wv2 y), .int .u64 (wv1 y), .int .u64 (wv0 y), .int .u64 (wv3 u), .int .u64 (wv2 u), .int .u64 (wv1 u), .int .u64 (wv0 u)]) agt43 sz43 (T rfl rfl) s.1 rfl) ?_
  refine aw_load 2 (.agg #[.int .u64 (wv3 p), .int .u64 (wv2 p), .int .u64 (wv1 p), .int .u64 (wv0 p), .int .u64 (wv3 q), .int .u64 (wv2 q), .int .u64 (wv1 q), .int .u64 (wv0 q), .int .u64 (wv3 r), .int .u64 (wv2 r), .int .u64 (wv1 r), .int .u64 (wv0 r)]) rfl (by kernel_rfl) .none ⟨H14, H15⟩ (fun _ s => dv_loads (l := [.int .u64 (wv3 p), .int .u64 (wv2 p), .int .u64 (wv1 p), .int .u64 (wv0 p), .int .u64 (wv3 q), .int .u64 (wv2 q), .int .u64 (wv1 q), .int .u64 (wv0 q), .int .u64 (wv3 r), .int .u64 (wv2 r), .int .u64 (wv1 r), .int .u64 (wv0 r)]) agt43 sz43 (T rfl rfl) s.2 rfl) ?_
  refine aw_one 1 rfl (by kernel_rfl) .none (oe_callf (vs := [.agg #[.int .u64 (wv3 x), .int .u64 (wv2 x), .int .u64 (wv1 x), .int .u64 (wv0 x), .int .u64 (wv3 y), .int .u64 (wv2 y), .int .u64 (wv1 y), .int .u64 (wv0 y), .int .u64 (wv3 u), .int .u64 (wv2 u), .int .u64 (wv1 u), .int .u64 (wv0 u)]]) co31 (ar1 (T rfl rfl)) (toPoint_ok (x := x) (y := y) (u := u)  ) ?_)
  rintro _ w16 ⟨rfl, e17⟩
  have E18 := below_ext E13 E13.size e17
  have H19 := (e17.blk H14)
  have H20 := (e17.blk H15)
  refine ⟨.inr ⟨H19, H20⟩, ?_⟩
  refine aw_one 3 rfl (by kernel_rfl) .none (oe_callf (vs := [.agg #[.int .u64 (wv3 p), .int .u64 (wv2 p), .int .u64 (wv1 p), .int .u64 (wv0 p), .int .u64 (wv3 q), .int .u64 (wv2 q), .int .u64 (wv1 q), .int .u64 (wv0 q), .int .u64 (wv3 r), .int .u64 (wv2 r), .int .u64 (wv1 r), .int .u64 (wv0 r)]]) co31 (ar1 (T rfl rfl)) (toPoint_ok (x := p) (y := q) (u := r)  ) ?_)
  rintro _ w21 ⟨rfl, e22⟩
  have E23 := below_ext E18 E18.size e22
  have H24 := (e22.blk H19)
  have H25 := (e22.blk H20)
  refine ⟨.inr ⟨H24, H25⟩, ?_⟩
  refine aw_one 4 rfl (by kernel_rfl) .none (oe_callf (vs := [.agg #[.int .u64 (wv3 x), .int .u64 (wv2 x), .int .u64 (wv1 x), .int .u64 (wv0 x), .int .u64 (wv3 y), .int .u64 (wv2 y), .int .u64 (wv1 y), .int .u64 (wv0 y), .int .u64 (wv3 u), .int .u64 (wv2 u), .int .u64 (wv1 u), .int .u64 (wv0 u)], .agg #[.int .u64 (wv3 p), .int .u64 (wv2 p), .int .u64 (wv1 p), .int .u64 (wv0 p), .int .u64 (wv3 q), .int .u64 (wv2 q), .int .u64 (wv1 q), .int .u64 (wv0 q), .int .u64 (wv3 r), .int .u64 (wv2 r), .int .u64 (wv1 r), .int .u64 (wv0 r)]]) co36 (ar2 (T rfl rfl) (T rfl rfl)) (sPointCmp_ok (x := x) (y := y) (u := u) (p := p) (q := q) (r := r) fx_ fy_ fu_ fp_ fq_ fr_ ) ?_)
  rintro _ w26 ⟨rfl, e27⟩
  have E28 := below_ext E23 E23.size e27
  have H29 := (e27.blk H24)
  have H30 := (e27.blk H25)
  refine ⟨.inr ⟨H29, H30⟩, ?_⟩
  refine aw_last 5 (.int .i64 (pCmp x y u p q r)) rfl (by kernel_rfl) .none (fun _ => dv_assign (T rfl rfl)) ?_
  refine aw_done (by kernel_rfl) ?_
  refine rk_seq ?_
  refine rk_any (fun w => w.heap[b1]? = some (.cells #[.int .u64 (wv3 x), .int .u64 (wv2 x), .int .u64 (wv1 x), .int .u64 (wv0 x), .int .u64 (wv3 y), .int .u64 (wv2 y), .int .u64 (wv1 y), .int .u64 (wv0 y), .int .u64 (wv3 u), .int .u64 (wv2 u), .int .u64 (wv1 u), .int .u64 (wv0 u)] 43) ∧ w.heap[b6]? = some (.cells #[.int .u64 (wv3 p), .int .u64 (wv2 p), .int .u64 (wv1 p), .int .u64 (wv0 p), .int .u64 (wv3 q), .int .u64 (wv2 q), .int .u64 (wv1 q), .int .u64 (wv0 q), .int .u64 (wv3 r), .int .u64 (wv2 r), .int .u64 (wv1 r), .int .u64 (wv0 r)] 43)) [5] mo ?_
  intro w31 d32
  have E33 := below_ext E28 E28.size d32.ext
  have H34 := (d32.ext.blk H29)
  have H35 := (d32.ext.blk H30)
  refine aw_load 0 (.agg #[.int .u64 (wv3 x), .int .u64 (wv2 x), .int .u64 (wv1 x), .int .u64 (wv0 x), .int .u64 (wv3 y), .int .u64 (wv2 y), .int .u64 (wv1 y), .int .u64 (wv0 y), .int .u64 (wv3 u), .int .u64 (wv2 u), .int .u64 (wv1 u), .int .u64 (wv0 u)]) rfl (by kernel_rfl) .none ⟨H34, H35⟩ (fun _ s => dv_loads (l := [.int .u64 (wv3 x), .int .u64 (wv2 x), .int .u64 (wv1 x), .int .u64 (wv0 x), .int .u64 (wv3 y), .int .u64 (wv2 y), .int .u64 (wv1 y), .int .u64 (wv0 y), .int .u64 (wv3 u), .int .u64 (wv2 u), .int .u64 (wv1 u), .int .u64 (wv0 u)]) agt43 sz43 (T rfl rfl) s.1 rfl) ?_
  refine aw_load 2 (.agg #[.int .u64 (wv3 p), .int .u64 (wv2 p), .int .u64 (wv1 p), .int .u64 (wv0 p), .int .u64 (wv3 q), .int .u64 (wv2 q), .int .u64 (wv1 q), .int .u64 (wv0 q), .int .u64 (wv3 r), .int .u64 (wv2 r), .int .u64 (wv1 r), .int .u64 (wv0 r)]) rfl (by kernel_rfl) .none ⟨H34, H35⟩ (fun _ s => dv_loads (l := [.int .u64 (wv3 p), .int .u64 (wv2 p), .int .u64 (wv1 p), .int .u64 (wv0 p), .int .u64 (wv3 q), .int .u64 (wv2 q), .int .u64 (wv1 q), .int .u64 (wv0 q), .int .u64 (wv3 r), .int .u64 (wv2 r), .int .u64 (wv1 r), .int .u64 (wv0 r)]) agt43 sz43 (T rfl rfl) s.2 rfl) ?_
  refine aw_one 1 rfl (by kernel_rfl) .none (oe_callf (vs := [.agg #[.int .u64 (wv3 x), .int .u64 (wv2 x), .int .u64 (wv1 x), .int .u64 (wv0 x), .int .u64 (wv3 y), .int .u64 (wv2 y), .int .u64 (wv1 y), .int .u64 (wv0 y), .int .u64 (wv3 u), .int .u64 (wv2 u), .int .u64 (wv1 u), .int .u64 (wv0 u)]]) co31 (ar1 (T rfl rfl)) (toPoint_ok (x := x) (y := y) (u := u)  ) ?_)
  rintro _ w36 ⟨rfl, e37⟩
  have E38 := below_ext E33 E33.size e37
  have H39 := (e37.blk H34)
  have H40 := (e37.blk H35)
  refine ⟨.inr ⟨H39, H40⟩, ?_⟩
  refine aw_one 3 rfl (by kernel_rfl) .none (oe_callf (vs := [.agg #[.int .u64 (wv3 p), .int .u64 (wv2 p), .int .u64 (wv1 p), .int .u64 (wv0 p), .int .u64 (wv3 q), .int .u64 (wv2 q), .int .u64 (wv1 q), .int .u64 (wv0 q), .int .u64 (wv3 r), .int .u64 (wv2 r), .int .u64 (wv1 r), .int .u64 (wv0 r)]]) co31 (ar1 (T rfl rfl)) (toPoint_ok (x := p) (y := q) (u := r)  ) ?_)
  rintro _ w41 ⟨rfl, e42⟩
  have E43 := below_ext E38 E38.size e42
  have H44 := (e42.blk H39)
  have H45 := (e42.blk H40)
  refine ⟨.inr ⟨H44, H45⟩, ?_⟩
  refine aw_one 4 rfl (by kernel_rfl) .none (oe_callf (vs := [.agg #[.int .u64 (wv3 x), .int .u64 (wv2 x), .int .u64 (wv1 x), .int .u64 (wv0 x), .int .u64 (wv3 y), .int .u64 (wv2 y), .int .u64 (wv1 y), .int .u64 (wv0 y), .int .u64 (wv3 u), .int .u64 (wv2 u), .int .u64 (wv1 u), .int .u64 (wv0 u)], .agg #[.int .u64 (wv3 p), .int .u64 (wv2 p), .int .u64 (wv1 p), .int .u64 (wv0 p), .int .u64 (wv3 q), .int .u64 (wv2 q), .int .u64 (wv1 q), .int .u64 (wv0 q), .int .u64 (wv3 r), .int .u64 (wv2 r), .int .u64 (wv1 r), .int .u64 (wv0 r)]]) co37 (ar2 (T rfl rfl) (T rfl rfl)) (iPointCmp_ok (x := x) (y := y) (u := u) (p := p) (q := q) (r := r) fx_ fy_ fu_ fp_ fq_ fr_ ) ?_)
  rintro _ w46 ⟨rfl, e47⟩
  have E48 := below_ext E43 E43.size e47
  have H49 := (e47.blk H44)
  have H50 := (e47.blk H45)
  refine ⟨.inr ⟨H49, H50⟩, ?_⟩
  refine aw_last 5 (.int .i64 (pCmp x y u p q r)) rfl (by kernel_rfl) .none (fun _ => dv_assign (T rfl rfl)) ?_
  refine aw_done (by kernel_rfl) ?_
  refine rk_seq ?_
  refine rk_seq ?_
  refine rk_reg ?_
  refine lw_v (.int .i64 (pCmp x y u p q r)) (dv_move (T rfl rfl)) ?_
  refine lw_v (.int .i64 (pCmp x y u p q r)) (dv_move (T rfl rfl)) ?_
  refine lw_v (.bool (decide ((pCmp x y u p q r) ≠ (pCmp x y u p q r)))) (dv_neq (a := pCmp x y u p q r) (b := pCmp x y u p q r) (T rfl rfl) (T rfl rfl)) ?_
  refine lw_nil ?_
  by_cases hb51 : (pCmp x y u p q r) ≠ (pCmp x y u p q r)
  · -- T
    refine rk_ct (T rfl (congrArg Value.bool (decide_eq_true hb51))) ?_
    refine rk_seq ?_
    refine rk_reg ?_
    refine lw_v (.bool false) (dv_assign C) ?_
    refine lw_nil ?_
    refine rk_ret Try.func11 (v := .bool false) (res1 Try.results11 (rv_tmp rfl rfl)) ⟨_, rfl, ?_⟩
    exact ⟨(by exfalso; grind), E48⟩
  · -- F
    refine rk_cf (T rfl (congrArg Value.bool (decide_eq_false hb51))) ?_
    refine rk_skip ?_
    refine rk_seq ?_
    refine rk_reg ?_
    refine lw_v (.bool true) (dv_assign C) ?_
    refine lw_nil ?_
    refine rk_ret Try.func11 (v := .bool true) (res1 Try.results11 (rv_tmp rfl rfl)) ⟨_, rfl, ?_⟩
    exact ⟨rfl, E48⟩

theorem lawPointCmp_w {w : World} {x3 x2 x1 x0 y3 y2 y1 y0 u3 u2 u1 u0 p3 p2 p1 p0 q3 q2 q1 q0 r3 r2 r1 r0 : Int} (hx3 : 0 ≤ x3 ∧ x3 < 18446744073709551616) (hx2 : 0 ≤ x2 ∧ x2 < 18446744073709551616) (hx1 : 0 ≤ x1 ∧ x1 < 18446744073709551616) (hx0 : 0 ≤ x0 ∧ x0 < 18446744073709551616) (hy3 : 0 ≤ y3 ∧ y3 < 18446744073709551616) (hy2 : 0 ≤ y2 ∧ y2 < 18446744073709551616) (hy1 : 0 ≤ y1 ∧ y1 < 18446744073709551616) (hy0 : 0 ≤ y0 ∧ y0 < 18446744073709551616) (hu3 : 0 ≤ u3 ∧ u3 < 18446744073709551616) (hu2 : 0 ≤ u2 ∧ u2 < 18446744073709551616) (hu1 : 0 ≤ u1 ∧ u1 < 18446744073709551616) (hu0 : 0 ≤ u0 ∧ u0 < 18446744073709551616) (hp3 : 0 ≤ p3 ∧ p3 < 18446744073709551616) (hp2 : 0 ≤ p2 ∧ p2 < 18446744073709551616) (hp1 : 0 ≤ p1 ∧ p1 < 18446744073709551616) (hp0 : 0 ≤ p0 ∧ p0 < 18446744073709551616) (hq3 : 0 ≤ q3 ∧ q3 < 18446744073709551616) (hq2 : 0 ≤ q2 ∧ q2 < 18446744073709551616) (hq1 : 0 ≤ q1 ∧ q1 < 18446744073709551616) (hq0 : 0 ≤ q0 ∧ q0 < 18446744073709551616) (hr3 : 0 ≤ r3 ∧ r3 < 18446744073709551616) (hr2 : 0 ≤ r2 ∧ r2 < 18446744073709551616) (hr1 : 0 ≤ r1 ∧ r1 < 18446744073709551616) (hr0 : 0 ≤ r0 ∧ r0 < 18446744073709551616) : Ct Try.prog 11 [.agg #[.int .u64 x3, .int .u64 x2, .int .u64 x1, .int .u64 x0, .int .u64 y3, .int .u64 y2, .int .u64 y1, .int .u64 y0, .int .u64 u3, .int .u64 u2, .int .u64 u1, .int .u64 u0], .agg #[.int .u64 p3, .int .u64 p2, .int .u64 p1, .int .u64 p0, .int .u64 q3, .int .u64 q2, .int .u64 q1, .int .u64 q0, .int .u64 r3, .int .u64 r2, .int .u64 r1, .int .u64 r0]] w fun v w1 => v = .bool true ∧ Ext w w1 := by
  obtain ⟨x, fx, rfl, rfl, rfl, rfl⟩ := words_z hx3 hx2 hx1 hx0
  obtain ⟨y, fy, rfl, rfl, rfl, rfl⟩ := words_z hy3 hy2 hy1 hy0
  obtain ⟨u, fu, rfl, rfl, rfl, rfl⟩ := words_z hu3 hu2 hu1 hu0
  obtain ⟨p, fp, rfl, rfl, rfl, rfl⟩ := words_z hp3 hp2 hp1 hp0
  obtain ⟨q, fq, rfl, rfl, rfl, rfl⟩ := words_z hq3 hq2 hq1 hq0
  obtain ⟨r, fr, rfl, rfl, rfl, rfl⟩ := words_z hr3 hr2 hr1 hr0
  exact lawPointCmp_ok fx fy fu fp fq fr
end Go.Proofs.Ytpnjkjahfklfnaa.W
