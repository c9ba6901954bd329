/- WkLMul: walks, written by a program of this session. -/
import Derived.Test.YtjahakhbdjadaaaWk12
set_option linter.unusedVariables false
set_option linter.unusedSimpArgs false
namespace Go.Proofs.Ytjahakhbdjadaaa.W
open Go Go.RowKit Go.Proofs.Ytjahakhbdjadaaa.Fw
attribute [local irreducible] RunK LW AW DV OE Ct
theorem co35 : callOk Try.prog 35 = true := by kernel_rfl
theorem co36 : callOk Try.prog 36 = true := by kernel_rfl
set_option maxHeartbeats 1000000 in
theorem lawWideMul_ok {w : World} {a3 a2 a1 a0 y3 y2 y1 y0 : Int} (h3 : 0 ≤ a3 ∧ a3 < 18446744073709551616) (h2 : 0 ≤ a2 ∧ a2 < 18446744073709551616) (h1 : 0 ≤ a1 ∧ a1 < 18446744073709551616) (h0 : 0 ≤ a0 ∧ a0 < 18446744073709551616) (k3 : 0 ≤ y3 ∧ y3 < 18446744073709551616) (k2 : 0 ≤ y2 ∧ y2 < 18446744073709551616) (k1 : 0 ≤ y1 ∧ y1 < 18446744073709551616) (k0 : 0 ≤ y0 ∧ y0 < 18446744073709551616) : Ct Try.prog 11 [.agg #[.int .u64 a3, .int .u64 a2, .int .u64 a1, .int .u64 a0], .agg #[.int .u64 y3, .int .u64 y2, .int .u64 y1, .int .u64 y0]] w fun v w1 => v = .bool true ∧ Ext w w1 := by
  refine ct_run (n := 34) Try.func11 rfl Try.ntmps11 rfl ?_
  have E0 : Below w.heap.size w w := Below.refl _ _
  refine rk_seq ?_
  refine rk_reg ?_
  refine lw_e (oe_box (v := .agg #[.int .u64 a3, .int .u64 a2, .int .u64 a1, .int .u64 a0]) (cs := #[.int .u64 a3, .int .u64 a2, .int .u64 a1, .int .u64 a0]) (T rfl rfl) rfl ?_)
  intro b1 w2 n3
  have N4 : w.heap.size ≤ b1 := n3.eq ▸ E0.size
  have E5 := below_ext E0 E0.size n3.ext
  refine lw_e (oe_box (v := .agg #[.int .u64 y3, .int .u64 y2, .int .u64 y1, .int .u64 y0]) (cs := #[.int .u64 y3, .int .u64 y2, .int .u64 y1, .int .u64 y0]) (T rfl rfl) rfl ?_)
  intro b6 w7 n8
  have N9 : w.heap.size ≤ b6 := n8.eq ▸ E5.size
  have : b1 < b6 := n8.eq ▸ lt_of_blk n3.blk
  have E10 := below_ext E5 E5.size n8.ext
  refine lw_v (.bool false) (dv_assign C) ?_
  refine lw_nil ?_
  refine rk_seq ?_
  refine rk_any (fun w => w.heap[b1]? = some (.cells #[.int .u64 a3, .int .u64 a2, .int .u64 a1, .int .u64 a0] 24) ∧ w.heap[b6]? = some (.cells #[.int .u64 y3, .int .u64 y2, .int .u64 y1, .int .u64 y0] 24)) [10] mo ?_
  intro w11 d12
  have E13 := below_ext E10 E10.size d12.ext
  have H14 := (d12.ext.blk (n8.ext.blk n3.blk))
  have H15 := (d12.ext.blk n8.blk)
  refine aw_load 0 (.agg #[.int .u64 a3, .int .u64 a2, .int .u64 a1, .int .u64 a0]) rfl (by kernel_rfl) .none ⟨H14, H15⟩ (fun _ s => dv_loads (l := [.int .u64 a3, .int .u64 a2, .int .u64 a1, .int .u64 a0]) agt24 sz24 (T rfl rfl) s.1 rfl) ?_
  refine aw_load 2 (.agg #[.int .u64 y3, .int .u64 y2, .int .u64 y1, .int .u64 y0]) rfl (by kernel_rfl) .none ⟨H14, H15⟩ (fun _ s => dv_loads (l := [.int .u64 y3, .int .u64 y2, .int .u64 y1, .int .u64 y0]) agt24 sz24 (T rfl rfl) s.2 rfl) ?_
  refine aw_two 1 8 rfl rfl (by kernel_rfl) .none .none ?_ ?_
  · -- a
    refine id (oe_callf (vs := [.agg #[.int .u64 a3, .int .u64 a2, .int .u64 a1, .int .u64 a0]]) co16 (ar1 (T rfl rfl)) (toWide_ok ) ?_)
    rintro _ w16 ⟨rfl, e17⟩
    have E18 := below_ext E13 E13.size e17
    have H19 := (e17.blk H14)
    have H20 := (e17.blk H15)
    refine ⟨.inr ⟨H19, H20⟩, ?_⟩
    refine aw_two 3 8 rfl rfl (by kernel_rfl) .none .none ?_ ?_
    · -- aa
      refine id (oe_callf (vs := [.agg #[.int .u64 y3, .int .u64 y2, .int .u64 y1, .int .u64 y0]]) co16 (ar1 (T rfl rfl)) (toWide_ok ) ?_)
      rintro _ w21 ⟨rfl, e22⟩
      have E23 := below_ext E18 E18.size e22
      have H24 := (e22.blk H19)
      have H25 := (e22.blk H20)
      refine ⟨.inr ⟨H24, H25⟩, ?_⟩
      refine aw_two 4 8 rfl rfl (by kernel_rfl) .none .none ?_ ?_
      · -- aaa
        refine id (oe_callf (vs := [.agg #[.int .u64 a3, .int .u64 a2, .int .u64 a1, .int .u64 a0], .agg #[.int .u64 y3, .int .u64 y2, .int .u64 y1, .int .u64 y0]]) co35 (ar2 (T rfl rfl) (T rfl rfl)) (sWideMul_ok (by omega) (by omega) (by omega) (by omega) (by omega) (by omega) (by omega) (by omega)) ?_)
        rintro _ w26 ⟨rfl, e27⟩
        have E28 := below_ext E23 E23.size e27
        have H29 := (e27.blk H24)
        have H30 := (e27.blk H25)
        refine ⟨.inr ⟨H29, H30⟩, ?_⟩
        refine aw_pure 5 (.tuple #[.agg #[.int .u64 (wv3 ((wz a3 a2 a1 a0) * (wz y3 y2 y1 y0))), .int .u64 (wv2 ((wz a3 a2 a1 a0) * (wz y3 y2 y1 y0))), .int .u64 (wv1 ((wz a3 a2 a1 a0) * (wz y3 y2 y1 y0))), .int .u64 (wv0 ((wz a3 a2 a1 a0) * (wz y3 y2 y1 y0)))], .bool (decide (fits ((wz a3 a2 a1 a0) * (wz y3 y2 y1 y0))))]) rfl (by kernel_rfl) .none ⟨H29, H30⟩ (fun _ => dv_move (T rfl rfl)) ?_
        refine aw_pure 6 (.agg #[.int .u64 (wv3 ((wz a3 a2 a1 a0) * (wz y3 y2 y1 y0))), .int .u64 (wv2 ((wz a3 a2 a1 a0) * (wz y3 y2 y1 y0))), .int .u64 (wv1 ((wz a3 a2 a1 a0) * (wz y3 y2 y1 y0))), .int .u64 (wv0 ((wz a3 a2 a1 a0) * (wz y3 y2 y1 y0)))]) rfl (by kernel_rfl) .none ⟨H29, H30⟩ (fun _ => dv_extract (vs := #[.agg #[.int .u64 (wv3 ((wz a3 a2 a1 a0) * (wz y3 y2 y1 y0))), .int .u64 (wv2 ((wz a3 a2 a1 a0) * (wz y3 y2 y1 y0))), .int .u64 (wv1 ((wz a3 a2 a1 a0) * (wz y3 y2 y1 y0))), .int .u64 (wv0 ((wz a3 a2 a1 a0) * (wz y3 y2 y1 y0)))], .bool (decide (fits ((wz a3 a2 a1 a0) * (wz y3 y2 y1 y0))))]) (T rfl rfl) rfl) ?_
        refine aw_pure 7 (.bool (decide (fits ((wz a3 a2 a1 a0) * (wz y3 y2 y1 y0))))) rfl (by kernel_rfl) .none ⟨H29, H30⟩ (fun _ => dv_extract (vs := #[.agg #[.int .u64 (wv3 ((wz a3 a2 a1 a0) * (wz y3 y2 y1 y0))), .int .u64 (wv2 ((wz a3 a2 a1 a0) * (wz y3 y2 y1 y0))), .int .u64 (wv1 ((wz a3 a2 a1 a0) * (wz y3 y2 y1 y0))), .int .u64 (wv0 ((wz a3 a2 a1 a0) * (wz y3 y2 y1 y0)))], .bool (decide (fits ((wz a3 a2 a1 a0) * (wz y3 y2 y1 y0))))]) (T rfl rfl) rfl) ?_
        refine aw_one 8 rfl (by kernel_rfl) .none (oe_alloc ze26 ?_)
        intro b31 w32 n33
        have N34 : w.heap.size ≤ b31 := n33.eq ▸ E28.size
        have : b6 < b31 := n33.eq ▸ lt_of_blk H30
        have E35 := below_ext E28 E28.size n33.ext
        have H36 := (n33.ext.blk H29)
        have H37 := (n33.ext.blk H30)
        refine ⟨.inr ⟨H36, H37⟩, ?_⟩
        refine aw_one 9 rfl (by kernel_rfl) .none (oe_store (v := .agg #[.int .u64 (wv3 ((wz a3 a2 a1 a0) * (wz y3 y2 y1 y0))), .int .u64 (wv2 ((wz a3 a2 a1 a0) * (wz y3 y2 y1 y0))), .int .u64 (wv1 ((wz a3 a2 a1 a0) * (wz y3 y2 y1 y0))), .int .u64 (wv0 ((wz a3 a2 a1 a0) * (wz y3 y2 y1 y0)))]) (vs := [.int .u64 (wv3 ((wz a3 a2 a1 a0) * (wz y3 y2 y1 y0))), .int .u64 (wv2 ((wz a3 a2 a1 a0) * (wz y3 y2 y1 y0))), .int .u64 (wv1 ((wz a3 a2 a1 a0) * (wz y3 y2 y1 y0))), .int .u64 (wv0 ((wz a3 a2 a1 a0) * (wz y3 y2 y1 y0)))]) (l := [.int .u64 (wv3 ((wz a3 a2 a1 a0) * (wz y3 y2 y1 y0))), .int .u64 (wv2 ((wz a3 a2 a1 a0) * (wz y3 y2 y1 y0))), .int .u64 (wv1 ((wz a3 a2 a1 a0) * (wz y3 y2 y1 y0))), .int .u64 (wv0 ((wz a3 a2 a1 a0) * (wz y3 y2 y1 y0)))]) (T rfl rfl) (T rfl rfl) sz26 rfl rfl rfl n33.blk rfl ?_)
        intro w38 s39 H40
        have E41 := below_st E35 N34 s39
        have H42 := (s39.blk H36 (by omega))
        have H43 := (s39.blk H37 (by omega))
        refine ⟨.inr ⟨H42, H43⟩, ?_⟩
        refine aw_last 10 (.bool (decide (fits ((wz a3 a2 a1 a0) * (wz y3 y2 y1 y0))))) rfl (by kernel_rfl) .none (fun _ => dv_assign (T rfl rfl)) ?_
        refine aw_done (by kernel_rfl) ?_
        refine rk_seq ?_
        refine rk_any (fun w => w.heap[b1]? = some (.cells #[.int .u64 a3, .int .u64 a2, .int .u64 a1, .int .u64 a0] 24) ∧ w.heap[b6]? = some (.cells #[.int .u64 y3, .int .u64 y2, .int .u64 y1, .int .u64 y0] 24)) [10] mo ?_
        intro w44 d45
        have E46 := below_ext E41 E41.size d45.ext
        have H47 := (d45.ext.blk H42)
        have H48 := (d45.ext.blk H43)
        refine aw_load 0 (.agg #[.int .u64 a3, .int .u64 a2, .int .u64 a1, .int .u64 a0]) rfl (by kernel_rfl) .none ⟨H47, H48⟩ (fun _ s => dv_loads (l := [.int .u64 a3, .int .u64 a2, .int .u64 a1, .int .u64 a0]) agt24 sz24 (T rfl rfl) s.1 rfl) ?_
        refine aw_load 2 (.agg #[.int .u64 y3, .int .u64 y2, .int .u64 y1, .int .u64 y0]) rfl (by kernel_rfl) .none ⟨H47, H48⟩ (fun _ s => dv_loads (l := [.int .u64 y3, .int .u64 y2, .int .u64 y1, .int .u64 y0]) agt24 sz24 (T rfl rfl) s.2 rfl) ?_
        refine aw_two 1 8 rfl rfl (by kernel_rfl) .none .none ?_ ?_
        · -- aaaa
          refine id (oe_callf (vs := [.agg #[.int .u64 a3, .int .u64 a2, .int .u64 a1, .int .u64 a0]]) co16 (ar1 (T rfl rfl)) (toWide_ok ) ?_)
          rintro _ w49 ⟨rfl, e50⟩
          have E51 := below_ext E46 E46.size e50
          have H52 := (e50.blk H47)
          have H53 := (e50.blk H48)
          refine ⟨.inr ⟨H52, H53⟩, ?_⟩
          refine aw_two 3 8 rfl rfl (by kernel_rfl) .none .none ?_ ?_
          · -- aaaaa
            refine id (oe_callf (vs := [.agg #[.int .u64 y3, .int .u64 y2, .int .u64 y1, .int .u64 y0]]) co16 (ar1 (T rfl rfl)) (toWide_ok ) ?_)
            rintro _ w54 ⟨rfl, e55⟩
            have E56 := below_ext E51 E51.size e55
            have H57 := (e55.blk H52)
            have H58 := (e55.blk H53)
            refine ⟨.inr ⟨H57, H58⟩, ?_⟩
            refine aw_two 4 8 rfl rfl (by kernel_rfl) .none .none ?_ ?_
            · -- aaaaaa
              refine id (oe_callf (vs := [.agg #[.int .u64 a3, .int .u64 a2, .int .u64 a1, .int .u64 a0], .agg #[.int .u64 y3, .int .u64 y2, .int .u64 y1, .int .u64 y0]]) co36 (ar2 (T rfl rfl) (T rfl rfl)) (iWideMul_ok (by omega) (by omega) (by omega) (by omega) (by omega) (by omega) (by omega) (by omega)) ?_)
              rintro _ w59 ⟨rfl, e60⟩
              have E61 := below_ext E56 E56.size e60
              have H62 := (e60.blk H57)
              have H63 := (e60.blk H58)
              refine ⟨.inr ⟨H62, H63⟩, ?_⟩
              refine aw_pure 5 (.tuple #[.agg #[.int .u64 (wv3 ((wz a3 a2 a1 a0) * (wz y3 y2 y1 y0))), .int .u64 (wv2 ((wz a3 a2 a1 a0) * (wz y3 y2 y1 y0))), .int .u64 (wv1 ((wz a3 a2 a1 a0) * (wz y3 y2 y1 y0))), .int .u64 (wv0 ((wz a3 a2 a1 a0) * (wz y3 y2 y1 y0)))], .bool (decide (fits ((wz a3 a2 a1 a0) * (wz y3 y2 y1 y0))))]) rfl (by kernel_rfl) .none ⟨H62, H63⟩ (fun _ => dv_move (T rfl rfl)) ?_
              refine aw_pure 6 (.agg #[.int .u64 (wv3 ((wz a3 a2 a1 a0) * (wz y3 y2 y1 y0))), .int .u64 (wv2 ((wz a3 a2 a1 a0) * (wz y3 y2 y1 y0))), .int .u64 (wv1 ((wz a3 a2 a1 a0) * (wz y3 y2 y1 y0))), .int .u64 (wv0 ((wz a3 a2 a1 a0) * (wz y3 y2 y1 y0)))]) rfl (by kernel_rfl) .none ⟨H62, H63⟩ (fun _ => dv_extract (vs := #[.agg #[.int .u64 (wv3 ((wz a3 a2 a1 a0) * (wz y3 y2 y1 y0))), .int .u64 (wv2 ((wz a3 a2 a1 a0) * (wz y3 y2 y1 y0))), .int .u64 (wv1 ((wz a3 a2 a1 a0) * (wz y3 y2 y1 y0))), .int .u64 (wv0 ((wz a3 a2 a1 a0) * (wz y3 y2 y1 y0)))], .bool (decide (fits ((wz a3 a2 a1 a0) * (wz y3 y2 y1 y0))))]) (T rfl rfl) rfl) ?_
              refine aw_pure 7 (.bool (decide (fits ((wz a3 a2 a1 a0) * (wz y3 y2 y1 y0))))) rfl (by kernel_rfl) .none ⟨H62, H63⟩ (fun _ => dv_extract (vs := #[.agg #[.int .u64 (wv3 ((wz a3 a2 a1 a0) * (wz y3 y2 y1 y0))), .int .u64 (wv2 ((wz a3 a2 a1 a0) * (wz y3 y2 y1 y0))), .int .u64 (wv1 ((wz a3 a2 a1 a0) * (wz y3 y2 y1 y0))), .int .u64 (wv0 ((wz a3 a2 a1 a0) * (wz y3 y2 y1 y0)))], .bool (decide (fits ((wz a3 a2 a1 a0) * (wz y3 y2 y1 y0))))]) (T rfl rfl) rfl) ?_
              refine aw_one 8 rfl (by kernel_rfl) .none (oe_alloc ze26 ?_)
              intro b64 w65 n66
              have N67 : w.heap.size ≤ b64 := n66.eq ▸ E61.size
              have H68 := (e60.blk (e55.blk (e50.blk (d45.ext.blk H40))))
              have : b31 < b64 := n66.eq ▸ lt_of_blk H68
              have E69 := below_ext E61 E61.size n66.ext
              have H70 := (n66.ext.blk H62)
              have H71 := (n66.ext.blk H63)
              refine ⟨.inr ⟨H70, H71⟩, ?_⟩
              refine aw_one 9 rfl (by kernel_rfl) .none (oe_store (v := .agg #[.int .u64 (wv3 ((wz a3 a2 a1 a0) * (wz y3 y2 y1 y0))), .int .u64 (wv2 ((wz a3 a2 a1 a0) * (wz y3 y2 y1 y0))), .int .u64 (wv1 ((wz a3 a2 a1 a0) * (wz y3 y2 y1 y0))), .int .u64 (wv0 ((wz a3 a2 a1 a0) * (wz y3 y2 y1 y0)))]) (vs := [.int .u64 (wv3 ((wz a3 a2 a1 a0) * (wz y3 y2 y1 y0))), .int .u64 (wv2 ((wz a3 a2 a1 a0) * (wz y3 y2 y1 y0))), .int .u64 (wv1 ((wz a3 a2 a1 a0) * (wz y3 y2 y1 y0))), .int .u64 (wv0 ((wz a3 a2 a1 a0) * (wz y3 y2 y1 y0)))]) (l := [.int .u64 (wv3 ((wz a3 a2 a1 a0) * (wz y3 y2 y1 y0))), .int .u64 (wv2 ((wz a3 a2 a1 a0) * (wz y3 y2 y1 y0))), .int .u64 (wv1 ((wz a3 a2 a1 a0) * (wz y3 y2 y1 y0))), .int .u64 (wv0 ((wz a3 a2 a1 a0) * (wz y3 y2 y1 y0)))]) (T rfl rfl) (T rfl rfl) sz26 rfl rfl rfl n66.blk rfl ?_)
              intro w72 s73 H74
              have E75 := below_st E69 N67 s73
              have H76 := (s73.blk H70 (by omega))
              have H77 := (s73.blk H71 (by omega))
              refine ⟨.inr ⟨H76, H77⟩, ?_⟩
              refine aw_last 10 (.bool (decide (fits ((wz a3 a2 a1 a0) * (wz y3 y2 y1 y0))))) rfl (by kernel_rfl) .none (fun _ => dv_assign (T rfl rfl)) ?_
              refine aw_done (by kernel_rfl) ?_
              refine rk_seq ?_
              refine rk_seq ?_
              refine rk_reg ?_
              refine lw_v (.agg #[.int .u64 (wv3 ((wz a3 a2 a1 a0) * (wz y3 y2 y1 y0))), .int .u64 (wv2 ((wz a3 a2 a1 a0) * (wz y3 y2 y1 y0))), .int .u64 (wv1 ((wz a3 a2 a1 a0) * (wz y3 y2 y1 y0))), .int .u64 (wv0 ((wz a3 a2 a1 a0) * (wz y3 y2 y1 y0)))]) (dv_loads (l := [.int .u64 (wv3 ((wz a3 a2 a1 a0) * (wz y3 y2 y1 y0))), .int .u64 (wv2 ((wz a3 a2 a1 a0) * (wz y3 y2 y1 y0))), .int .u64 (wv1 ((wz a3 a2 a1 a0) * (wz y3 y2 y1 y0))), .int .u64 (wv0 ((wz a3 a2 a1 a0) * (wz y3 y2 y1 y0)))]) agt26 sz26 (T rfl rfl) H74 rfl) ?_
              have H78 := (s73.blk (n66.ext.blk H68) (by omega))
              refine lw_v (.agg #[.int .u64 (wv3 ((wz a3 a2 a1 a0) * (wz y3 y2 y1 y0))), .int .u64 (wv2 ((wz a3 a2 a1 a0) * (wz y3 y2 y1 y0))), .int .u64 (wv1 ((wz a3 a2 a1 a0) * (wz y3 y2 y1 y0))), .int .u64 (wv0 ((wz a3 a2 a1 a0) * (wz y3 y2 y1 y0)))]) (dv_loads (l := [.int .u64 (wv3 ((wz a3 a2 a1 a0) * (wz y3 y2 y1 y0))), .int .u64 (wv2 ((wz a3 a2 a1 a0) * (wz y3 y2 y1 y0))), .int .u64 (wv1 ((wz a3 a2 a1 a0) * (wz y3 y2 y1 y0))), .int .u64 (wv0 ((wz a3 a2 a1 a0) * (wz y3 y2 y1 y0)))]) agt26 sz26 (T rfl rfl) H78 rfl) ?_
              refine lw_e (oe_callf (vs := [.agg #[.int .u64 (wv3 ((wz a3 a2 a1 a0) * (wz y3 y2 y1 y0))), .int .u64 (wv2 ((wz a3 a2 a1 a0) * (wz y3 y2 y1 y0))), .int .u64 (wv1 ((wz a3 a2 a1 a0) * (wz y3 y2 y1 y0))), .int .u64 (wv0 ((wz a3 a2 a1 a0) * (wz y3 y2 y1 y0)))], .agg #[.int .u64 (wv3 ((wz a3 a2 a1 a0) * (wz y3 y2 y1 y0))), .int .u64 (wv2 ((wz a3 a2 a1 a0) * (wz y3 y2 y1 y0))), .int .u64 (wv1 ((wz a3 a2 a1 a0) * (wz y3 y2 y1 y0))), .int .u64 (wv0 ((wz a3 a2 a1 a0) * (wz y3 y2 y1 y0)))]]) co24 (ar2 (T rfl rfl) (T rfl rfl)) (eqWide_ok ) ?_)
              rintro _ w79 ⟨rfl, e80⟩
              have E81 := below_ext E75 E75.size e80
              refine lw_v (.bool (decide (¬ ((wv3 ((wz a3 a2 a1 a0) * (wz y3 y2 y1 y0))) = (wv3 ((wz a3 a2 a1 a0) * (wz y3 y2 y1 y0))) ∧ (wv2 ((wz a3 a2 a1 a0) * (wz y3 y2 y1 y0))) = (wv2 ((wz a3 a2 a1 a0) * (wz y3 y2 y1 y0))) ∧ (wv1 ((wz a3 a2 a1 a0) * (wz y3 y2 y1 y0))) = (wv1 ((wz a3 a2 a1 a0) * (wz y3 y2 y1 y0))) ∧ (wv0 ((wz a3 a2 a1 a0) * (wz y3 y2 y1 y0))) = (wv0 ((wz a3 a2 a1 a0) * (wz y3 y2 y1 y0))))))) (dv_notd (p := (wv3 ((wz a3 a2 a1 a0) * (wz y3 y2 y1 y0))) = (wv3 ((wz a3 a2 a1 a0) * (wz y3 y2 y1 y0))) ∧ (wv2 ((wz a3 a2 a1 a0) * (wz y3 y2 y1 y0))) = (wv2 ((wz a3 a2 a1 a0) * (wz y3 y2 y1 y0))) ∧ (wv1 ((wz a3 a2 a1 a0) * (wz y3 y2 y1 y0))) = (wv1 ((wz a3 a2 a1 a0) * (wz y3 y2 y1 y0))) ∧ (wv0 ((wz a3 a2 a1 a0) * (wz y3 y2 y1 y0))) = (wv0 ((wz a3 a2 a1 a0) * (wz y3 y2 y1 y0)))) (T rfl rfl)) ?_
              refine lw_v (.bool (decide (¬ ((wv3 ((wz a3 a2 a1 a0) * (wz y3 y2 y1 y0))) = (wv3 ((wz a3 a2 a1 a0) * (wz y3 y2 y1 y0))) ∧ (wv2 ((wz a3 a2 a1 a0) * (wz y3 y2 y1 y0))) = (wv2 ((wz a3 a2 a1 a0) * (wz y3 y2 y1 y0))) ∧ (wv1 ((wz a3 a2 a1 a0) * (wz y3 y2 y1 y0))) = (wv1 ((wz a3 a2 a1 a0) * (wz y3 y2 y1 y0))) ∧ (wv0 ((wz a3 a2 a1 a0) * (wz y3 y2 y1 y0))) = (wv0 ((wz a3 a2 a1 a0) * (wz y3 y2 y1 y0))))))) (dv_move (T rfl rfl)) ?_
              by_cases hb82 : (wv3 ((wz a3 a2 a1 a0) * (wz y3 y2 y1 y0))) = (wv3 ((wz a3 a2 a1 a0) * (wz y3 y2 y1 y0))) ∧ (wv2 ((wz a3 a2 a1 a0) * (wz y3 y2 y1 y0))) = (wv2 ((wz a3 a2 a1 a0) * (wz y3 y2 y1 y0))) ∧ (wv1 ((wz a3 a2 a1 a0) * (wz y3 y2 y1 y0))) = (wv1 ((wz a3 a2 a1 a0) * (wz y3 y2 y1 y0))) ∧ (wv0 ((wz a3 a2 a1 a0) * (wz y3 y2 y1 y0))) = (wv0 ((wz a3 a2 a1 a0) * (wz y3 y2 y1 y0)))
              · -- aaaaaaT
                refine lw_vy (.bool (decide (fits ((wz a3 a2 a1 a0) * (wz y3 y2 y1 y0))))) (d := 29) rfl rfl (congrArg Value.bool (decide_eq_false (not_not_intro hb82))) (dv_move (T rfl rfl)) ?_
                refine lw_vy (.bool (decide (fits ((wz a3 a2 a1 a0) * (wz y3 y2 y1 y0))))) (d := 29) rfl rfl (congrArg Value.bool (decide_eq_false (not_not_intro hb82))) (dv_move (T rfl rfl)) ?_
                refine lw_vy (.bool ((decide (fits ((wz a3 a2 a1 a0) * (wz y3 y2 y1 y0)))) != (decide (fits ((wz a3 a2 a1 a0) * (wz y3 y2 y1 y0)))))) (d := 29) rfl rfl (congrArg Value.bool (decide_eq_false (not_not_intro hb82))) (dv_neqb (a := decide (fits ((wz a3 a2 a1 a0) * (wz y3 y2 y1 y0)))) (b := decide (fits ((wz a3 a2 a1 a0) * (wz y3 y2 y1 y0)))) ub4 (T rfl rfl) (T rfl rfl)) ?_
                refine lw_v (.bool ((decide (fits ((wz a3 a2 a1 a0) * (wz y3 y2 y1 y0)))) != (decide (fits ((wz a3 a2 a1 a0) * (wz y3 y2 y1 y0)))))) (dv_pick_f (T rfl (congrArg Value.bool (decide_eq_false (not_not_intro hb82)))) (T rfl rfl)) ?_
                refine lw_nil ?_
                rcases Bool.eq_false_or_eq_true ((decide (fits ((wz a3 a2 a1 a0) * (wz y3 y2 y1 y0)))) != (decide (fits ((wz a3 a2 a1 a0) * (wz y3 y2 y1 y0))))) with hb83 | hb83
                · -- aaaaaaTT
                  refine rk_ct (T rfl (congrArg Value.bool hb83)) ?_
                  refine rk_seq ?_
                  refine rk_reg ?_
                  refine lw_v (.bool false) (dv_assign C) ?_
                  refine lw_nil ?_
                  refine rk_ret Try.func11 (v := .bool false) (res1 Try.results11 (rv_tmp rfl rfl)) ⟨_, rfl, ?_⟩
                  exact ⟨(congrArg Value.bool (by grind)), E81⟩
                · -- aaaaaaTF
                  refine rk_cf (T rfl (congrArg Value.bool hb83)) ?_
                  refine rk_skip ?_
                  refine rk_seq ?_
                  refine rk_reg ?_
                  refine lw_v (.bool true) (dv_assign C) ?_
                  refine lw_nil ?_
                  refine rk_ret Try.func11 (v := .bool true) (res1 Try.results11 (rv_tmp rfl rfl)) ⟨_, rfl, ?_⟩
                  exact ⟨rfl, E81⟩
              · -- aaaaaaF
                refine lw_no (d := 29) rfl rfl (congrArg Value.bool (decide_eq_true hb82)) ?_
                refine lw_no (d := 29) rfl rfl (congrArg Value.bool (decide_eq_true hb82)) ?_
                refine lw_no (d := 29) rfl rfl (congrArg Value.bool (decide_eq_true hb82)) ?_
                refine lw_v (.bool true) (dv_pick_t (T rfl (congrArg Value.bool (decide_eq_true hb82))) C) ?_
                refine lw_nil ?_
                refine rk_ct (T rfl rfl) ?_
                refine rk_seq ?_
                refine rk_reg ?_
                refine lw_v (.bool false) (dv_assign C) ?_
                refine lw_nil ?_
                refine rk_ret Try.func11 (v := .bool false) (res1 Try.results11 (rv_tmp rfl rfl)) ⟨_, rfl, ?_⟩
                exact ⟨(congrArg Value.bool (by grind)), E81⟩
            · -- aaaaab
              refine id (oe_alloc ze26 ?_)
              intro b84 w85 n86
              have N87 : w.heap.size ≤ b84 := n86.eq ▸ E56.size
              have H88 := (e55.blk (e50.blk (d45.ext.blk H40)))
              have : b31 < b84 := n86.eq ▸ lt_of_blk H88
              have E89 := below_ext E56 E56.size n86.ext
              have H90 := (n86.ext.blk H57)
              have H91 := (n86.ext.blk H58)
              refine ⟨.inr ⟨H90, H91⟩, ?_⟩
              refine aw_one 4 rfl (by kernel_rfl) .none (oe_callf (vs := [.agg #[.int .u64 a3, .int .u64 a2, .int .u64 a1, .int .u64 a0], .agg #[.int .u64 y3, .int .u64 y2, .int .u64 y1, .int .u64 y0]]) co36 (ar2 (T rfl rfl) (T rfl rfl)) (iWideMul_ok (by omega) (by omega) (by omega) (by omega) (by omega) (by omega) (by omega) (by omega)) ?_)
              rintro _ w92 ⟨rfl, e93⟩
              have E94 := below_ext E89 E89.size e93
              have H95 := (e93.blk H90)
              have H96 := (e93.blk H91)
              refine ⟨.inr ⟨H95, H96⟩, ?_⟩
              refine aw_pure 5 (.tuple #[.agg #[.int .u64 (wv3 ((wz a3 a2 a1 a0) * (wz y3 y2 y1 y0))), .int .u64 (wv2 ((wz a3 a2 a1 a0) * (wz y3 y2 y1 y0))), .int .u64 (wv1 ((wz a3 a2 a1 a0) * (wz y3 y2 y1 y0))), .int .u64 (wv0 ((wz a3 a2 a1 a0) * (wz y3 y2 y1 y0)))], .bool (decide (fits ((wz a3 a2 a1 a0) * (wz y3 y2 y1 y0))))]) rfl (by kernel_rfl) .none ⟨H95, H96⟩ (fun _ => dv_move (T rfl rfl)) ?_
              refine aw_pure 6 (.agg #[.int .u64 (wv3 ((wz a3 a2 a1 a0) * (wz y3 y2 y1 y0))), .int .u64 (wv2 ((wz a3 a2 a1 a0) * (wz y3 y2 y1 y0))), .int .u64 (wv1 ((wz a3 a2 a1 a0) * (wz y3 y2 y1 y0))), .int .u64 (wv0 ((wz a3 a2 a1 a0) * (wz y3 y2 y1 y0)))]) rfl (by kernel_rfl) .none ⟨H95, H96⟩ (fun _ => dv_extract (vs := #[.agg #[.int .u64 (wv3 ((wz a3 a2 a1 a0) * (wz y3 y2 y1 y0))), .int .u64 (wv2 ((wz a3 a2 a1 a0) * (wz y3 y2 y1 y0))), .int .u64 (wv1 ((wz a3 a2 a1 a0) * (wz y3 y2 y1 y0))), .int .u64 (wv0 ((wz a3 a2 a1 a0) * (wz y3 y2 y1 y0)))], .bool (decide (fits ((wz a3 a2 a1 a0) * (wz y3 y2 y1 y0))))]) (T rfl rfl) rfl) ?_
              refine aw_pure 7 (.bool (decide (fits ((wz a3 a2 a1 a0) * (wz y3 y2 y1 y0))))) rfl (by kernel_rfl) .none ⟨H95, H96⟩ (fun _ => dv_extract (vs := #[.agg #[.int .u64 (wv3 ((wz a3 a2 a1 a0) * (wz y3 y2 y1 y0))), .int .u64 (wv2 ((wz a3 a2 a1 a0) * (wz y3 y2 y1 y0))), .int .u64 (wv1 ((wz a3 a2 a1 a0) * (wz y3 y2 y1 y0))), .int .u64 (wv0 ((wz a3 a2 a1 a0) * (wz y3 y2 y1 y0)))], .bool (decide (fits ((wz a3 a2 a1 a0) * (wz y3 y2 y1 y0))))]) (T rfl rfl) rfl) ?_
              have H97 := (e93.blk n86.blk)
              refine aw_one 9 rfl (by kernel_rfl) .none (oe_store (v := .agg #[.int .u64 (wv3 ((wz a3 a2 a1 a0) * (wz y3 y2 y1 y0))), .int .u64 (wv2 ((wz a3 a2 a1 a0) * (wz y3 y2 y1 y0))), .int .u64 (wv1 ((wz a3 a2 a1 a0) * (wz y3 y2 y1 y0))), .int .u64 (wv0 ((wz a3 a2 a1 a0) * (wz y3 y2 y1 y0)))]) (vs := [.int .u64 (wv3 ((wz a3 a2 a1 a0) * (wz y3 y2 y1 y0))), .int .u64 (wv2 ((wz a3 a2 a1 a0) * (wz y3 y2 y1 y0))), .int .u64 (wv1 ((wz a3 a2 a1 a0) * (wz y3 y2 y1 y0))), .int .u64 (wv0 ((wz a3 a2 a1 a0) * (wz y3 y2 y1 y0)))]) (l := [.int .u64 (wv3 ((wz a3 a2 a1 a0) * (wz y3 y2 y1 y0))), .int .u64 (wv2 ((wz a3 a2 a1 a0) * (wz y3 y2 y1 y0))), .int .u64 (wv1 ((wz a3 a2 a1 a0) * (wz y3 y2 y1 y0))), .int .u64 (wv0 ((wz a3 a2 a1 a0) * (wz y3 y2 y1 y0)))]) (T rfl rfl) (T rfl rfl) sz26 rfl rfl rfl H97 rfl ?_)
              intro w98 s99 H100
              have E101 := below_st E94 N87 s99
              have H102 := (s99.blk H95 (by omega))
              have H103 := (s99.blk H96 (by omega))
              refine ⟨.inr ⟨H102, H103⟩, ?_⟩
              refine aw_last 10 (.bool (decide (fits ((wz a3 a2 a1 a0) * (wz y3 y2 y1 y0))))) rfl (by kernel_rfl) .none (fun _ => dv_assign (T rfl rfl)) ?_
              refine aw_done (by kernel_rfl) ?_
              refine rk_seq ?_
              refine rk_seq ?_
              refine rk_reg ?_
              refine lw_v (.agg #[.int .u64 (wv3 ((wz a3 a2 a1 a0) * (wz y3 y2 y1 y0))), .int .u64 (wv2 ((wz a3 a2 a1 a0) * (wz y3 y2 y1 y0))), .int .u64 (wv1 ((wz a3 a2 a1 a0) * (wz y3 y2 y1 y0))), .int .u64 (wv0 ((wz a3 a2 a1 a0) * (wz y3 y2 y1 y0)))]) (dv_loads (l := [.int .u64 (wv3 ((wz a3 a2 a1 a0) * (wz y3 y2 y1 y0))), .int .u64 (wv2 ((wz a3 a2 a1 a0) * (wz y3 y2 y1 y0))), .int .u64 (wv1 ((wz a3 a2 a1 a0) * (wz y3 y2 y1 y0))), .int .u64 (wv0 ((wz a3 a2 a1 a0) * (wz y3 y2 y1 y0)))]) agt26 sz26 (T rfl rfl) H100 rfl) ?_
              have H104 := (s99.blk (e93.blk (n86.ext.blk H88)) (by omega))
              refine lw_v (.agg #[.int .u64 (wv3 ((wz a3 a2 a1 a0) * (wz y3 y2 y1 y0))), .int .u64 (wv2 ((wz a3 a2 a1 a0) * (wz y3 y2 y1 y0))), .int .u64 (wv1 ((wz a3 a2 a1 a0) * (wz y3 y2 y1 y0))), .int .u64 (wv0 ((wz a3 a2 a1 a0) * (wz y3 y2 y1 y0)))]) (dv_loads (l := [.int .u64 (wv3 ((wz a3 a2 a1 a0) * (wz y3 y2 y1 y0))), .int .u64 (wv2 ((wz a3 a2 a1 a0) * (wz y3 y2 y1 y0))), .int .u64 (wv1 ((wz a3 a2 a1 a0) * (wz y3 y2 y1 y0))), .int .u64 (wv0 ((wz a3 a2 a1 a0) * (wz y3 y2 y1 y0)))]) agt26 sz26 (T rfl rfl) H104 rfl) ?_
              refine lw_e (oe_callf (vs := [.agg #[.int .u64 (wv3 ((wz a3 a2 a1 a0) * (wz y3 y2 y1 y0))), .int .u64 (wv2 ((wz a3 a2 a1 a0) * (wz y3 y2 y1 y0))), .int .u64 (wv1 ((wz a3 a2 a1 a0) * (wz y3 y2 y1 y0))), .int .u64 (wv0 ((wz a3 a2 a1 a0) * (wz y3 y2 y1 y0)))], .agg #[.int .u64 (wv3 ((wz a3 a2 a1 a0) * (wz y3 y2 y1 y0))), .int .u64 (wv2 ((wz a3 a2 a1 a0) * (wz y3 y2 y1 y0))), .int .u64 (wv1 ((wz a3 a2 a1 a0) * (wz y3 y2 y1 y0))), .int .u64 (wv0 ((wz a3 a2 a1 a0) * (wz y3 y2 y1 y0)))]]) co24 (ar2 (T rfl rfl) (T rfl rfl)) (eqWide_ok ) ?_)
              rintro _ w105 ⟨rfl, e106⟩
              have E107 := below_ext E101 E101.size e106
              refine lw_v (.bool (decide (¬ ((wv3 ((wz a3 a2 a1 a0) * (wz y3 y2 y1 y0))) = (wv3 ((wz a3 a2 a1 a0) * (wz y3 y2 y1 y0))) ∧ (wv2 ((wz a3 a2 a1 a0) * (wz y3 y2 y1 y0))) = (wv2 ((wz a3 a2 a1 a0) * (wz y3 y2 y1 y0))) ∧ (wv1 ((wz a3 a2 a1 a0) * (wz y3 y2 y1 y0))) = (wv1 ((wz a3 a2 a1 a0) * (wz y3 y2 y1 y0))) ∧ (wv0 ((wz a3 a2 a1 a0) * (wz y3 y2 y1 y0))) = (wv0 ((wz a3 a2 a1 a0) * (wz y3 y2 y1 y0))))))) (dv_notd (p := (wv3 ((wz a3 a2 a1 a0) * (wz y3 y2 y1 y0))) = (wv3 ((wz a3 a2 a1 a0) * (wz y3 y2 y1 y0))) ∧ (wv2 ((wz a3 a2 a1 a0) * (wz y3 y2 y1 y0))) = (wv2 ((wz a3 a2 a1 a0) * (wz y3 y2 y1 y0))) ∧ (wv1 ((wz a3 a2 a1 a0) * (wz y3 y2 y1 y0))) = (wv1 ((wz a3 a2 a1 a0) * (wz y3 y2 y1 y0))) ∧ (wv0 ((wz a3 a2 a1 a0) * (wz y3 y2 y1 y0))) = (wv0 ((wz a3 a2 a1 a0) * (wz y3 y2 y1 y0)))) (T rfl rfl)) ?_
              refine lw_v (.bool (decide (¬ ((wv3 ((wz a3 a2 a1 a0) * (wz y3 y2 y1 y0))) = (wv3 ((wz a3 a2 a1 a0) * (wz y3 y2 y1 y0))) ∧ (wv2 ((wz a3 a2 a1 a0) * (wz y3 y2 y1 y0))) = (wv2 ((wz a3 a2 a1 a0) * (wz y3 y2 y1 y0))) ∧ (wv1 ((wz a3 a2 a1 a0) * (wz y3 y2 y1 y0))) = (wv1 ((wz a3 a2 a1 a0) * (wz y3 y2 y1 y0))) ∧ (wv0 ((wz a3 a2 a1 a0) * (wz y3 y2 y1 y0))) = (wv0 ((wz a3 a2 a1 a0) * (wz y3 y2 y1 y0))))))) (dv_move (T rfl rfl)) ?_
              by_cases hb108 : (wv3 ((wz a3 a2 a1 a0) * (wz y3 y2 y1 y0))) = (wv3 ((wz a3 a2 a1 a0) * (wz y3 y2 y1 y0))) ∧ (wv2 ((wz a3 a2 a1 a0) * (wz y3 y2 y1 y0))) = (wv2 ((wz a3 a2 a1 a0) * (wz y3 y2 y1 y0))) ∧ (wv1 ((wz a3 a2 a1 a0) * (wz y3 y2 y1 y0))) = (wv1 ((wz a3 a2 a1 a0) * (wz y3 y2 y1 y0))) ∧ (wv0 ((wz a3 a2 a1 a0) * (wz y3 y2 y1 y0))) = (wv0 ((wz a3 a2 a1 a0) * (wz y3 y2 y1 y0)))
              · -- aaaaabT
                refine lw_vy (.bool (decide (fits ((wz a3 a2 a1 a0) * (wz y3 y2 y1 y0))))) (d := 29) rfl rfl (congrArg Value.bool (decide_eq_false (not_not_intro hb108))) (dv_move (T rfl rfl)) ?_
                refine lw_vy (.bool (decide (fits ((wz a3 a2 a1 a0) * (wz y3 y2 y1 y0))))) (d := 29) rfl rfl (congrArg Value.bool (decide_eq_false (not_not_intro hb108))) (dv_move (T rfl rfl)) ?_
                refine lw_vy (.bool ((decide (fits ((wz a3 a2 a1 a0) * (wz y3 y2 y1 y0)))) != (decide (fits ((wz a3 a2 a1 a0) * (wz y3 y2 y1 y0)))))) (d := 29) rfl rfl (congrArg Value.bool (decide_eq_false (not_not_intro hb108))) (dv_neqb (a := decide (fits ((wz a3 a2 a1 a0) * (wz y3 y2 y1 y0)))) (b := decide (fits ((wz a3 a2 a1 a0) * (wz y3 y2 y1 y0)))) ub4 (T rfl rfl) (T rfl rfl)) ?_
                refine lw_v (.bool ((decide (fits ((wz a3 a2 a1 a0) * (wz y3 y2 y1 y0)))) != (decide (fits ((wz a3 a2 a1 a0) * (wz y3 y2 y1 y0)))))) (dv_pick_f (T rfl (congrArg Value.bool (decide_eq_false (not_not_intro hb108)))) (T rfl rfl)) ?_
                refine lw_nil ?_
                rcases Bool.eq_false_or_eq_true ((decide (fits ((wz a3 a2 a1 a0) * (wz y3 y2 y1 y0)))) != (decide (fits ((wz a3 a2 a1 a0) * (wz y3 y2 y1 y0))))) with hb109 | hb109
                · -- aaaaabTT
                  refine rk_ct (T rfl (congrArg Value.bool hb109)) ?_
                  refine rk_seq ?_
                  refine rk_reg ?_
                  refine lw_v (.bool false) (dv_assign C) ?_
                  refine lw_nil ?_
                  refine rk_ret Try.func11 (v := .bool false) (res1 Try.results11 (rv_tmp rfl rfl)) ⟨_, rfl, ?_⟩
                  exact ⟨(congrArg Value.bool (by grind)), E107⟩
                · -- aaaaabTF
                  refine rk_cf (T rfl (congrArg Value.bool hb109)) ?_
                  refine rk_skip ?_
                  refine rk_seq ?_
                  refine rk_reg ?_
                  refine lw_v (.bool true) (dv_assign C) ?_
                  refine lw_nil ?_
                  refine rk_ret Try.func11 (v := .bool true) (res1 Try.results11 (rv_tmp rfl rfl)) ⟨_, rfl, ?_⟩
                  exact ⟨rfl, E107⟩
              · -- aaaaabF
                refine lw_no (d := 29) rfl rfl (congrArg Value.bool (decide_eq_true hb108)) ?_
                refine lw_no (d := 29) rfl rfl (congrArg Value.bool (decide_eq_true hb108)) ?_
                refine lw_no (d := 29) rfl rfl (congrArg Value.bool (decide_eq_true hb108)) ?_
                refine lw_v (.bool true) (dv_pick_t (T rfl (congrArg Value.bool (decide_eq_true hb108))) C) ?_
                refine lw_nil ?_
                refine rk_ct (T rfl rfl) ?_
                refine rk_seq ?_
                refine rk_reg ?_
                refine lw_v (.bool false) (dv_assign C) ?_
                refine lw_nil ?_
                refine rk_ret Try.func11 (v := .bool false) (res1 Try.results11 (rv_tmp rfl rfl)) ⟨_, rfl, ?_⟩
                exact ⟨(congrArg Value.bool (by grind)), E107⟩
          · -- aaaab
            refine id (oe_alloc ze26 ?_)
            intro b110 w111 n112
            have N113 : w.heap.size ≤ b110 := n112.eq ▸ E51.size
            have H114 := (e50.blk (d45.ext.blk H40))
            have : b31 < b110 := n112.eq ▸ lt_of_blk H114
            have E115 := below_ext E51 E51.size n112.ext
            have H116 := (n112.ext.blk H52)
            have H117 := (n112.ext.blk H53)
            refine ⟨.inr ⟨H116, H117⟩, ?_⟩
            refine aw_one 3 rfl (by kernel_rfl) .none (oe_callf (vs := [.agg #[.int .u64 y3, .int .u64 y2, .int .u64 y1, .int .u64 y0]]) co16 (ar1 (T rfl rfl)) (toWide_ok ) ?_)
            rintro _ w118 ⟨rfl, e119⟩
            have E120 := below_ext E115 E115.size e119
            have H121 := (e119.blk H116)
            have H122 := (e119.blk H117)
            refine ⟨.inr ⟨H121, H122⟩, ?_⟩
            refine aw_one 4 rfl (by kernel_rfl) .none (oe_callf (vs := [.agg #[.int .u64 a3, .int .u64 a2, .int .u64 a1, .int .u64 a0], .agg #[.int .u64 y3, .int .u64 y2, .int .u64 y1, .int .u64 y0]]) co36 (ar2 (T rfl rfl) (T rfl rfl)) (iWideMul_ok (by omega) (by omega) (by omega) (by omega) (by omega) (by omega) (by omega) (by omega)) ?_)
            rintro _ w123 ⟨rfl, e124⟩
            have E125 := below_ext E120 E120.size e124
            have H126 := (e124.blk H121)
            have H127 := (e124.blk H122)
            refine ⟨.inr ⟨H126, H127⟩, ?_⟩
            refine aw_pure 5 (.tuple #[.agg #[.int .u64 (wv3 ((wz a3 a2 a1 a0) * (wz y3 y2 y1 y0))), .int .u64 (wv2 ((wz a3 a2 a1 a0) * (wz y3 y2 y1 y0))), .int .u64 (wv1 ((wz a3 a2 a1 a0) * (wz y3 y2 y1 y0))), .int .u64 (wv0 ((wz a3 a2 a1 a0) * (wz y3 y2 y1 y0)))], .bool (decide (fits ((wz a3 a2 a1 a0) * (wz y3 y2 y1 y0))))]) rfl (by kernel_rfl) .none ⟨H126, H127⟩ (fun _ => dv_move (T rfl rfl)) ?_
            refine aw_pure 6 (.agg #[.int .u64 (wv3 ((wz a3 a2 a1 a0) * (wz y3 y2 y1 y0))), .int .u64 (wv2 ((wz a3 a2 a1 a0) * (wz y3 y2 y1 y0))), .int .u64 (wv1 ((wz a3 a2 a1 a0) * (wz y3 y2 y1 y0))), .int .u64 (wv0 ((wz a3 a2 a1 a0) * (wz y3 y2 y1 y0)))]) rfl (by kernel_rfl) .none ⟨H126, H127⟩ (fun _ => dv_extract (vs := #[.agg #[.int .u64 (wv3 ((wz a3 a2 a1 a0) * (wz y3 y2 y1 y0))), .int .u64 (wv2 ((wz a3 a2 a1 a0) * (wz y3 y2 y1 y0))), .int .u64 (wv1 ((wz a3 a2 a1 a0) * (wz y3 y2 y1 y0))), .int .u64 (wv0 ((wz a3 a2 a1 a0) * (wz y3 y2 y1 y0)))], .bool (decide (fits ((wz a3 a2 a1 a0) * (wz y3 y2 y1 y0))))]) (T rfl rfl) rfl) ?_
            refine aw_pure 7 (.bool (decide (fits ((wz a3 a2 a1 a0) * (wz y3 y2 y1 y0))))) rfl (by kernel_rfl) .none ⟨H126, H127⟩ (fun _ => dv_extract (vs := #[.agg #[.int .u64 (wv3 ((wz a3 a2 a1 a0) * (wz y3 y2 y1 y0))), .int .u64 (wv2 ((wz a3 a2 a1 a0) * (wz y3 y2 y1 y0))), .int .u64 (wv1 ((wz a3 a2 a1 a0) * (wz y3 y2 y1 y0))), .int .u64 (wv0 ((wz a3 a2 a1 a0) * (wz y3 y2 y1 y0)))], .bool (decide (fits ((wz a3 a2 a1 a0) * (wz y3 y2 y1 y0))))]) (T rfl rfl) rfl) ?_
            have H128 := (e124.blk (e119.blk n112.blk))
            refine aw_one 9 rfl (by kernel_rfl) .none (oe_store (v := .agg #[.int .u64 (wv3 ((wz a3 a2 a1 a0) * (wz y3 y2 y1 y0))), .int .u64 (wv2 ((wz a3 a2 a1 a0) * (wz y3 y2 y1 y0))), .int .u64 (wv1 ((wz a3 a2 a1 a0) * (wz y3 y2 y1 y0))), .int .u64 (wv0 ((wz a3 a2 a1 a0) * (wz y3 y2 y1 y0)))]) (vs := [.int .u64 (wv3 ((wz a3 a2 a1 a0) * (wz y3 y2 y1 y0))), .int .u64 (wv2 ((wz a3 a2 a1 a0) * (wz y3 y2 y1 y0))), .int .u64 (wv1 ((wz a3 a2 a1 a0) * (wz y3 y2 y1 y0))), .int .u64 (wv0 ((wz a3 a2 a1 a0) * (wz y3 y2 y1 y0)))]) (l := [.int .u64 (wv3 ((wz a3 a2 a1 a0) * (wz y3 y2 y1 y0))), .int .u64 (wv2 ((wz a3 a2 a1 a0) * (wz y3 y2 y1 y0))), .int .u64 (wv1 ((wz a3 a2 a1 a0) * (wz y3 y2 y1 y0))), .int .u64 (wv0 ((wz a3 a2 a1 a0) * (wz y3 y2 y1 y0)))]) (T rfl rfl) (T rfl rfl) sz26 rfl rfl rfl H128 rfl ?_)
            intro w129 s130 H131
            have E132 := below_st E125 N113 s130
            have H133 := (s130.blk H126 (by omega))
            have H134 := (s130.blk H127 (by omega))
            refine ⟨.inr ⟨H133, H134⟩, ?_⟩
            refine aw_last 10 (.bool (decide (fits ((wz a3 a2 a1 a0) * (wz y3 y2 y1 y0))))) rfl (by kernel_rfl) .none (fun _ => dv_assign (T rfl rfl)) ?_
            refine aw_done (by kernel_rfl) ?_
            refine rk_seq ?_
            refine rk_seq ?_
            refine rk_reg ?_
            refine lw_v (.agg #[.int .u64 (wv3 ((wz a3 a2 a1 a0) * (wz y3 y2 y1 y0))), .int .u64 (wv2 ((wz a3 a2 a1 a0) * (wz y3 y2 y1 y0))), .int .u64 (wv1 ((wz a3 a2 a1 a0) * (wz y3 y2 y1 y0))), .int .u64 (wv0 ((wz a3 a2 a1 a0) * (wz y3 y2 y1 y0)))]) (dv_loads (l := [.int .u64 (wv3 ((wz a3 a2 a1 a0) * (wz y3 y2 y1 y0))), .int .u64 (wv2 ((wz a3 a2 a1 a0) * (wz y3 y2 y1 y0))), .int .u64 (wv1 ((wz a3 a2 a1 a0) * (wz y3 y2 y1 y0))), .int .u64 (wv0 ((wz a3 a2 a1 a0) * (wz y3 y2 y1 y0)))]) agt26 sz26 (T rfl rfl) H131 rfl) ?_
            have H135 := (s130.blk (e124.blk (e119.blk (n112.ext.blk H114))) (by omega))
            refine lw_v (.agg #[.int .u64 (wv3 ((wz a3 a2 a1 a0) * (wz y3 y2 y1 y0))), .int .u64 (wv2 ((wz a3 a2 a1 a0) * (wz y3 y2 y1 y0))), .int .u64 (wv1 ((wz a3 a2 a1 a0) * (wz y3 y2 y1 y0))), .int .u64 (wv0 ((wz a3 a2 a1 a0) * (wz y3 y2 y1 y0)))]) (dv_loads (l := [.int .u64 (wv3 ((wz a3 a2 a1 a0) * (wz y3 y2 y1 y0))), .int .u64 (wv2 ((wz a3 a2 a1 a0) * (wz y3 y2 y1 y0))), .int .u64 (wv1 ((wz a3 a2 a1 a0) * (wz y3 y2 y1 y0))), .int .u64 (wv0 ((wz a3 a2 a1 a0) * (wz y3 y2 y1 y0)))]) agt26 sz26 (T rfl rfl) H135 rfl) ?_
            refine lw_e (oe_callf (vs := [.agg #[.int .u64 (wv3 ((wz a3 a2 a1 a0) * (wz y3 y2 y1 y0))), .int .u64 (wv2 ((wz a3 a2 a1 a0) * (wz y3 y2 y1 y0))), .int .u64 (wv1 ((wz a3 a2 a1 a0) * (wz y3 y2 y1 y0))), .int .u64 (wv0 ((wz a3 a2 a1 a0) * (wz y3 y2 y1 y0)))], .agg #[.int .u64 (wv3 ((wz a3 a2 a1 a0) * (wz y3 y2 y1 y0))), .int .u64 (wv2 ((wz a3 a2 a1 a0) * (wz y3 y2 y1 y0))), .int .u64 (wv1 ((wz a3 a2 a1 a0) * (wz y3 y2 y1 y0))), .int .u64 (wv0 ((wz a3 a2 a1 a0) * (wz y3 y2 y1 y0)))]]) co24 (ar2 (T rfl rfl) (T rfl rfl)) (eqWide_ok ) ?_)
            rintro _ w136 ⟨rfl, e137⟩
            have E138 := below_ext E132 E132.size e137
            refine lw_v (.bool (decide (¬ ((wv3 ((wz a3 a2 a1 a0) * (wz y3 y2 y1 y0))) = (wv3 ((wz a3 a2 a1 a0) * (wz y3 y2 y1 y0))) ∧ (wv2 ((wz a3 a2 a1 a0) * (wz y3 y2 y1 y0))) = (wv2 ((wz a3 a2 a1 a0) * (wz y3 y2 y1 y0))) ∧ (wv1 ((wz a3 a2 a1 a0) * (wz y3 y2 y1 y0))) = (wv1 ((wz a3 a2 a1 a0) * (wz y3 y2 y1 y0))) ∧ (wv0 ((wz a3 a2 a1 a0) * (wz y3 y2 y1 y0))) = (wv0 ((wz a3 a2 a1 a0) * (wz y3 y2 y1 y0))))))) (dv_notd (p := (wv3 ((wz a3 a2 a1 a0) * (wz y3 y2 y1 y0))) = (wv3 ((wz a3 a2 a1 a0) * (wz y3 y2 y1 y0))) ∧ (wv2 ((wz a3 a2 a1 a0) * (wz y3 y2 y1 y0))) = (wv2 ((wz a3 a2 a1 a0) * (wz y3 y2 y1 y0))) ∧ (wv1 ((wz a3 a2 a1 a0) * (wz y3 y2 y1 y0))) = (wv1 ((wz a3 a2 a1 a0) * (wz y3 y2 y1 y0))) ∧ (wv0 ((wz a3 a2 a1 a0) * (wz y3 y2 y1 y0))) = (wv0 ((wz a3 a2 a1 a0) * (wz y3 y2 y1 y0)))) (T rfl rfl)) ?_
            refine lw_v (.bool (decide (¬ ((wv3 ((wz a3 a2 a1 a0) * (wz y3 y2 y1 y0))) = (wv3 ((wz a3 a2 a1 a0) * (wz y3 y2 y1 y0))) ∧ (wv2 ((wz a3 a2 a1 a0) * (wz y3 y2 y1 y0))) = (wv2 ((wz a3 a2 a1 a0) * (wz y3 y2 y1 y0))) ∧ (wv1 ((wz a3 a2 a1 a0) * (wz y3 y2 y1 y0))) = (wv1 ((wz a3 a2 a1 a0) * (wz y3 y2 y1 y0))) ∧ (wv0 ((wz a3 a2 a1 a0) * (wz y3 y2 y1 y0))) = (wv0 ((wz a3 a2 a1 a0) * (wz y3 y2 y1 y0))))))) (dv_move (T rfl rfl)) ?_
            by_cases hb139 : (wv3 ((wz a3 a2 a1 a0) * (wz y3 y2 y1 y0))) = (wv3 ((wz a3 a2 a1 a0) * (wz y3 y2 y1 y0))) ∧ (wv2 ((wz a3 a2 a1 a0) * (wz y3 y2 y1 y0))) = (wv2 ((wz a3 a2 a1 a0) * (wz y3 y2 y1 y0))) ∧ (wv1 ((wz a3 a2 a1 a0) * (wz y3 y2 y1 y0))) = (wv1 ((wz a3 a2 a1 a0) * (wz y3 y2 y1 y0))) ∧ (wv0 ((wz a3 a2 a1 a0) * (wz y3 y2 y1 y0))) = (wv0 ((wz a3 a2 a1 a0) * (wz y3 y2 y1 y0)))
            · -- aaaabT
              refine lw_vy (.bool (decide (fits ((wz a3 a2 a1 a0) * (wz y3 y2 y1 y0))))) (d := 29) rfl rfl (congrArg Value.bool (decide_eq_false (not_not_intro hb139))) (dv_move (T rfl rfl)) ?_
              refine lw_vy (.bool (decide (fits ((wz a3 a2 a1 a0) * (wz y3 y2 y1 y0))))) (d := 29) rfl rfl (congrArg Value.bool (decide_eq_false (not_not_intro hb139))) (dv_move (T rfl rfl)) ?_
              refine lw_vy (.bool ((decide (fits ((wz a3 a2 a1 a0) * (wz y3 y2 y1 y0)))) != (decide (fits ((wz a3 a2 a1 a0) * (wz y3 y2 y1 y0)))))) (d := 29) rfl rfl (congrArg Value.bool (decide_eq_false (not_not_intro hb139))) (dv_neqb (a := decide (fits ((wz a3 a2 a1 a0) * (wz y3 y2 y1 y0)))) (b := decide (fits ((wz a3 a2 a1 a0) * (wz y3 y2 y1 y0)))) ub4 (T rfl rfl) (T rfl rfl)) ?_
              refine lw_v (.bool ((decide (fits ((wz a3 a2 a1 a0) * (wz y3 y2 y1 y0)))) != (decide (fits ((wz a3 a2 a1 a0) * (wz y3 y2 y1 y0)))))) (dv_pick_f (T rfl (congrArg Value.bool (decide_eq_false (not_not_intro hb139)))) (T rfl rfl)) ?_
              refine lw_nil ?_
              rcases Bool.eq_false_or_eq_true ((decide (fits ((wz a3 a2 a1 a0) * (wz y3 y2 y1 y0)))) != (decide (fits ((wz a3 a2 a1 a0) * (wz y3 y2 y1 y0))))) with hb140 | hb140
              · -- aaaabTT
                refine rk_ct (T rfl (congrArg Value.bool hb140)) ?_
                refine rk_seq ?_
                refine rk_reg ?_
                refine lw_v (.bool false) (dv_assign C) ?_
                refine lw_nil ?_
                refine rk_ret Try.func11 (v := .bool false) (res1 Try.results11 (rv_tmp rfl rfl)) ⟨_, rfl, ?_⟩
                exact ⟨(congrArg Value.bool (by grind)), E138⟩
              · -- aaaabTF
                refine rk_cf (T rfl (congrArg Value.bool hb140)) ?_
                refine rk_skip ?_
                refine rk_seq ?_
                refine rk_reg ?_
                refine lw_v (.bool true) (dv_assign C) ?_
                refine lw_nil ?_
                refine rk_ret Try.func11 (v := .bool true) (res1 Try.results11 (rv_tmp rfl rfl)) ⟨_, rfl, ?_⟩
                exact ⟨rfl, E138⟩
            · -- aaaabF
              refine lw_no (d := 29) rfl rfl (congrArg Value.bool (decide_eq_true hb139)) ?_
              refine lw_no (d := 29) rfl rfl (congrArg Value.bool (decide_eq_true hb139)) ?_
              refine lw_no (d := 29) rfl rfl (congrArg Value.bool (decide_eq_true hb139)) ?_
              refine lw_v (.bool true) (dv_pick_t (T rfl (congrArg Value.bool (decide_eq_true hb139))) C) ?_
              refine lw_nil ?_
              refine rk_ct (T rfl rfl) ?_
              refine rk_seq ?_
              refine rk_reg ?_
              refine lw_v (.bool false) (dv_assign C) ?_
              refine lw_nil ?_
              refine rk_ret Try.func11 (v := .bool false) (res1 Try.results11 (rv_tmp rfl rfl)) ⟨_, rfl, ?_⟩
              exact ⟨(congrArg Value.bool (by grind)), E138⟩
        · -- aaab
          refine id (oe_alloc ze26 ?_)
          intro b141 w142 n143
          have N144 : w.heap.size ≤ b141 := n143.eq ▸ E46.size
          have H145 := (d45.ext.blk H40)
          have : b31 < b141 := n143.eq ▸ lt_of_blk H145
          have E146 := below_ext E46 E46.size n143.ext
          have H147 := (n143.ext.blk H47)
          have H148 := (n143.ext.blk H48)
          refine ⟨.inr ⟨H147, H148⟩, ?_⟩
          refine aw_one 1 rfl (by kernel_rfl) .none (oe_callf (vs := [.agg #[.int .u64 a3, .int .u64 a2, .int .u64 a1, .int .u64 a0]]) co16 (ar1 (T rfl rfl)) (toWide_ok ) ?_)
          rintro _ w149 ⟨rfl, e150⟩
          have E151 := below_ext E146 E146.size e150
          have H152 := (e150.blk H147)
          have H153 := (e150.blk H148)
          refine ⟨.inr ⟨H152, H153⟩, ?_⟩
          refine aw_one 3 rfl (by kernel_rfl) .none (oe_callf (vs := [.agg #[.int .u64 y3, .int .u64 y2, .int .u64 y1, .int .u64 y0]]) co16 (ar1 (T rfl rfl)) (toWide_ok ) ?_)
          rintro _ w154 ⟨rfl, e155⟩
          have E156 := below_ext E151 E151.size e155
          have H157 := (e155.blk H152)
          have H158 := (e155.blk H153)
          refine ⟨.inr ⟨H157, H158⟩, ?_⟩
          refine aw_one 4 rfl (by kernel_rfl) .none (oe_callf (vs := [.agg #[.int .u64 a3, .int .u64 a2, .int .u64 a1, .int .u64 a0], .agg #[.int .u64 y3, .int .u64 y2, .int .u64 y1, .int .u64 y0]]) co36 (ar2 (T rfl rfl) (T rfl rfl)) (iWideMul_ok (by omega) (by omega) (by omega) (by omega) (by omega) (by omega) (by omega) (by omega)) ?_)
          rintro _ w159 ⟨rfl, e160⟩
          have E161 := below_ext E156 E156.size e160
          have H162 := (e160.blk H157)
          have H163 := (e160.blk H158)
          refine ⟨.inr ⟨H162, H163⟩, ?_⟩
          refine aw_pure 5 (.tuple #[.agg #[.int .u64 (wv3 ((wz a3 a2 a1 a0) * (wz y3 y2 y1 y0))), .int .u64 (wv2 ((wz a3 a2 a1 a0) * (wz y3 y2 y1 y0))), .int .u64 (wv1 ((wz a3 a2 a1 a0) * (wz y3 y2 y1 y0))), .int .u64 (wv0 ((wz a3 a2 a1 a0) * (wz y3 y2 y1 y0)))], .bool (decide (fits ((wz a3 a2 a1 a0) * (wz y3 y2 y1 y0))))]) rfl (by kernel_rfl) .none ⟨H162, H163⟩ (fun _ => dv_move (T rfl rfl)) ?_
          refine aw_pure 6 (.agg #[.int .u64 (wv3 ((wz a3 a2 a1 a0) * (wz y3 y2 y1 y0))), .int .u64 (wv2 ((wz a3 a2 a1 a0) * (wz y3 y2 y1 y0))), .int .u64 (wv1 ((wz a3 a2 a1 a0) * (wz y3 y2 y1 y0))), .int .u64 (wv0 ((wz a3 a2 a1 a0) * (wz y3 y2 y1 y0)))]) rfl (by kernel_rfl) .none ⟨H162, H163⟩ (fun _ => dv_extract (vs := #[.agg #[.int .u64 (wv3 ((wz a3 a2 a1 a0) * (wz y3 y2 y1 y0))), .int .u64 (wv2 ((wz a3 a2 a1 a0) * (wz y3 y2 y1 y0))), .int .u64 (wv1 ((wz a3 a2 a1 a0) * (wz y3 y2 y1 y0))), .int .u64 (wv0 ((wz a3 a2 a1 a0) * (wz y3 y2 y1 y0)))], .bool (decide (fits ((wz a3 a2 a1 a0) * (wz y3 y2 y1 y0))))]) (T rfl rfl) rfl) ?_
          refine aw_pure 7 (.bool (decide (fits ((wz a3 a2 a1 a0) * (wz y3 y2 y1 y0))))) rfl (by kernel_rfl) .none ⟨H162, H163⟩ (fun _ => dv_extract (vs := #[.agg #[.int .u64 (wv3 ((wz a3 a2 a1 a0) * (wz y3 y2 y1 y0))), .int .u64 (wv2 ((wz a3 a2 a1 a0) * (wz y3 y2 y1 y0))), .int .u64 (wv1 ((wz a3 a2 a1 a0) * (wz y3 y2 y1 y0))), .int .u64 (wv0 ((wz a3 a2 a1 a0) * (wz y3 y2 y1 y0)))], .bool (decide (fits ((wz a3 a2 a1 a0) * (wz y3 y2 y1 y0))))]) (T rfl rfl) rfl) ?_
          have H164 := (e160.blk (e155.blk (e150.blk n143.blk)))
          refine aw_one 9 rfl (by kernel_rfl) .none (oe_store (v := .agg #[.int .u64 (wv3 ((wz a3 a2 a1 a0) * (wz y3 y2 y1 y0))), .int .u64 (wv2 ((wz a3 a2 a1 a0) * (wz y3 y2 y1 y0))), .int .u64 (wv1 ((wz a3 a2 a1 a0) * (wz y3 y2 y1 y0))), .int .u64 (wv0 ((wz a3 a2 a1 a0) * (wz y3 y2 y1 y0)))]) (vs := [.int .u64 (wv3 ((wz a3 a2 a1 a0) * (wz y3 y2 y1 y0))), .int .u64 (wv2 ((wz a3 a2 a1 a0) * (wz y3 y2 y1 y0))), .int .u64 (wv1 ((wz a3 a2 a1 a0) * (wz y3 y2 y1 y0))), .int .u64 (wv0 ((wz a3 a2 a1 a0) * (wz y3 y2 y1 y0)))]) (l := [.int .u64 (wv3 ((wz a3 a2 a1 a0) * (wz y3 y2 y1 y0))), .int .u64 (wv2 ((wz a3 a2 a1 a0) * (wz y3 y2 y1 y0))), .int .u64 (wv1 ((wz a3 a2 a1 a0) * (wz y3 y2 y1 y0))), .int .u64 (wv0 ((wz a3 a2 a1 a0) * (wz y3 y2 y1 y0)))]) (T rfl rfl) (T rfl rfl) sz26 rfl rfl rfl H164 rfl ?_)
          intro w165 s166 H167
          have E168 := below_st E161 N144 s166
          have H169 := (s166.blk H162 (by omega))
          have H170 := (s166.blk H163 (by omega))
          refine ⟨.inr ⟨H169, H170⟩, ?_⟩
          refine aw_last 10 (.bool (decide (fits ((wz a3 a2 a1 a0) * (wz y3 y2 y1 y0))))) rfl (by kernel_rfl) .none (fun _ => dv_assign (T rfl rfl)) ?_
          refine aw_done (by kernel_rfl) ?_
          refine rk_seq ?_
          refine rk_seq ?_
          refine rk_reg ?_
          refine lw_v (.agg #[.int .u64 (wv3 ((wz a3 a2 a1 a0) * (wz y3 y2 y1 y0))), .int .u64 (wv2 ((wz a3 a2 a1 a0) * (wz y3 y2 y1 y0))), .int .u64 (wv1 ((wz a3 a2 a1 a0) * (wz y3 y2 y1 y0))), .int .u64 (wv0 ((wz a3 a2 a1 a0) * (wz y3 y2 y1 y0)))]) (dv_loads (l := [.int .u64 (wv3 ((wz a3 a2 a1 a0) * (wz y3 y2 y1 y0))), .int .u64 (wv2 ((wz a3 a2 a1 a0) * (wz y3 y2 y1 y0))), .int .u64 (wv1 ((wz a3 a2 a1 a0) * (wz y3 y2 y1 y0))), .int .u64 (wv0 ((wz a3 a2 a1 a0) * (wz y3 y2 y1 y0)))]) agt26 sz26 (T rfl rfl) H167 rfl) ?_
          have H171 := (s166.blk (e160.blk (e155.blk (e150.blk (n143.ext.blk H145)))) (by omega))
          refine lw_v (.agg #[.int .u64 (wv3 ((wz a3 a2 a1 a0) * (wz y3 y2 y1 y0))), .int .u64 (wv2 ((wz a3 a2 a1 a0) * (wz y3 y2 y1 y0))), .int .u64 (wv1 ((wz a3 a2 a1 a0) * (wz y3 y2 y1 y0))), .int .u64 (wv0 ((wz a3 a2 a1 a0) * (wz y3 y2 y1 y0)))]) (dv_loads (l := [.int .u64 (wv3 ((wz a3 a2 a1 a0) * (wz y3 y2 y1 y0))), .int .u64 (wv2 ((wz a3 a2 a1 a0) * (wz y3 y2 y1 y0))), .int .u64 (wv1 ((wz a3 a2 a1 a0) * (wz y3 y2 y1 y0))), .int .u64 (wv0 ((wz a3 a2 a1 a0) * (wz y3 y2 y1 y0)))]) agt26 sz26 (T rfl rfl) H171 rfl) ?_
          refine lw_e (oe_callf (vs := [.agg #[.int .u64 (wv3 ((wz a3 a2 a1 a0) * (wz y3 y2 y1 y0))), .int .u64 (wv2 ((wz a3 a2 a1 a0) * (wz y3 y2 y1 y0))), .int .u64 (wv1 ((wz a3 a2 a1 a0) * (wz y3 y2 y1 y0))), .int .u64 (wv0 ((wz a3 a2 a1 a0) * (wz y3 y2 y1 y0)))], .agg #[.int .u64 (wv3 ((wz a3 a2 a1 a0) * (wz y3 y2 y1 y0))), .int .u64 (wv2 ((wz a3 a2 a1 a0) * (wz y3 y2 y1 y0))), .int .u64 (wv1 ((wz a3 a2 a1 a0) * (wz y3 y2 y1 y0))), .int .u64 (wv0 ((wz a3 a2 a1 a0) * (wz y3 y2 y1 y0)))]]) co24 (ar2 (T rfl rfl) (T rfl rfl)) (eqWide_ok ) ?_)
          rintro _ w172 ⟨rfl, e173⟩
          have E174 := below_ext E168 E168.size e173
          refine lw_v (.bool (decide (¬ ((wv3 ((wz a3 a2 a1 a0) * (wz y3 y2 y1 y0))) = (wv3 ((wz a3 a2 a1 a0) * (wz y3 y2 y1 y0))) ∧ (wv2 ((wz a3 a2 a1 a0) * (wz y3 y2 y1 y0))) = (wv2 ((wz a3 a2 a1 a0) * (wz y3 y2 y1 y0))) ∧ (wv1 ((wz a3 a2 a1 a0) * (wz y3 y2 y1 y0))) = (wv1 ((wz a3 a2 a1 a0) * (wz y3 y2 y1 y0))) ∧ (wv0 ((wz a3 a2 a1 a0) * (wz y3 y2 y1 y0))) = (wv0 ((wz a3 a2 a1 a0) * (wz y3 y2 y1 y0))))))) (dv_notd (p := (wv3 ((wz a3 a2 a1 a0) * (wz y3 y2 y1 y0))) = (wv3 ((wz a3 a2 a1 a0) * (wz y3 y2 y1 y0))) ∧ (wv2 ((wz a3 a2 a1 a0) * (wz y3 y2 y1 y0))) = (wv2 ((wz a3 a2 a1 a0) * (wz y3 y2 y1 y0))) ∧ (wv1 ((wz a3 a2 a1 a0) * (wz y3 y2 y1 y0))) = (wv1 ((wz a3 a2 a1 a0) * (wz y3 y2 y1 y0))) ∧ (wv0 ((wz a3 a2 a1 a0) * (wz y3 y2 y1 y0))) = (wv0 ((wz a3 a2 a1 a0) * (wz y3 y2 y1 y0)))) (T rfl rfl)) ?_
          refine lw_v (.bool (decide (¬ ((wv3 ((wz a3 a2 a1 a0) * (wz y3 y2 y1 y0))) = (wv3 ((wz a3 a2 a1 a0) * (wz y3 y2 y1 y0))) ∧ (wv2 ((wz a3 a2 a1 a0) * (wz y3 y2 y1 y0))) = (wv2 ((wz a3 a2 a1 a0) * (wz y3 y2 y1 y0))) ∧ (wv1 ((wz a3 a2 a1 a0) * (wz y3 y2 y1 y0))) = (wv1 ((wz a3 a2 a1 a0) * (wz y3 y2 y1 y0))) ∧ (wv0 ((wz a3 a2 a1 a0) * (wz y3 y2 y1 y0))) = (wv0 ((wz a3 a2 a1 a0) * (wz y3 y2 y1 y0))))))) (dv_move (T rfl rfl)) ?_
          by_cases hb175 : (wv3 ((wz a3 a2 a1 a0) * (wz y3 y2 y1 y0))) = (wv3 ((wz a3 a2 a1 a0) * (wz y3 y2 y1 y0))) ∧ (wv2 ((wz a3 a2 a1 a0) * (wz y3 y2 y1 y0))) = (wv2 ((wz a3 a2 a1 a0) * (wz y3 y2 y1 y0))) ∧ (wv1 ((wz a3 a2 a1 a0) * (wz y3 y2 y1 y0))) = (wv1 ((wz a3 a2 a1 a0) * (wz y3 y2 y1 y0))) ∧ (wv0 ((wz a3 a2 a1 a0) * (wz y3 y2 y1 y0))) = (wv0 ((wz a3 a2 a1 a0) * (wz y3 y2 y1 y0)))
          · -- aaabT
            refine lw_vy (.bool (decide (fits ((wz a3 a2 a1 a0) * (wz y3 y2 y1 y0))))) (d := 29) rfl rfl (congrArg Value.bool (decide_eq_false (not_not_intro hb175))) (dv_move (T rfl rfl)) ?_
            refine lw_vy (.bool (decide (fits ((wz a3 a2 a1 a0) * (wz y3 y2 y1 y0))))) (d := 29) rfl rfl (congrArg Value.bool (decide_eq_false (not_not_intro hb175))) (dv_move (T rfl rfl)) ?_
            refine lw_vy (.bool ((decide (fits ((wz a3 a2 a1 a0) * (wz y3 y2 y1 y0)))) != (decide (fits ((wz a3 a2 a1 a0) * (wz y3 y2 y1 y0)))))) (d := 29) rfl rfl (congrArg Value.bool (decide_eq_false (not_not_intro hb175))) (dv_neqb (a := decide (fits ((wz a3 a2 a1 a0) * (wz y3 y2 y1 y0)))) (b := decide (fits ((wz a3 a2 a1 a0) * (wz y3 y2 y1 y0)))) ub4 (T rfl rfl) (T rfl rfl)) ?_
            refine lw_v (.bool ((decide (fits ((wz a3 a2 a1 a0) * (wz y3 y2 y1 y0)))) != (decide (fits ((wz a3 a2 a1 a0) * (wz y3 y2 y1 y0)))))) (dv_pick_f (T rfl (congrArg Value.bool (decide_eq_false (not_not_intro hb175)))) (T rfl rfl)) ?_
            refine lw_nil ?_
            rcases Bool.eq_false_or_eq_true ((decide (fits ((wz a3 a2 a1 a0) * (wz y3 y2 y1 y0)))) != (decide (fits ((wz a3 a2 a1 a0) * (wz y3 y2 y1 y0))))) with hb176 | hb176
            · -- aaabTT
              refine rk_ct (T rfl (congrArg Value.bool hb176)) ?_
              refine rk_seq ?_
              refine rk_reg ?_
              refine lw_v (.bool false) (dv_assign C) ?_
              refine lw_nil ?_
              refine rk_ret Try.func11 (v := .bool false) (res1 Try.results11 (rv_tmp rfl rfl)) ⟨_, rfl, ?_⟩
              exact ⟨(congrArg Value.bool (by grind)), E174⟩
            · -- aaabTF
              refine rk_cf (T rfl (congrArg Value.bool hb176)) ?_
              refine rk_skip ?_
              refine rk_seq ?_
              refine rk_reg ?_
              refine lw_v (.bool true) (dv_assign C) ?_
              refine lw_nil ?_
              refine rk_ret Try.func11 (v := .bool true) (res1 Try.results11 (rv_tmp rfl rfl)) ⟨_, rfl, ?_⟩
              exact ⟨rfl, E174⟩
          · -- aaabF
            refine lw_no (d := 29) rfl rfl (congrArg Value.bool (decide_eq_true hb175)) ?_
            refine lw_no (d := 29) rfl rfl (congrArg Value.bool (decide_eq_true hb175)) ?_
            refine lw_no (d := 29) rfl rfl (congrArg Value.bool (decide_eq_true hb175)) ?_
            refine lw_v (.bool true) (dv_pick_t (T rfl (congrArg Value.bool (decide_eq_true hb175))) C) ?_
            refine lw_nil ?_
            refine rk_ct (T rfl rfl) ?_
            refine rk_seq ?_
            refine rk_reg ?_
            refine lw_v (.bool false) (dv_assign C) ?_
            refine lw_nil ?_
            refine rk_ret Try.func11 (v := .bool false) (res1 Try.results11 (rv_tmp rfl rfl)) ⟨_, rfl, ?_⟩
            exact ⟨(congrArg Value.bool (by grind)), E174⟩
      · -- aab
        refine id (oe_alloc ze26 ?_)
        intro b177 w178 n179
        have N180 : w.heap.size ≤ b177 := n179.eq ▸ E23.size
        have : b6 < b177 := n179.eq ▸ lt_of_blk H25
        have E181 := below_ext E23 E23.size n179.ext
        have H182 := (n179.ext.blk H24)
        have H183 := (n179.ext.blk H25)
        refine ⟨.inr ⟨H182, H183⟩, ?_⟩
        refine aw_one 4 rfl (by kernel_rfl) .none (oe_callf (vs := [.agg #[.int .u64 a3, .int .u64 a2, .int .u64 a1, .int .u64 a0], .agg #[.int .u64 y3, .int .u64 y2, .int .u64 y1, .int .u64 y0]]) co35 (ar2 (T rfl rfl) (T rfl rfl)) (sWideMul_ok (by omega) (by omega) (by omega) (by omega) (by omega) (by omega) (by omega) (by omega)) ?_)
        rintro _ w184 ⟨rfl, e185⟩
        have E186 := below_ext E181 E181.size e185
        have H187 := (e185.blk H182)
        have H188 := (e185.blk H183)
        refine ⟨.inr ⟨H187, H188⟩, ?_⟩
        refine aw_pure 5 (.tuple #[.agg #[.int .u64 (wv3 ((wz a3 a2 a1 a0) * (wz y3 y2 y1 y0))), .int .u64 (wv2 ((wz a3 a2 a1 a0) * (wz y3 y2 y1 y0))), .int .u64 (wv1 ((wz a3 a2 a1 a0) * (wz y3 y2 y1 y0))), .int .u64 (wv0 ((wz a3 a2 a1 a0) * (wz y3 y2 y1 y0)))], .bool (decide (fits ((wz a3 a2 a1 a0) * (wz y3 y2 y1 y0))))]) rfl (by kernel_rfl) .none ⟨H187, H188⟩ (fun _ => dv_move (T rfl rfl)) ?_
        refine aw_pure 6 (.agg #[.int .u64 (wv3 ((wz a3 a2 a1 a0) * (wz y3 y2 y1 y0))), .int .u64 (wv2 ((wz a3 a2 a1 a0) * (wz y3 y2 y1 y0))), .int .u64 (wv1 ((wz a3 a2 a1 a0) * (wz y3 y2 y1 y0))), .int .u64 (wv0 ((wz a3 a2 a1 a0) * (wz y3 y2 y1 y0)))]) rfl (by kernel_rfl) .none ⟨H187, H188⟩ (fun _ => dv_extract (vs := #[.agg #[.int .u64 (wv3 ((wz a3 a2 a1 a0) * (wz y3 y2 y1 y0))), .int .u64 (wv2 ((wz a3 a2 a1 a0) * (wz y3 y2 y1 y0))), .int .u64 (wv1 ((wz a3 a2 a1 a0) * (wz y3 y2 y1 y0))), .int .u64 (wv0 ((wz a3 a2 a1 a0) * (wz y3 y2 y1 y0)))], .bool (decide (fits ((wz a3 a2 a1 a0) * (wz y3 y2 y1 y0))))]) (T rfl rfl) rfl) ?_
        refine aw_pure 7 (.bool (decide (fits ((wz a3 a2 a1 a0) * (wz y3 y2 y1 y0))))) rfl (by kernel_rfl) .none ⟨H187, H188⟩ (fun _ => dv_extract (vs := #[.agg #[.int .u64 (wv3 ((wz a3 a2 a1 a0) * (wz y3 y2 y1 y0))), .int .u64 (wv2 ((wz a3 a2 a1 a0) * (wz y3 y2 y1 y0))), .int .u64 (wv1 ((wz a3 a2 a1 a0) * (wz y3 y2 y1 y0))), .int .u64 (wv0 ((wz a3 a2 a1 a0) * (wz y3 y2 y1 y0)))], .bool (decide (fits ((wz a3 a2 a1 a0) * (wz y3 y2 y1 y0))))]) (T rfl rfl) rfl) ?_
        have H189 := (e185.blk n179.blk)
        refine aw_one 9 rfl (by kernel_rfl) .none (oe_store (v := .agg #[.int .u64 (wv3 ((wz a3 a2 a1 a0) * (wz y3 y2 y1 y0))), .int .u64 (wv2 ((wz a3 a2 a1 a0) * (wz y3 y2 y1 y0))), .int .u64 (wv1 ((wz a3 a2 a1 a0) * (wz y3 y2 y1 y0))), .int .u64 (wv0 ((wz a3 a2 a1 a0) * (wz y3 y2 y1 y0)))]) (vs := [.int .u64 (wv3 ((wz a3 a2 a1 a0) * (wz y3 y2 y1 y0))), .int .u64 (wv2 ((wz a3 a2 a1 a0) * (wz y3 y2 y1 y0))), .int .u64 (wv1 ((wz a3 a2 a1 a0) * (wz y3 y2 y1 y0))), .int .u64 (wv0 ((wz a3 a2 a1 a0) * (wz y3 y2 y1 y0)))]) (l := [.int .u64 (wv3 ((wz a3 a2 a1 a0) * (wz y3 y2 y1 y0))), .int .u64 (wv2 ((wz a3 a2 a1 a0) * (wz y3 y2 y1 y0))), .int .u64 (wv1 ((wz a3 a2 a1 a0) * (wz y3 y2 y1 y0))), .int .u64 (wv0 ((wz a3 a2 a1 a0) * (wz y3 y2 y1 y0)))]) (T rfl rfl) (T rfl rfl) sz26 rfl rfl rfl H189 rfl ?_)
        intro w190 s191 H192
        have E193 := below_st E186 N180 s191
        have H194 := (s191.blk H187 (by omega))
        have H195 := (s191.blk H188 (by omega))
        refine ⟨.inr ⟨H194, H195⟩, ?_⟩
        refine aw_last 10 (.bool (decide (fits ((wz a3 a2 a1 a0) * (wz y3 y2 y1 y0))))) rfl (by kernel_rfl) .none (fun _ => dv_assign (T rfl rfl)) ?_
        refine aw_done (by kernel_rfl) ?_
        refine rk_seq ?_
        refine rk_any (fun w => w.heap[b1]? = some (.cells #[.int .u64 a3, .int .u64 a2, .int .u64 a1, .int .u64 a0] 24) ∧ w.heap[b6]? = some (.cells #[.int .u64 y3, .int .u64 y2, .int .u64 y1, .int .u64 y0] 24)) [10] mo ?_
        intro w196 d197
        have E198 := below_ext E193 E193.size d197.ext
        have H199 := (d197.ext.blk H194)
        have H200 := (d197.ext.blk H195)
        refine aw_load 0 (.agg #[.int .u64 a3, .int .u64 a2, .int .u64 a1, .int .u64 a0]) rfl (by kernel_rfl) .none ⟨H199, H200⟩ (fun _ s => dv_loads (l := [.int .u64 a3, .int .u64 a2, .int .u64 a1, .int .u64 a0]) agt24 sz24 (T rfl rfl) s.1 rfl) ?_
        refine aw_load 2 (.agg #[.int .u64 y3, .int .u64 y2, .int .u64 y1, .int .u64 y0]) rfl (by kernel_rfl) .none ⟨H199, H200⟩ (fun _ s => dv_loads (l := [.int .u64 y3, .int .u64 y2, .int .u64 y1, .int .u64 y0]) agt24 sz24 (T rfl rfl) s.2 rfl) ?_
        refine aw_two 1 8 rfl rfl (by kernel_rfl) .none .none ?_ ?_
        · -- aaba
          refine id (oe_callf (vs := [.agg #[.int .u64 a3, .int .u64 a2, .int .u64 a1, .int .u64 a0]]) co16 (ar1 (T rfl rfl)) (toWide_ok ) ?_)
          rintro _ w201 ⟨rfl, e202⟩
          have E203 := below_ext E198 E198.size e202
          have H204 := (e202.blk H199)
          have H205 := (e202.blk H200)
          refine ⟨.inr ⟨H204, H205⟩, ?_⟩
          refine aw_two 3 8 rfl rfl (by kernel_rfl) .none .none ?_ ?_
          · -- aabaa
            refine id (oe_callf (vs := [.agg #[.int .u64 y3, .int .u64 y2, .int .u64 y1, .int .u64 y0]]) co16 (ar1 (T rfl rfl)) (toWide_ok ) ?_)
            rintro _ w206 ⟨rfl, e207⟩
            have E208 := below_ext E203 E203.size e207
            have H209 := (e207.blk H204)
            have H210 := (e207.blk H205)
            refine ⟨.inr ⟨H209, H210⟩, ?_⟩
            refine aw_two 4 8 rfl rfl (by kernel_rfl) .none .none ?_ ?_
            · -- aabaaa
              refine id (oe_callf (vs := [.agg #[.int .u64 a3, .int .u64 a2, .int .u64 a1, .int .u64 a0], .agg #[.int .u64 y3, .int .u64 y2, .int .u64 y1, .int .u64 y0]]) co36 (ar2 (T rfl rfl) (T rfl rfl)) (iWideMul_ok (by omega) (by omega) (by omega) (by omega) (by omega) (by omega) (by omega) (by omega)) ?_)
              rintro _ w211 ⟨rfl, e212⟩
              have E213 := below_ext E208 E208.size e212
              have H214 := (e212.blk H209)
              have H215 := (e212.blk H210)
              refine ⟨.inr ⟨H214, H215⟩, ?_⟩
              refine aw_pure 5 (.tuple #[.agg #[.int .u64 (wv3 ((wz a3 a2 a1 a0) * (wz y3 y2 y1 y0))), .int .u64 (wv2 ((wz a3 a2 a1 a0) * (wz y3 y2 y1 y0))), .int .u64 (wv1 ((wz a3 a2 a1 a0) * (wz y3 y2 y1 y0))), .int .u64 (wv0 ((wz a3 a2 a1 a0) * (wz y3 y2 y1 y0)))], .bool (decide (fits ((wz a3 a2 a1 a0) * (wz y3 y2 y1 y0))))]) rfl (by kernel_rfl) .none ⟨H214, H215⟩ (fun _ => dv_move (T rfl rfl)) ?_
              refine aw_pure 6 (.agg #[.int .u64 (wv3 ((wz a3 a2 a1 a0) * (wz y3 y2 y1 y0))), .int .u64 (wv2 ((wz a3 a2 a1 a0) * (wz y3 y2 y1 y0))), .int .u64 (wv1 ((wz a3 a2 a1 a0) * (wz y3 y2 y1 y0))), .int .u64 (wv0 ((wz a3 a2 a1 a0) * (wz y3 y2 y1 y0)))]) rfl (by kernel_rfl) .none ⟨H214, H215⟩ (fun _ => dv_extract (vs := #[.agg #[.int .u64 (wv3 ((wz a3 a2 a1 a0) * (wz y3 y2 y1 y0))), .int .u64 (wv2 ((wz a3 a2 a1 a0) * (wz y3 y2 y1 y0))), .int .u64 (wv1 ((wz a3 a2 a1 a0) * (wz y3 y2 y1 y0))), .int .u64 (wv0 ((wz a3 a2 a1 a0) * (wz y3 y2 y1 y0)))], .bool (decide (fits ((wz a3 a2 a1 a0) * (wz y3 y2 y1 y0))))]) (T rfl rfl) rfl) ?_
              refine aw_pure 7 (.bool (decide (fits ((wz a3 a2 a1 a0) * (wz y3 y2 y1 y0))))) rfl (by kernel_rfl) .none ⟨H214, H215⟩ (fun _ => dv_extract (vs := #[.agg #[.int .u64 (wv3 ((wz a3 a2 a1 a0) * (wz y3 y2 y1 y0))), .int .u64 (wv2 ((wz a3 a2 a1 a0) * (wz y3 y2 y1 y0))), .int .u64 (wv1 ((wz a3 a2 a1 a0) * (wz y3 y2 y1 y0))), .int .u64 (wv0 ((wz a3 a2 a1 a0) * (wz y3 y2 y1 y0)))], .bool (decide (fits ((wz a3 a2 a1 a0) * (wz y3 y2 y1 y0))))]) (T rfl rfl) rfl) ?_
              refine aw_one 8 rfl (by kernel_rfl) .none (oe_alloc ze26 ?_)
              intro b216 w217 n218
              have N219 : w.heap.size ≤ b216 := n218.eq ▸ E213.size
              have H220 := (e212.blk (e207.blk (e202.blk (d197.ext.blk H192))))
              have : b177 < b216 := n218.eq ▸ lt_of_blk H220
              have E221 := below_ext E213 E213.size n218.ext
              have H222 := (n218.ext.blk H214)
              have H223 := (n218.ext.blk H215)
              refine ⟨.inr ⟨H222, H223⟩, ?_⟩
              refine aw_one 9 rfl (by kernel_rfl) .none (oe_store (v := .agg #[.int .u64 (wv3 ((wz a3 a2 a1 a0) * (wz y3 y2 y1 y0))), .int .u64 (wv2 ((wz a3 a2 a1 a0) * (wz y3 y2 y1 y0))), .int .u64 (wv1 ((wz a3 a2 a1 a0) * (wz y3 y2 y1 y0))), .int .u64 (wv0 ((wz a3 a2 a1 a0) * (wz y3 y2 y1 y0)))]) (vs := [.int .u64 (wv3 ((wz a3 a2 a1 a0) * (wz y3 y2 y1 y0))), .int .u64 (wv2 ((wz a3 a2 a1 a0) * (wz y3 y2 y1 y0))), .int .u64 (wv1 ((wz a3 a2 a1 a0) * (wz y3 y2 y1 y0))), .int .u64 (wv0 ((wz a3 a2 a1 a0) * (wz y3 y2 y1 y0)))]) (l := [.int .u64 (wv3 ((wz a3 a2 a1 a0) * (wz y3 y2 y1 y0))), .int .u64 (wv2 ((wz a3 a2 a1 a0) * (wz y3 y2 y1 y0))), .int .u64 (wv1 ((wz a3 a2 a1 a0) * (wz y3 y2 y1 y0))), .int .u64 (wv0 ((wz a3 a2 a1 a0) * (wz y3 y2 y1 y0)))]) (T rfl rfl) (T rfl rfl) sz26 rfl rfl rfl n218.blk rfl ?_)
              intro w224 s225 H226
              have E227 := below_st E221 N219 s225
              have H228 := (s225.blk H222 (by omega))
              have H229 := (s225.blk H223 (by omega))
              refine ⟨.inr ⟨H228, H229⟩, ?_⟩
              refine aw_last 10 (.bool (decide (fits ((wz a3 a2 a1 a0) * (wz y3 y2 y1 y0))))) rfl (by kernel_rfl) .none (fun _ => dv_assign (T rfl rfl)) ?_
              refine aw_done (by kernel_rfl) ?_
              refine rk_seq ?_
              refine rk_seq ?_
              refine rk_reg ?_
              refine lw_v (.agg #[.int .u64 (wv3 ((wz a3 a2 a1 a0) * (wz y3 y2 y1 y0))), .int .u64 (wv2 ((wz a3 a2 a1 a0) * (wz y3 y2 y1 y0))), .int .u64 (wv1 ((wz a3 a2 a1 a0) * (wz y3 y2 y1 y0))), .int .u64 (wv0 ((wz a3 a2 a1 a0) * (wz y3 y2 y1 y0)))]) (dv_loads (l := [.int .u64 (wv3 ((wz a3 a2 a1 a0) * (wz y3 y2 y1 y0))), .int .u64 (wv2 ((wz a3 a2 a1 a0) * (wz y3 y2 y1 y0))), .int .u64 (wv1 ((wz a3 a2 a1 a0) * (wz y3 y2 y1 y0))), .int .u64 (wv0 ((wz a3 a2 a1 a0) * (wz y3 y2 y1 y0)))]) agt26 sz26 (T rfl rfl) H226 rfl) ?_
              have H230 := (s225.blk (n218.ext.blk H220) (by omega))
              refine lw_v (.agg #[.int .u64 (wv3 ((wz a3 a2 a1 a0) * (wz y3 y2 y1 y0))), .int .u64 (wv2 ((wz a3 a2 a1 a0) * (wz y3 y2 y1 y0))), .int .u64 (wv1 ((wz a3 a2 a1 a0) * (wz y3 y2 y1 y0))), .int .u64 (wv0 ((wz a3 a2 a1 a0) * (wz y3 y2 y1 y0)))]) (dv_loads (l := [.int .u64 (wv3 ((wz a3 a2 a1 a0) * (wz y3 y2 y1 y0))), .int .u64 (wv2 ((wz a3 a2 a1 a0) * (wz y3 y2 y1 y0))), .int .u64 (wv1 ((wz a3 a2 a1 a0) * (wz y3 y2 y1 y0))), .int .u64 (wv0 ((wz a3 a2 a1 a0) * (wz y3 y2 y1 y0)))]) agt26 sz26 (T rfl rfl) H230 rfl) ?_
              refine lw_e (oe_callf (vs := [.agg #[.int .u64 (wv3 ((wz a3 a2 a1 a0) * (wz y3 y2 y1 y0))), .int .u64 (wv2 ((wz a3 a2 a1 a0) * (wz y3 y2 y1 y0))), .int .u64 (wv1 ((wz a3 a2 a1 a0) * (wz y3 y2 y1 y0))), .int .u64 (wv0 ((wz a3 a2 a1 a0) * (wz y3 y2 y1 y0)))], .agg #[.int .u64 (wv3 ((wz a3 a2 a1 a0) * (wz y3 y2 y1 y0))), .int .u64 (wv2 ((wz a3 a2 a1 a0) * (wz y3 y2 y1 y0))), .int .u64 (wv1 ((wz a3 a2 a1 a0) * (wz y3 y2 y1 y0))), .int .u64 (wv0 ((wz a3 a2 a1 a0) * (wz y3 y2 y1 y0)))]]) co24 (ar2 (T rfl rfl) (T rfl rfl)) (eqWide_ok ) ?_)
              rintro _ w231 ⟨rfl, e232⟩
              have E233 := below_ext E227 E227.size e232
              refine lw_v (.bool (decide (¬ ((wv3 ((wz a3 a2 a1 a0) * (wz y3 y2 y1 y0))) = (wv3 ((wz a3 a2 a1 a0) * (wz y3 y2 y1 y0))) ∧ (wv2 ((wz a3 a2 a1 a0) * (wz y3 y2 y1 y0))) = (wv2 ((wz a3 a2 a1 a0) * (wz y3 y2 y1 y0))) ∧ (wv1 ((wz a3 a2 a1 a0) * (wz y3 y2 y1 y0))) = (wv1 ((wz a3 a2 a1 a0) * (wz y3 y2 y1 y0))) ∧ (wv0 ((wz a3 a2 a1 a0) * (wz y3 y2 y1 y0))) = (wv0 ((wz a3 a2 a1 a0) * (wz y3 y2 y1 y0))))))) (dv_notd (p := (wv3 ((wz a3 a2 a1 a0) * (wz y3 y2 y1 y0))) = (wv3 ((wz a3 a2 a1 a0) * (wz y3 y2 y1 y0))) ∧ (wv2 ((wz a3 a2 a1 a0) * (wz y3 y2 y1 y0))) = (wv2 ((wz a3 a2 a1 a0) * (wz y3 y2 y1 y0))) ∧ (wv1 ((wz a3 a2 a1 a0) * (wz y3 y2 y1 y0))) = (wv1 ((wz a3 a2 a1 a0) * (wz y3 y2 y1 y0))) ∧ (wv0 ((wz a3 a2 a1 a0) * (wz y3 y2 y1 y0))) = (wv0 ((wz a3 a2 a1 a0) * (wz y3 y2 y1 y0)))) (T rfl rfl)) ?_
              refine lw_v (.bool (decide (¬ ((wv3 ((wz a3 a2 a1 a0) * (wz y3 y2 y1 y0))) = (wv3 ((wz a3 a2 a1 a0) * (wz y3 y2 y1 y0))) ∧ (wv2 ((wz a3 a2 a1 a0) * (wz y3 y2 y1 y0))) = (wv2 ((wz a3 a2 a1 a0) * (wz y3 y2 y1 y0))) ∧ (wv1 ((wz a3 a2 a1 a0) * (wz y3 y2 y1 y0))) = (wv1 ((wz a3 a2 a1 a0) * (wz y3 y2 y1 y0))) ∧ (wv0 ((wz a3 a2 a1 a0) * (wz y3 y2 y1 y0))) = (wv0 ((wz a3 a2 a1 a0) * (wz y3 y2 y1 y0))))))) (dv_move (T rfl rfl)) ?_
              by_cases hb234 : (wv3 ((wz a3 a2 a1 a0) * (wz y3 y2 y1 y0))) = (wv3 ((wz a3 a2 a1 a0) * (wz y3 y2 y1 y0))) ∧ (wv2 ((wz a3 a2 a1 a0) * (wz y3 y2 y1 y0))) = (wv2 ((wz a3 a2 a1 a0) * (wz y3 y2 y1 y0))) ∧ (wv1 ((wz a3 a2 a1 a0) * (wz y3 y2 y1 y0))) = (wv1 ((wz a3 a2 a1 a0) * (wz y3 y2 y1 y0))) ∧ (wv0 ((wz a3 a2 a1 a0) * (wz y3 y2 y1 y0))) = (wv0 ((wz a3 a2 a1 a0) * (wz y3 y2 y1 y0)))
              · -- aabaaaT
                refine lw_vy (.bool (decide (fits ((wz a3 a2 a1 a0) * (wz y3 y2 y1 y0))))) (d := 29) rfl rfl (congrArg Value.bool (decide_eq_false (not_not_intro hb234))) (dv_move (T rfl rfl)) ?_
                refine lw_vy (.bool (decide (fits ((wz a3 a2 a1 a0) * (wz y3 y2 y1 y0))))) (d := 29) rfl rfl (congrArg Value.bool (decide_eq_false (not_not_intro hb234))) (dv_move (T rfl rfl)) ?_
                refine lw_vy (.bool ((decide (fits ((wz a3 a2 a1 a0) * (wz y3 y2 y1 y0)))) != (decide (fits ((wz a3 a2 a1 a0) * (wz y3 y2 y1 y0)))))) (d := 29) rfl rfl (congrArg Value.bool (decide_eq_false (not_not_intro hb234))) (dv_neqb (a := decide (fits ((wz a3 a2 a1 a0) * (wz y3 y2 y1 y0)))) (b := decide (fits ((wz a3 a2 a1 a0) * (wz y3 y2 y1 y0)))) ub4 (T rfl rfl) (T rfl rfl)) ?_
                refine lw_v (.bool ((decide (fits ((wz a3 a2 a1 a0) * (wz y3 y2 y1 y0)))) != (decide (fits ((wz a3 a2 a1 a0) * (wz y3 y2 y1 y0)))))) (dv_pick_f (T rfl (congrArg Value.bool (decide_eq_false (not_not_intro hb234)))) (T rfl rfl)) ?_
                refine lw_nil ?_
                rcases Bool.eq_false_or_eq_true ((decide (fits ((wz a3 a2 a1 a0) * (wz y3 y2 y1 y0)))) != (decide (fits ((wz a3 a2 a1 a0) * (wz y3 y2 y1 y0))))) with hb235 | hb235
                · -- aabaaaTT
                  refine rk_ct (T rfl (congrArg Value.bool hb235)) ?_
                  refine rk_seq ?_
                  refine rk_reg ?_
                  refine lw_v (.bool false) (dv_assign C) ?_
                  refine lw_nil ?_
                  refine rk_ret Try.func11 (v := .bool false) (res1 Try.results11 (rv_tmp rfl rfl)) ⟨_, rfl, ?_⟩
                  exact ⟨(congrArg Value.bool (by grind)), E233⟩
                · -- aabaaaTF
                  refine rk_cf (T rfl (congrArg Value.bool hb235)) ?_
                  refine rk_skip ?_
                  refine rk_seq ?_
                  refine rk_reg ?_
                  refine lw_v (.bool true) (dv_assign C) ?_
                  refine lw_nil ?_
                  refine rk_ret Try.func11 (v := .bool true) (res1 Try.results11 (rv_tmp rfl rfl)) ⟨_, rfl, ?_⟩
                  exact ⟨rfl, E233⟩
              · -- aabaaaF
                refine lw_no (d := 29) rfl rfl (congrArg Value.bool (decide_eq_true hb234)) ?_
                refine lw_no (d := 29) rfl rfl (congrArg Value.bool (decide_eq_true hb234)) ?_
                refine lw_no (d := 29) rfl rfl (congrArg Value.bool (decide_eq_true hb234)) ?_
                refine lw_v (.bool true) (dv_pick_t (T rfl (congrArg Value.bool (decide_eq_true hb234))) C) ?_
                refine lw_nil ?_
                refine rk_ct (T rfl rfl) ?_
                refine rk_seq ?_
                refine rk_reg ?_
                refine lw_v (.bool false) (dv_assign C) ?_
                refine lw_nil ?_
                refine rk_ret Try.func11 (v := .bool false) (res1 Try.results11 (rv_tmp rfl rfl)) ⟨_, rfl, ?_⟩
                exact ⟨(congrArg Value.bool (by grind)), E233⟩
            · -- aabaab
              refine id (oe_alloc ze26 ?_)
              intro b236 w237 n238
              have N239 : w.heap.size ≤ b236 := n238.eq ▸ E208.size
              have H240 := (e207.blk (e202.blk (d197.ext.blk H192)))
              have : b177 < b236 := n238.eq ▸ lt_of_blk H240
              have E241 := below_ext E208 E208.size n238.ext
              have H242 := (n238.ext.blk H209)
              have H243 := (n238.ext.blk H210)
              refine ⟨.inr ⟨H242, H243⟩, ?_⟩
              refine aw_one 4 rfl (by kernel_rfl) .none (oe_callf (vs := [.agg #[.int .u64 a3, .int .u64 a2, .int .u64 a1, .int .u64 a0], .agg #[.int .u64 y3, .int .u64 y2, .int .u64 y1, .int .u64 y0]]) co36 (ar2 (T rfl rfl) (T rfl rfl)) (iWideMul_ok (by omega) (by omega) (by omega) (by omega) (by omega) (by omega) (by omega) (by omega)) ?_)
              rintro _ w244 ⟨rfl, e245⟩
              have E246 := below_ext E241 E241.size e245
              have H247 := (e245.blk H242)
              have H248 := (e245.blk H243)
              refine ⟨.inr ⟨H247, H248⟩, ?_⟩
              refine aw_pure 5 (.tuple #[.agg #[.int .u64 (wv3 ((wz a3 a2 a1 a0) * (wz y3 y2 y1 y0))), .int .u64 (wv2 ((wz a3 a2 a1 a0) * (wz y3 y2 y1 y0))), .int .u64 (wv1 ((wz a3 a2 a1 a0) * (wz y3 y2 y1 y0))), .int .u64 (wv0 ((wz a3 a2 a1 a0) * (wz y3 y2 y1 y0)))], .bool (decide (fits ((wz a3 a2 a1 a0) * (wz y3 y2 y1 y0))))]) rfl (by kernel_rfl) .none ⟨H247, H248⟩ (fun _ => dv_move (T rfl rfl)) ?_
              refine aw_pure 6 (.agg #[.int .u64 (wv3 ((wz a3 a2 a1 a0) * (wz y3 y2 y1 y0))), .int .u64 (wv2 ((wz a3 a2 a1 a0) * (wz y3 y2 y1 y0))), .int .u64 (wv1 ((wz a3 a2 a1 a0) * (wz y3 y2 y1 y0))), .int .u64 (wv0 ((wz a3 a2 a1 a0) * (wz y3 y2 y1 y0)))]) rfl (by kernel_rfl) .none ⟨H247, H248⟩ (fun _ => dv_extract (vs := #[.agg #[.int .u64 (wv3 ((wz a3 a2 a1 a0) * (wz y3 y2 y1 y0))), .int .u64 (wv2 ((wz a3 a2 a1 a0) * (wz y3 y2 y1 y0))), .int .u64 (wv1 ((wz a3 a2 a1 a0) * (wz y3 y2 y1 y0))), .int .u64 (wv0 ((wz a3 a2 a1 a0) * (wz y3 y2 y1 y0)))], .bool (decide (fits ((wz a3 a2 a1 a0) * (wz y3 y2 y1 y0))))]) (T rfl rfl) rfl) ?_
              refine aw_pure 7 (.bool (decide (fits ((wz a3 a2 a1 a0) * (wz y3 y2 y1 y0))))) rfl (by kernel_rfl) .none ⟨H247, H248⟩ (fun _ => dv_extract (vs := #[.agg #[.int .u64 (wv3 ((wz a3 a2 a1 a0) * (wz y3 y2 y1 y0))), .int .u64 (wv2 ((wz a3 a2 a1 a0) * (wz y3 y2 y1 y0))), .int .u64 (wv1 ((wz a3 a2 a1 a0) * (wz y3 y2 y1 y0))), .int .u64 (wv0 ((wz a3 a2 a1 a0) * (wz y3 y2 y1 y0)))], .bool (decide (fits ((wz a3 a2 a1 a0) * (wz y3 y2 y1 y0))))]) (T rfl rfl) rfl) ?_
              have H249 := (e245.blk n238.blk)
              refine aw_one 9 rfl (by kernel_rfl) .none (oe_store (v := .agg #[.int .u64 (wv3 ((wz a3 a2 a1 a0) * (wz y3 y2 y1 y0))), .int .u64 (wv2 ((wz a3 a2 a1 a0) * (wz y3 y2 y1 y0))), .int .u64 (wv1 ((wz a3 a2 a1 a0) * (wz y3 y2 y1 y0))), .int .u64 (wv0 ((wz a3 a2 a1 a0) * (wz y3 y2 y1 y0)))]) (vs := [.int .u64 (wv3 ((wz a3 a2 a1 a0) * (wz y3 y2 y1 y0))), .int .u64 (wv2 ((wz a3 a2 a1 a0) * (wz y3 y2 y1 y0))), .int .u64 (wv1 ((wz a3 a2 a1 a0) * (wz y3 y2 y1 y0))), .int .u64 (wv0 ((wz a3 a2 a1 a0) * (wz y3 y2 y1 y0)))]) (l := [.int .u64 (wv3 ((wz a3 a2 a1 a0) * (wz y3 y2 y1 y0))), .int .u64 (wv2 ((wz a3 a2 a1 a0) * (wz y3 y2 y1 y0))), .int .u64 (wv1 ((wz a3 a2 a1 a0) * (wz y3 y2 y1 y0))), .int .u64 (wv0 ((wz a3 a2 a1 a0) * (wz y3 y2 y1 y0)))]) (T rfl rfl) (T rfl rfl) sz26 rfl rfl rfl H249 rfl ?_)
              intro w250 s251 H252
              have E253 := below_st E246 N239 s251
              have H254 := (s251.blk H247 (by omega))
              have H255 := (s251.blk H248 (by omega))
              refine ⟨.inr ⟨H254, H255⟩, ?_⟩
              refine aw_last 10 (.bool (decide (fits ((wz a3 a2 a1 a0) * (wz y3 y2 y1 y0))))) rfl (by kernel_rfl) .none (fun _ => dv_assign (T rfl rfl)) ?_
              refine aw_done (by kernel_rfl) ?_
              refine rk_seq ?_
              refine rk_seq ?_
              refine rk_reg ?_
              refine lw_v (.agg #[.int .u64 (wv3 ((wz a3 a2 a1 a0) * (wz y3 y2 y1 y0))), .int .u64 (wv2 ((wz a3 a2 a1 a0) * (wz y3 y2 y1 y0))), .int .u64 (wv1 ((wz a3 a2 a1 a0) * (wz y3 y2 y1 y0))), .int .u64 (wv0 ((wz a3 a2 a1 a0) * (wz y3 y2 y1 y0)))]) (dv_loads (l := [.int .u64 (wv3 ((wz a3 a2 a1 a0) * (wz y3 y2 y1 y0))), .int .u64 (wv2 ((wz a3 a2 a1 a0) * (wz y3 y2 y1 y0))), .int .u64 (wv1 ((wz a3 a2 a1 a0) * (wz y3 y2 y1 y0))), .int .u64 (wv0 ((wz a3 a2 a1 a0) * (wz y3 y2 y1 y0)))]) agt26 sz26 (T rfl rfl) H252 rfl) ?_
              have H256 := (s251.blk (e245.blk (n238.ext.blk H240)) (by omega))
              refine lw_v (.agg #[.int .u64 (wv3 ((wz a3 a2 a1 a0) * (wz y3 y2 y1 y0))), .int .u64 (wv2 ((wz a3 a2 a1 a0) * (wz y3 y2 y1 y0))), .int .u64 (wv1 ((wz a3 a2 a1 a0) * (wz y3 y2 y1 y0))), .int .u64 (wv0 ((wz a3 a2 a1 a0) * (wz y3 y2 y1 y0)))]) (dv_loads (l := [.int .u64 (wv3 ((wz a3 a2 a1 a0) * (wz y3 y2 y1 y0))), .int .u64 (wv2 ((wz a3 a2 a1 a0) * (wz y3 y2 y1 y0))), .int .u64 (wv1 ((wz a3 a2 a1 a0) * (wz y3 y2 y1 y0))), .int .u64 (wv0 ((wz a3 a2 a1 a0) * (wz y3 y2 y1 y0)))]) agt26 sz26 (T rfl rfl) H256 rfl) ?_
              refine lw_e (oe_callf (vs := [.agg #[.int .u64 (wv3 ((wz a3 a2 a1 a0) * (wz y3 y2 y1 y0))), .int .u64 (wv2 ((wz a3 a2 a1 a0) * (wz y3 y2 y1 y0))), .int .u64 (wv1 ((wz a3 a2 a1 a0) * (wz y3 y2 y1 y0))), .int .u64 (wv0 ((wz a3 a2 a1 a0) * (wz y3 y2 y1 y0)))], .agg #[.int .u64 (wv3 ((wz a3 a2 a1 a0) * (wz y3 y2 y1 y0))), .int .u64 (wv2 ((wz a3 a2 a1 a0) * (wz y3 y2 y1 y0))), .int .u64 (wv1 ((wz a3 a2 a1 a0) * (wz y3 y2 y1 y0))), .int .u64 (wv0 ((wz a3 a2 a1 a0) * (wz y3 y2 y1 y0)))]]) co24 (ar2 (T rfl rfl) (T rfl rfl)) (eqWide_ok ) ?_)
              rintro _ w257 ⟨rfl, e258⟩
              have E259 := below_ext E253 E253.size e258
              refine lw_v (.bool (decide (¬ ((wv3 ((wz a3 a2 a1 a0) * (wz y3 y2 y1 y0))) = (wv3 ((wz a3 a2 a1 a0) * (wz y3 y2 y1 y0))) ∧ (wv2 ((wz a3 a2 a1 a0) * (wz y3 y2 y1 y0))) = (wv2 ((wz a3 a2 a1 a0) * (wz y3 y2 y1 y0))) ∧ (wv1 ((wz a3 a2 a1 a0) * (wz y3 y2 y1 y0))) = (wv1 ((wz a3 a2 a1 a0) * (wz y3 y2 y1 y0))) ∧ (wv0 ((wz a3 a2 a1 a0) * (wz y3 y2 y1 y0))) = (wv0 ((wz a3 a2 a1 a0) * (wz y3 y2 y1 y0))))))) (dv_notd (p := (wv3 ((wz a3 a2 a1 a0) * (wz y3 y2 y1 y0))) = (wv3 ((wz a3 a2 a1 a0) * (wz y3 y2 y1 y0))) ∧ (wv2 ((wz a3 a2 a1 a0) * (wz y3 y2 y1 y0))) = (wv2 ((wz a3 a2 a1 a0) * (wz y3 y2 y1 y0))) ∧ (wv1 ((wz a3 a2 a1 a0) * (wz y3 y2 y1 y0))) = (wv1 ((wz a3 a2 a1 a0) * (wz y3 y2 y1 y0))) ∧ (wv0 ((wz a3 a2 a1 a0) * (wz y3 y2 y1 y0))) = (wv0 ((wz a3 a2 a1 a0) * (wz y3 y2 y1 y0)))) (T rfl rfl)) ?_
              refine lw_v (.bool (decide (¬ ((wv3 ((wz a3 a2 a1 a0) * (wz y3 y2 y1 y0))) = (wv3 ((wz a3 a2 a1 a0) * (wz y3 y2 y1 y0))) ∧ (wv2 ((wz a3 a2 a1 a0) * (wz y3 y2 y1 y0))) = (wv2 ((wz a3 a2 a1 a0) * (wz y3 y2 y1 y0))) ∧ (wv1 ((wz a3 a2 a1 a0) * (wz y3 y2 y1 y0))) = (wv1 ((wz a3 a2 a1 a0) * (wz y3 y2 y1 y0))) ∧ (wv0 ((wz a3 a2 a1 a0) * (wz y3 y2 y1 y0))) = (wv0 ((wz a3 a2 a1 a0) * (wz y3 y2 y1 y0))))))) (dv_move (T rfl rfl)) ?_
              by_cases hb260 : (wv3 ((wz a3 a2 a1 a0) * (wz y3 y2 y1 y0))) = (wv3 ((wz a3 a2 a1 a0) * (wz y3 y2 y1 y0))) ∧ (wv2 ((wz a3 a2 a1 a0) * (wz y3 y2 y1 y0))) = (wv2 ((wz a3 a2 a1 a0) * (wz y3 y2 y1 y0))) ∧ (wv1 ((wz a3 a2 a1 a0) * (wz y3 y2 y1 y0))) = (wv1 ((wz a3 a2 a1 a0) * (wz y3 y2 y1 y0))) ∧ (wv0 ((wz a3 a2 a1 a0) * (wz y3 y2 y1 y0))) = (wv0 ((wz a3 a2 a1 a0) * (wz y3 y2 y1 y0)))
              · -- aabaabT
                refine lw_vy (.bool (decide (fits ((wz a3 a2 a1 a0) * (wz y3 y2 y1 y0))))) (d := 29) rfl rfl (congrArg Value.bool (decide_eq_false (not_not_intro hb260))) (dv_move (T rfl rfl)) ?_
                refine lw_vy (.bool (decide (fits ((wz a3 a2 a1 a0) * (wz y3 y2 y1 y0))))) (d := 29) rfl rfl (congrArg Value.bool (decide_eq_false (not_not_intro hb260))) (dv_move (T rfl rfl)) ?_
                refine lw_vy (.bool ((decide (fits ((wz a3 a2 a1 a0) * (wz y3 y2 y1 y0)))) != (decide (fits ((wz a3 a2 a1 a0) * (wz y3 y2 y1 y0)))))) (d := 29) rfl rfl (congrArg Value.bool (decide_eq_false (not_not_intro hb260))) (dv_neqb (a := decide (fits ((wz a3 a2 a1 a0) * (wz y3 y2 y1 y0)))) (b := decide (fits ((wz a3 a2 a1 a0) * (wz y3 y2 y1 y0)))) ub4 (T rfl rfl) (T rfl rfl)) ?_
                refine lw_v (.bool ((decide (fits ((wz a3 a2 a1 a0) * (wz y3 y2 y1 y0)))) != (decide (fits ((wz a3 a2 a1 a0) * (wz y3 y2 y1 y0)))))) (dv_pick_f (T rfl (congrArg Value.bool (decide_eq_false (not_not_intro hb260)))) (T rfl rfl)) ?_
                refine lw_nil ?_
                rcases Bool.eq_false_or_eq_true ((decide (fits ((wz a3 a2 a1 a0) * (wz y3 y2 y1 y0)))) != (decide (fits ((wz a3 a2 a1 a0) * (wz y3 y2 y1 y0))))) with hb261 | hb261
                · -- aabaabTT
                  refine rk_ct (T rfl (congrArg Value.bool hb261)) ?_
                  refine rk_seq ?_
                  refine rk_reg ?_
                  refine lw_v (.bool false) (dv_assign C) ?_
                  refine lw_nil ?_
                  refine rk_ret Try.func11 (v := .bool false) (res1 Try.results11 (rv_tmp rfl rfl)) ⟨_, rfl, ?_⟩
                  exact ⟨(congrArg Value.bool (by grind)), E259⟩
                · -- aabaabTF
                  refine rk_cf (T rfl (congrArg Value.bool hb261)) ?_
                  refine rk_skip ?_
                  refine rk_seq ?_
                  refine rk_reg ?_
                  refine lw_v (.bool true) (dv_assign C) ?_
                  refine lw_nil ?_
                  refine rk_ret Try.func11 (v := .bool true) (res1 Try.results11 (rv_tmp rfl rfl)) ⟨_, rfl, ?_⟩
                  exact ⟨rfl, E259⟩
              · -- aabaabF
                refine lw_no (d := 29) rfl rfl (congrArg Value.bool (decide_eq_true hb260)) ?_
                refine lw_no (d := 29) rfl rfl (congrArg Value.bool (decide_eq_true hb260)) ?_
                refine lw_no (d := 29) rfl rfl (congrArg Value.bool (decide_eq_true hb260)) ?_
                refine lw_v (.bool true) (dv_pick_t (T rfl (congrArg Value.bool (decide_eq_true hb260))) C) ?_
                refine lw_nil ?_
                refine rk_ct (T rfl rfl) ?_
                refine rk_seq ?_
                refine rk_reg ?_
                refine lw_v (.bool false) (dv_assign C) ?_
                refine lw_nil ?_
                refine rk_ret Try.func11 (v := .bool false) (res1 Try.results11 (rv_tmp rfl rfl)) ⟨_, rfl, ?_⟩
                exact ⟨(congrArg Value.bool (by grind)), E259⟩
          · -- aabab
            refine id (oe_alloc ze26 ?_)
            intro b262 w263 n264
            have N265 : w.heap.size ≤ b262 := n264.eq ▸ E203.size
            have H266 := (e202.blk (d197.ext.blk H192))
            have : b177 < b262 := n264.eq ▸ lt_of_blk H266
            have E267 := below_ext E203 E203.size n264.ext
            have H268 := (n264.ext.blk H204)
            have H269 := (n264.ext.blk H205)
            refine ⟨.inr ⟨H268, H269⟩, ?_⟩
            refine aw_one 3 rfl (by kernel_rfl) .none (oe_callf (vs := [.agg #[.int .u64 y3, .int .u64 y2, .int .u64 y1, .int .u64 y0]]) co16 (ar1 (T rfl rfl)) (toWide_ok ) ?_)
            rintro _ w270 ⟨rfl, e271⟩
            have E272 := below_ext E267 E267.size e271
            have H273 := (e271.blk H268)
            have H274 := (e271.blk H269)
            refine ⟨.inr ⟨H273, H274⟩, ?_⟩
            refine aw_one 4 rfl (by kernel_rfl) .none (oe_callf (vs := [.agg #[.int .u64 a3, .int .u64 a2, .int .u64 a1, .int .u64 a0], .agg #[.int .u64 y3, .int .u64 y2, .int .u64 y1, .int .u64 y0]]) co36 (ar2 (T rfl rfl) (T rfl rfl)) (iWideMul_ok (by omega) (by omega) (by omega) (by omega) (by omega) (by omega) (by omega) (by omega)) ?_)
            rintro _ w275 ⟨rfl, e276⟩
            have E277 := below_ext E272 E272.size e276
            have H278 := (e276.blk H273)
            have H279 := (e276.blk H274)
            refine ⟨.inr ⟨H278, H279⟩, ?_⟩
            refine aw_pure 5 (.tuple #[.agg #[.int .u64 (wv3 ((wz a3 a2 a1 a0) * (wz y3 y2 y1 y0))), .int .u64 (wv2 ((wz a3 a2 a1 a0) * (wz y3 y2 y1 y0))), .int .u64 (wv1 ((wz a3 a2 a1 a0) * (wz y3 y2 y1 y0))), .int .u64 (wv0 ((wz a3 a2 a1 a0) * (wz y3 y2 y1 y0)))], .bool (decide (fits ((wz a3 a2 a1 a0) * (wz y3 y2 y1 y0))))]) rfl (by kernel_rfl) .none ⟨H278, H279⟩ (fun _ => dv_move (T rfl rfl)) ?_
            refine aw_pure 6 (.agg #[.int .u64 (wv3 ((wz a3 a2 a1 a0) * (wz y3 y2 y1 y0))), .int .u64 (wv2 ((wz a3 a2 a1 a0) * (wz y3 y2 y1 y0))), .int .u64 (wv1 ((wz a3 a2 a1 a0) * (wz y3 y2 y1 y0))), .int .u64 (wv0 ((wz a3 a2 a1 a0) * (wz y3 y2 y1 y0)))]) rfl (by kernel_rfl) .none ⟨H278, H279⟩ (fun _ => dv_extract (vs := #[.agg #[.int .u64 (wv3 ((wz a3 a2 a1 a0) * (wz y3 y2 y1 y0))), .int .u64 (wv2 ((wz a3 a2 a1 a0) * (wz y3 y2 y1 y0))), .int .u64 (wv1 ((wz a3 a2 a1 a0) * (wz y3 y2 y1 y0))), .int .u64 (wv0 ((wz a3 a2 a1 a0) * (wz y3 y2 y1 y0)))], .bool (decide (fits ((wz a3 a2 a1 a0) * (wz y3 y2 y1 y0))))]) (T rfl rfl) rfl) ?_
            refine aw_pure 7 (.bool (decide (fits ((wz a3 a2 a1 a0) * (wz y3 y2 y1 y0))))) rfl (by kernel_rfl) .none ⟨H278, H279⟩ (fun _ => dv_extract (vs := #[.agg #[.int .u64 (wv3 ((wz a3 a2 a1 a0) * (wz y3 y2 y1 y0))), .int .u64 (wv2 ((wz a3 a2 a1 a0) * (wz y3 y2 y1 y0))), .int .u64 (wv1 ((wz a3 a2 a1 a0) * (wz y3 y2 y1 y0))), .int .u64 (wv0 ((wz a3 a2 a1 a0) * (wz y3 y2 y1 y0)))], .bool (decide (fits ((wz a3 a2 a1 a0) * (wz y3 y2 y1 y0))))]) (T rfl rfl) rfl) ?_
            have H280 := (e276.blk (e271.blk n264.blk))
            refine aw_one 9 rfl (by kernel_rfl) .none (oe_store (v := .agg #[.int .u64 (wv3 ((wz a3 a2 a1 a0) * (wz y3 y2 y1 y0))), .int .u64 (wv2 ((wz a3 a2 a1 a0) * (wz y3 y2 y1 y0))), .int .u64 (wv1 ((wz a3 a2 a1 a0) * (wz y3 y2 y1 y0))), .int .u64 (wv0 ((wz a3 a2 a1 a0) * (wz y3 y2 y1 y0)))]) (vs := [.int .u64 (wv3 ((wz a3 a2 a1 a0) * (wz y3 y2 y1 y0))), .int .u64 (wv2 ((wz a3 a2 a1 a0) * (wz y3 y2 y1 y0))), .int .u64 (wv1 ((wz a3 a2 a1 a0) * (wz y3 y2 y1 y0))), .int .u64 (wv0 ((wz a3 a2 a1 a0) * (wz y3 y2 y1 y0)))]) (l := [.int .u64 (wv3 ((wz a3 a2 a1 a0) * (wz y3 y2 y1 y0))), .int .u64 (wv2 ((wz a3 a2 a1 a0) * (wz y3 y2 y1 y0))), .int .u64 (wv1 ((wz a3 a2 a1 a0) * (wz y3 y2 y1 y0))), .int .u64 (wv0 ((wz a3 a2 a1 a0) * (wz y3 y2 y1 y0)))]) (T rfl rfl) (T rfl rfl) sz26 rfl rfl rfl H280 rfl ?_)
            intro w281 s282 H283
            have E284 := below_st E277 N265 s282
            have H285 := (s282.blk H278 (by omega))
            have H286 := (s282.blk H279 (by omega))
            refine ⟨.inr ⟨H285, H286⟩, ?_⟩
            refine aw_last 10 (.bool (decide (fits ((wz a3 a2 a1 a0) * (wz y3 y2 y1 y0))))) rfl (by kernel_rfl) .none (fun _ => dv_assign (T rfl rfl)) ?_
            refine aw_done (by kernel_rfl) ?_
            refine rk_seq ?_
            refine rk_seq ?_
            refine rk_reg ?_
            refine lw_v (.agg #[.int .u64 (wv3 ((wz a3 a2 a1 a0) * (wz y3 y2 y1 y0))), .int .u64 (wv2 ((wz a3 a2 a1 a0) * (wz y3 y2 y1 y0))), .int .u64 (wv1 ((wz a3 a2 a1 a0) * (wz y3 y2 y1 y0))), .int .u64 (wv0 ((wz a3 a2 a1 a0) * (wz y3 y2 y1 y0)))]) (dv_loads (l := [.int .u64 (wv3 ((wz a3 a2 a1 a0) * (wz y3 y2 y1 y0))), .int .u64 (wv2 ((wz a3 a2 a1 a0) * (wz y3 y2 y1 y0))), .int .u64 (wv1 ((wz a3 a2 a1 a0) * (wz y3 y2 y1 y0))), .int .u64 (wv0 ((wz a3 a2 a1 a0) * (wz y3 y2 y1 y0)))]) agt26 sz26 (T rfl rfl) H283 rfl) ?_
            have H287 := (s282.blk (e276.blk (e271.blk (n264.ext.blk H266))) (by omega))
            refine lw_v (.agg #[.int .u64 (wv3 ((wz a3 a2 a1 a0) * (wz y3 y2 y1 y0))), .int .u64 (wv2 ((wz a3 a2 a1 a0) * (wz y3 y2 y1 y0))), .int .u64 (wv1 ((wz a3 a2 a1 a0) * (wz y3 y2 y1 y0))), .int .u64 (wv0 ((wz a3 a2 a1 a0) * (wz y3 y2 y1 y0)))]) (dv_loads (l := [.int .u64 (wv3 ((wz a3 a2 a1 a0) * (wz y3 y2 y1 y0))), .int .u64 (wv2 ((wz a3 a2 a1 a0) * (wz y3 y2 y1 y0))), .int .u64 (wv1 ((wz a3 a2 a1 a0) * (wz y3 y2 y1 y0))), .int .u64 (wv0 ((wz a3 a2 a1 a0) * (wz y3 y2 y1 y0)))]) agt26 sz26 (T rfl rfl) H287 rfl) ?_
            refine lw_e (oe_callf (vs := [.agg #[.int .u64 (wv3 ((wz a3 a2 a1 a0) * (wz y3 y2 y1 y0))), .int .u64 (wv2 ((wz a3 a2 a1 a0) * (wz y3 y2 y1 y0))), .int .u64 (wv1 ((wz a3 a2 a1 a0) * (wz y3 y2 y1 y0))), .int .u64 (wv0 ((wz a3 a2 a1 a0) * (wz y3 y2 y1 y0)))], .agg #[.int .u64 (wv3 ((wz a3 a2 a1 a0) * (wz y3 y2 y1 y0))), .int .u64 (wv2 ((wz a3 a2 a1 a0) * (wz y3 y2 y1 y0))), .int .u64 (wv1 ((wz a3 a2 a1 a0) * (wz y3 y2 y1 y0))), .int .u64 (wv0 ((wz a3 a2 a1 a0) * (wz y3 y2 y1 y0)))]]) co24 (ar2 (T rfl rfl) (T rfl rfl)) (eqWide_ok ) ?_)
            rintro _ w288 ⟨rfl, e289⟩
            have E290 := below_ext E284 E284.size e289
            refine lw_v (.bool (decide (¬ ((wv3 ((wz a3 a2 a1 a0) * (wz y3 y2 y1 y0))) = (wv3 ((wz a3 a2 a1 a0) * (wz y3 y2 y1 y0))) ∧ (wv2 ((wz a3 a2 a1 a0) * (wz y3 y2 y1 y0))) = (wv2 ((wz a3 a2 a1 a0) * (wz y3 y2 y1 y0))) ∧ (wv1 ((wz a3 a2 a1 a0) * (wz y3 y2 y1 y0))) = (wv1 ((wz a3 a2 a1 a0) * (wz y3 y2 y1 y0))) ∧ (wv0 ((wz a3 a2 a1 a0) * (wz y3 y2 y1 y0))) = (wv0 ((wz a3 a2 a1 a0) * (wz y3 y2 y1 y0))))))) (dv_notd (p := (wv3 ((wz a3 a2 a1 a0) * (wz y3 y2 y1 y0))) = (wv3 ((wz a3 a2 a1 a0) * (wz y3 y2 y1 y0))) ∧ (wv2 ((wz a3 a2 a1 a0) * (wz y3 y2 y1 y0))) = (wv2 ((wz a3 a2 a1 a0) * (wz y3 y2 y1 y0))) ∧ (wv1 ((wz a3 a2 a1 a0) * (wz y3 y2 y1 y0))) = (wv1 ((wz a3 a2 a1 a0) * (wz y3 y2 y1 y0))) ∧ (wv0 ((wz a3 a2 a1 a0) * (wz y3 y2 y1 y0))) = (wv0 ((wz a3 a2 a1 a0) * (wz y3 y2 y1 y0)))) (T rfl rfl)) ?_
            refine lw_v (.bool (decide (¬ ((wv3 ((wz a3 a2 a1 a0) * (wz y3 y2 y1 y0))) = (wv3 ((wz a3 a2 a1 a0) * (wz y3 y2 y1 y0))) ∧ (wv2 ((wz a3 a2 a1 a0) * (wz y3 y2 y1 y0))) = (wv2 ((wz a3 a2 a1 a0) * (wz y3 y2 y1 y0))) ∧ (wv1 ((wz a3 a2 a1 a0) * (wz y3 y2 y1 y0))) = (wv1 ((wz a3 a2 a1 a0) * (wz y3 y2 y1 y0))) ∧ (wv0 ((wz a3 a2 a1 a0) * (wz y3 y2 y1 y0))) = (wv0 ((wz a3 a2 a1 a0) * (wz y3 y2 y1 y0))))))) (dv_move (T rfl rfl)) ?_
            by_cases hb291 : (wv3 ((wz a3 a2 a1 a0) * (wz y3 y2 y1 y0))) = (wv3 ((wz a3 a2 a1 a0) * (wz y3 y2 y1 y0))) ∧ (wv2 ((wz a3 a2 a1 a0) * (wz y3 y2 y1 y0))) = (wv2 ((wz a3 a2 a1 a0) * (wz y3 y2 y1 y0))) ∧ (wv1 ((wz a3 a2 a1 a0) * (wz y3 y2 y1 y0))) = (wv1 ((wz a3 a2 a1 a0) * (wz y3 y2 y1 y0))) ∧ (wv0 ((wz a3 a2 a1 a0) * (wz y3 y2 y1 y0))) = (wv0 ((wz a3 a2 a1 a0) * (wz y3 y2 y1 y0)))
            · -- aababT
              refine lw_vy (.bool (decide (fits ((wz a3 a2 a1 a0) * (wz y3 y2 y1 y0))))) (d := 29) rfl rfl (congrArg Value.bool (decide_eq_false (not_not_intro hb291))) (dv_move (T rfl rfl)) ?_
              refine lw_vy (.bool (decide (fits ((wz a3 a2 a1 a0) * (wz y3 y2 y1 y0))))) (d := 29) rfl rfl (congrArg Value.bool (decide_eq_false (not_not_intro hb291))) (dv_move (T rfl rfl)) ?_
              refine lw_vy (.bool ((decide (fits ((wz a3 a2 a1 a0) * (wz y3 y2 y1 y0)))) != (decide (fits ((wz a3 a2 a1 a0) * (wz y3 y2 y1 y0)))))) (d := 29) rfl rfl (congrArg Value.bool (decide_eq_false (not_not_intro hb291))) (dv_neqb (a := decide (fits ((wz a3 a2 a1 a0) * (wz y3 y2 y1 y0)))) (b := decide (fits ((wz a3 a2 a1 a0) * (wz y3 y2 y1 y0)))) ub4 (T rfl rfl) (T rfl rfl)) ?_
              refine lw_v (.bool ((decide (fits ((wz a3 a2 a1 a0) * (wz y3 y2 y1 y0)))) != (decide (fits ((wz a3 a2 a1 a0) * (wz y3 y2 y1 y0)))))) (dv_pick_f (T rfl (congrArg Value.bool (decide_eq_false (not_not_intro hb291)))) (T rfl rfl)) ?_
              refine lw_nil ?_
              rcases Bool.eq_false_or_eq_true ((decide (fits ((wz a3 a2 a1 a0) * (wz y3 y2 y1 y0)))) != (decide (fits ((wz a3 a2 a1 a0) * (wz y3 y2 y1 y0))))) with hb292 | hb292
              · -- aababTT
                refine rk_ct (T rfl (congrArg Value.bool hb292)) ?_
                refine rk_seq ?_
                refine rk_reg ?_
                refine lw_v (.bool false) (dv_assign C) ?_
                refine lw_nil ?_
                refine rk_ret Try.func11 (v := .bool false) (res1 Try.results11 (rv_tmp rfl rfl)) ⟨_, rfl, ?_⟩
                exact ⟨(congrArg Value.bool (by grind)), E290⟩
              · -- aababTF
                refine rk_cf (T rfl (congrArg Value.bool hb292)) ?_
                refine rk_skip ?_
                refine rk_seq ?_
                refine rk_reg ?_
                refine lw_v (.bool true) (dv_assign C) ?_
                refine lw_nil ?_
                refine rk_ret Try.func11 (v := .bool true) (res1 Try.results11 (rv_tmp rfl rfl)) ⟨_, rfl, ?_⟩
                exact ⟨rfl, E290⟩
            · -- aababF
              refine lw_no (d := 29) rfl rfl (congrArg Value.bool (decide_eq_true hb291)) ?_
              refine lw_no (d := 29) rfl rfl (congrArg Value.bool (decide_eq_true hb291)) ?_
              refine lw_no (d := 29) rfl rfl (congrArg Value.bool (decide_eq_true hb291)) ?_
              refine lw_v (.bool true) (dv_pick_t (T rfl (congrArg Value.bool (decide_eq_true hb291))) C) ?_
              refine lw_nil ?_
              refine rk_ct (T rfl rfl) ?_
              refine rk_seq ?_
              refine rk_reg ?_
              refine lw_v (.bool false) (dv_assign C) ?_
              refine lw_nil ?_
              refine rk_ret Try.func11 (v := .bool false) (res1 Try.results11 (rv_tmp rfl rfl)) ⟨_, rfl, ?_⟩
              exact ⟨(congrArg Value.bool (by grind)), E290⟩
        · -- aabb
          refine id (oe_alloc ze26 ?_)
          intro b293 w294 n295
          have N296 : w.heap.size ≤ b293 := n295.eq ▸ E198.size
          have H297 := (d197.ext.blk H192)
          have : b177 < b293 := n295.eq ▸ lt_of_blk H297
          have E298 := below_ext E198 E198.size n295.ext
          have H299 := (n295.ext.blk H199)
          have H300 := (n295.ext.blk H200)
          refine ⟨.inr ⟨H299, H300⟩, ?_⟩
          refine aw_one 1 rfl (by kernel_rfl) .none (oe_callf (vs := [.agg #[.int .u64 a3, .int .u64 a2, .int .u64 a1, .int .u64 a0]]) co16 (ar1 (T rfl rfl)) (toWide_ok ) ?_)
          rintro _ w301 ⟨rfl, e302⟩
          have E303 := below_ext E298 E298.size e302
          have H304 := (e302.blk H299)
          have H305 := (e302.blk H300)
          refine ⟨.inr ⟨H304, H305⟩, ?_⟩
          refine aw_one 3 rfl (by kernel_rfl) .none (oe_callf (vs := [.agg #[.int .u64 y3, .int .u64 y2, .int .u64 y1, .int .u64 y0]]) co16 (ar1 (T rfl rfl)) (toWide_ok ) ?_)
          rintro _ w306 ⟨rfl, e307⟩
          have E308 := below_ext E303 E303.size e307
          have H309 := (e307.blk H304)
          have H310 := (e307.blk H305)
          refine ⟨.inr ⟨H309, H310⟩, ?_⟩
          refine aw_one 4 rfl (by kernel_rfl) .none (oe_callf (vs := [.agg #[.int .u64 a3, .int .u64 a2, .int .u64 a1, .int .u64 a0], .agg #[.int .u64 y3, .int .u64 y2, .int .u64 y1, .int .u64 y0]]) co36 (ar2 (T rfl rfl) (T rfl rfl)) (iWideMul_ok (by omega) (by omega) (by omega) (by omega) (by omega) (by omega) (by omega) (by omega)) ?_)
          rintro _ w311 ⟨rfl, e312⟩
          have E313 := below_ext E308 E308.size e312
          have H314 := (e312.blk H309)
          have H315 := (e312.blk H310)
          refine ⟨.inr ⟨H314, H315⟩, ?_⟩
          refine aw_pure 5 (.tuple #[.agg #[.int .u64 (wv3 ((wz a3 a2 a1 a0) * (wz y3 y2 y1 y0))), .int .u64 (wv2 ((wz a3 a2 a1 a0) * (wz y3 y2 y1 y0))), .int .u64 (wv1 ((wz a3 a2 a1 a0) * (wz y3 y2 y1 y0))), .int .u64 (wv0 ((wz a3 a2 a1 a0) * (wz y3 y2 y1 y0)))], .bool (decide (fits ((wz a3 a2 a1 a0) * (wz y3 y2 y1 y0))))]) rfl (by kernel_rfl) .none ⟨H314, H315⟩ (fun _ => dv_move (T rfl rfl)) ?_
          refine aw_pure 6 (.agg #[.int .u64 (wv3 ((wz a3 a2 a1 a0) * (wz y3 y2 y1 y0))), .int .u64 (wv2 ((wz a3 a2 a1 a0) * (wz y3 y2 y1 y0))), .int .u64 (wv1 ((wz a3 a2 a1 a0) * (wz y3 y2 y1 y0))), .int .u64 (wv0 ((wz a3 a2 a1 a0) * (wz y3 y2 y1 y0)))]) rfl (by kernel_rfl) .none ⟨H314, H315⟩ (fun _ => dv_extract (vs := #[.agg #[.int .u64 (wv3 ((wz a3 a2 a1 a0) * (wz y3 y2 y1 y0))), .int .u64 (wv2 ((wz a3 a2 a1 a0) * (wz y3 y2 y1 y0))), .int .u64 (wv1 ((wz a3 a2 a1 a0) * (wz y3 y2 y1 y0))), .int .u64 (wv0 ((wz a3 a2 a1 a0) * (wz y3 y2 y1 y0)))], .bool (decide (fits ((wz a3 a2 a1 a0) * (wz y3 y2 y1 y0))))]) (T rfl rfl) rfl) ?_
          refine aw_pure 7 (.bool (decide (fits ((wz a3 a2 a1 a0) * (wz y3 y2 y1 y0))))) rfl (by kernel_rfl) .none ⟨H314, H315⟩ (fun _ => dv_extract (vs := #[.agg #[.int .u64 (wv3 ((wz a3 a2 a1 a0) * (wz y3 y2 y1 y0))), .int .u64 (wv2 ((wz a3 a2 a1 a0) * (wz y3 y2 y1 y0))), .int .u64 (wv1 ((wz a3 a2 a1 a0) * (wz y3 y2 y1 y0))), .int .u64 (wv0 ((wz a3 a2 a1 a0) * (wz y3 y2 y1 y0)))], .bool (decide (fits ((wz a3 a2 a1 a0) * (wz y3 y2 y1 y0))))]) (T rfl rfl) rfl) ?_
          have H316 := (e312.blk (e307.blk (e302.blk n295.blk)))
          refine aw_one 9 rfl (by kernel_rfl) .none (oe_store (v := .agg #[.int .u64 (wv3 ((wz a3 a2 a1 a0) * (wz y3 y2 y1 y0))), .int .u64 (wv2 ((wz a3 a2 a1 a0) * (wz y3 y2 y1 y0))), .int .u64 (wv1 ((wz a3 a2 a1 a0) * (wz y3 y2 y1 y0))), .int .u64 (wv0 ((wz a3 a2 a1 a0) * (wz y3 y2 y1 y0)))]) (vs := [.int .u64 (wv3 ((wz a3 a2 a1 a0) * (wz y3 y2 y1 y0))), .int .u64 (wv2 ((wz a3 a2 a1 a0) * (wz y3 y2 y1 y0))), .int .u64 (wv1 ((wz a3 a2 a1 a0) * (wz y3 y2 y1 y0))), .int .u64 (wv0 ((wz a3 a2 a1 a0) * (wz y3 y2 y1 y0)))]) (l := [.int .u64 (wv3 ((wz a3 a2 a1 a0) * (wz y3 y2 y1 y0))), .int .u64 (wv2 ((wz a3 a2 a1 a0) * (wz y3 y2 y1 y0))), .int .u64 (wv1 ((wz a3 a2 a1 a0) * (wz y3 y2 y1 y0))), .int .u64 (wv0 ((wz a3 a2 a1 a0) * (wz y3 y2 y1 y0)))]) (T rfl rfl) (T rfl rfl) sz26 rfl rfl rfl H316 rfl ?_)
          intro w317 s318 H319
          have E320 := below_st E313 N296 s318
          have H321 := (s318.blk H314 (by omega))
          have H322 := (s318.blk H315 (by omega))
          refine ⟨.inr ⟨H321, H322⟩, ?_⟩
          refine aw_last 10 (.bool (decide (fits ((wz a3 a2 a1 a0) * (wz y3 y2 y1 y0))))) rfl (by kernel_rfl) .none (fun _ => dv_assign (T rfl rfl)) ?_
          refine aw_done (by kernel_rfl) ?_
          refine rk_seq ?_
          refine rk_seq ?_
          refine rk_reg ?_
          refine lw_v (.agg #[.int .u64 (wv3 ((wz a3 a2 a1 a0) * (wz y3 y2 y1 y0))), .int .u64 (wv2 ((wz a3 a2 a1 a0) * (wz y3 y2 y1 y0))), .int .u64 (wv1 ((wz a3 a2 a1 a0) * (wz y3 y2 y1 y0))), .int .u64 (wv0 ((wz a3 a2 a1 a0) * (wz y3 y2 y1 y0)))]) (dv_loads (l := [.int .u64 (wv3 ((wz a3 a2 a1 a0) * (wz y3 y2 y1 y0))), .int .u64 (wv2 ((wz a3 a2 a1 a0) * (wz y3 y2 y1 y0))), .int .u64 (wv1 ((wz a3 a2 a1 a0) * (wz y3 y2 y1 y0))), .int .u64 (wv0 ((wz a3 a2 a1 a0) * (wz y3 y2 y1 y0)))]) agt26 sz26 (T rfl rfl) H319 rfl) ?_
          have H323 := (s318.blk (e312.blk (e307.blk (e302.blk (n295.ext.blk H297)))) (by omega))
          refine lw_v (.agg #[.int .u64 (wv3 ((wz a3 a2 a1 a0) * (wz y3 y2 y1 y0))), .int .u64 (wv2 ((wz a3 a2 a1 a0) * (wz y3 y2 y1 y0))), .int .u64 (wv1 ((wz a3 a2 a1 a0) * (wz y3 y2 y1 y0))), .int .u64 (wv0 ((wz a3 a2 a1 a0) * (wz y3 y2 y1 y0)))]) (dv_loads (l := [.int .u64 (wv3 ((wz a3 a2 a1 a0) * (wz y3 y2 y1 y0))), .int .u64 (wv2 ((wz a3 a2 a1 a0) * (wz y3 y2 y1 y0))), .int .u64 (wv1 ((wz a3 a2 a1 a0) * (wz y3 y2 y1 y0))), .int .u64 (wv0 ((wz a3 a2 a1 a0) * (wz y3 y2 y1 y0)))]) agt26 sz26 (T rfl rfl) H323 rfl) ?_
          refine lw_e (oe_callf (vs := [.agg #[.int .u64 (wv3 ((wz a3 a2 a1 a0) * (wz y3 y2 y1 y0))), .int .u64 (wv2 ((wz a3 a2 a1 a0) * (wz y3 y2 y1 y0))), .int .u64 (wv1 ((wz a3 a2 a1 a0) * (wz y3 y2 y1 y0))), .int .u64 (wv0 ((wz a3 a2 a1 a0) * (wz y3 y2 y1 y0)))], .agg #[.int .u64 (wv3 ((wz a3 a2 a1 a0) * (wz y3 y2 y1 y0))), .int .u64 (wv2 ((wz a3 a2 a1 a0) * (wz y3 y2 y1 y0))), .int .u64 (wv1 ((wz a3 a2 a1 a0) * (wz y3 y2 y1 y0))), .int .u64 (wv0 ((wz a3 a2 a1 a0) * (wz y3 y2 y1 y0)))]]) co24 (ar2 (T rfl rfl) (T rfl rfl)) (eqWide_ok ) ?_)
          rintro _ w324 ⟨rfl, e325⟩
          have E326 := below_ext E320 E320.size e325
          refine lw_v (.bool (decide (¬ ((wv3 ((wz a3 a2 a1 a0) * (wz y3 y2 y1 y0))) = (wv3 ((wz a3 a2 a1 a0) * (wz y3 y2 y1 y0))) ∧ (wv2 ((wz a3 a2 a1 a0) * (wz y3 y2 y1 y0))) = (wv2 ((wz a3 a2 a1 a0) * (wz y3 y2 y1 y0))) ∧ (wv1 ((wz a3 a2 a1 a0) * (wz y3 y2 y1 y0))) = (wv1 ((wz a3 a2 a1 a0) * (wz y3 y2 y1 y0))) ∧ (wv0 ((wz a3 a2 a1 a0) * (wz y3 y2 y1 y0))) = (wv0 ((wz a3 a2 a1 a0) * (wz y3 y2 y1 y0))))))) (dv_notd (p := (wv3 ((wz a3 a2 a1 a0) * (wz y3 y2 y1 y0))) = (wv3 ((wz a3 a2 a1 a0) * (wz y3 y2 y1 y0))) ∧ (wv2 ((wz a3 a2 a1 a0) * (wz y3 y2 y1 y0))) = (wv2 ((wz a3 a2 a1 a0) * (wz y3 y2 y1 y0))) ∧ (wv1 ((wz a3 a2 a1 a0) * (wz y3 y2 y1 y0))) = (wv1 ((wz a3 a2 a1 a0) * (wz y3 y2 y1 y0))) ∧ (wv0 ((wz a3 a2 a1 a0) * (wz y3 y2 y1 y0))) = (wv0 ((wz a3 a2 a1 a0) * (wz y3 y2 y1 y0)))) (T rfl rfl)) ?_
          refine lw_v (.bool (decide (¬ ((wv3 ((wz a3 a2 a1 a0) * (wz y3 y2 y1 y0))) = (wv3 ((wz a3 a2 a1 a0) * (wz y3 y2 y1 y0))) ∧ (wv2 ((wz a3 a2 a1 a0) * (wz y3 y2 y1 y0))) = (wv2 ((wz a3 a2 a1 a0) * (wz y3 y2 y1 y0))) ∧ (wv1 ((wz a3 a2 a1 a0) * (wz y3 y2 y1 y0))) = (wv1 ((wz a3 a2 a1 a0) * (wz y3 y2 y1 y0))) ∧ (wv0 ((wz a3 a2 a1 a0) * (wz y3 y2 y1 y0))) = (wv0 ((wz a3 a2 a1 a0) * (wz y3 y2 y1 y0))))))) (dv_move (T rfl rfl)) ?_
          by_cases hb327 : (wv3 ((wz a3 a2 a1 a0) * (wz y3 y2 y1 y0))) = (wv3 ((wz a3 a2 a1 a0) * (wz y3 y2 y1 y0))) ∧ (wv2 ((wz a3 a2 a1 a0) * (wz y3 y2 y1 y0))) = (wv2 ((wz a3 a2 a1 a0) * (wz y3 y2 y1 y0))) ∧ (wv1 ((wz a3 a2 a1 a0) * (wz y3 y2 y1 y0))) = (wv1 ((wz a3 a2 a1 a0) * (wz y3 y2 y1 y0))) ∧ (wv0 ((wz a3 a2 a1 a0) * (wz y3 y2 y1 y0))) = (wv0 ((wz a3 a2 a1 a0) * (wz y3 y2 y1 y0)))
          · -- aabbT
            refine lw_vy (.bool (decide (fits ((wz a3 a2 a1 a0) * (wz y3 y2 y1 y0))))) (d := 29) rfl rfl (congrArg Value.bool (decide_eq_false (not_not_intro hb327))) (dv_move (T rfl rfl)) ?_
            refine lw_vy (.bool (decide (fits ((wz a3 a2 a1 a0) * (wz y3 y2 y1 y0))))) (d := 29) rfl rfl (congrArg Value.bool (decide_eq_false (not_not_intro hb327))) (dv_move (T rfl rfl)) ?_
            refine lw_vy (.bool ((decide (fits ((wz a3 a2 a1 a0) * (wz y3 y2 y1 y0)))) != (decide (fits ((wz a3 a2 a1 a0) * (wz y3 y2 y1 y0)))))) (d := 29) rfl rfl (congrArg Value.bool (decide_eq_false (not_not_intro hb327))) (dv_neqb (a := decide (fits ((wz a3 a2 a1 a0) * (wz y3 y2 y1 y0)))) (b := decide (fits ((wz a3 a2 a1 a0) * (wz y3 y2 y1 y0)))) ub4 (T rfl rfl) (T rfl rfl)) ?_
            refine lw_v (.bool ((decide (fits ((wz a3 a2 a1 a0) * (wz y3 y2 y1 y0)))) != (decide (fits ((wz a3 a2 a1 a0) * (wz y3 y2 y1 y0)))))) (dv_pick_f (T rfl (congrArg Value.bool (decide_eq_false (not_not_intro hb327)))) (T rfl rfl)) ?_
            refine lw_nil ?_
            rcases Bool.eq_false_or_eq_true ((decide (fits ((wz a3 a2 a1 a0) * (wz y3 y2 y1 y0)))) != (decide (fits ((wz a3 a2 a1 a0) * (wz y3 y2 y1 y0))))) with hb328 | hb328
            · -- aabbTT
              refine rk_ct (T rfl (congrArg Value.bool hb328)) ?_
              refine rk_seq ?_
              refine rk_reg ?_
              refine lw_v (.bool false) (dv_assign C) ?_
              refine lw_nil ?_
              refine rk_ret Try.func11 (v := .bool false) (res1 Try.results11 (rv_tmp rfl rfl)) ⟨_, rfl, ?_⟩
              exact ⟨(congrArg Value.bool (by grind)), E326⟩
            · -- aabbTF
              refine rk_cf (T rfl (congrArg Value.bool hb328)) ?_
              refine rk_skip ?_
              refine rk_seq ?_
              refine rk_reg ?_
              refine lw_v (.bool true) (dv_assign C) ?_
              refine lw_nil ?_
              refine rk_ret Try.func11 (v := .bool true) (res1 Try.results11 (rv_tmp rfl rfl)) ⟨_, rfl, ?_⟩
              exact ⟨rfl, E326⟩
          · -- aabbF
            refine lw_no (d := 29) rfl rfl (congrArg Value.bool (decide_eq_true hb327)) ?_
            refine lw_no (d := 29) rfl rfl (congrArg Value.bool (decide_eq_true hb327)) ?_
            refine lw_no (d := 29) rfl rfl (congrArg Value.bool (decide_eq_true hb327)) ?_
            refine lw_v (.bool true) (dv_pick_t (T rfl (congrArg Value.bool (decide_eq_true hb327))) C) ?_
            refine lw_nil ?_
            refine rk_ct (T rfl rfl) ?_
            refine rk_seq ?_
            refine rk_reg ?_
            refine lw_v (.bool false) (dv_assign C) ?_
            refine lw_nil ?_
            refine rk_ret Try.func11 (v := .bool false) (res1 Try.results11 (rv_tmp rfl rfl)) ⟨_, rfl, ?_⟩
            exact ⟨(congrArg Value.bool (by grind)), E326⟩
    · -- ab
      refine id (oe_alloc ze26 ?_)
      intro b329 w330 n331
      have N332 : w.heap.size ≤ b329 := n331.eq ▸ E18.size
      have : b6 < b329 := n331.eq ▸ lt_of_blk H20
      have E333 := below_ext E18 E18.size n331.ext
      have H334 := (n331.ext.blk H19)
      have H335 := (n331.ext.blk H20)
      refine ⟨.inr ⟨H334, H335⟩, ?_⟩
      refine aw_one 3 rfl (by kernel_rfl) .none (oe_callf (vs := [.agg #[.int .u64 y3, .int .u64 y2, .int .u64 y1, .int .u64 y0]]) co16 (ar1 (T rfl rfl)) (toWide_ok ) ?_)
      rintro _ w336 ⟨rfl, e337⟩
      have E338 := below_ext E333 E333.size e337
      have H339 := (e337.blk H334)
      have H340 := (e337.blk H335)
      refine ⟨.inr ⟨H339, H340⟩, ?_⟩
      refine aw_one 4 rfl (by kernel_rfl) .none (oe_callf (vs := [.agg #[.int .u64 a3, .int .u64 a2, .int .u64 a1, .int .u64 a0], .agg #[.int .u64 y3, .int .u64 y2, .int .u64 y1, .int .u64 y0]]) co35 (ar2 (T rfl rfl) (T rfl rfl)) (sWideMul_ok (by omega) (by omega) (by omega) (by omega) (by omega) (by omega) (by omega) (by omega)) ?_)
      rintro _ w341 ⟨rfl, e342⟩
      have E343 := below_ext E338 E338.size e342
      have H344 := (e342.blk H339)
      have H345 := (e342.blk H340)
      refine ⟨.inr ⟨H344, H345⟩, ?_⟩
      refine aw_pure 5 (.tuple #[.agg #[.int .u64 (wv3 ((wz a3 a2 a1 a0) * (wz y3 y2 y1 y0))), .int .u64 (wv2 ((wz a3 a2 a1 a0) * (wz y3 y2 y1 y0))), .int .u64 (wv1 ((wz a3 a2 a1 a0) * (wz y3 y2 y1 y0))), .int .u64 (wv0 ((wz a3 a2 a1 a0) * (wz y3 y2 y1 y0)))], .bool (decide (fits ((wz a3 a2 a1 a0) * (wz y3 y2 y1 y0))))]) rfl (by kernel_rfl) .none ⟨H344, H345⟩ (fun _ => dv_move (T rfl rfl)) ?_
      refine aw_pure 6 (.agg #[.int .u64 (wv3 ((wz a3 a2 a1 a0) * (wz y3 y2 y1 y0))), .int .u64 (wv2 ((wz a3 a2 a1 a0) * (wz y3 y2 y1 y0))), .int .u64 (wv1 ((wz a3 a2 a1 a0) * (wz y3 y2 y1 y0))), .int .u64 (wv0 ((wz a3 a2 a1 a0) * (wz y3 y2 y1 y0)))]) rfl (by kernel_rfl) .none ⟨H344, H345⟩ (fun _ => dv_extract (vs := #[.agg #[.int .u64 (wv3 ((wz a3 a2 a1 a0) * (wz y3 y2 y1 y0))), .int .u64 (wv2 ((wz a3 a2 a1 a0) * (wz y3 y2 y1 y0))), .int .u64 (wv1 ((wz a3 a2 a1 a0) * (wz y3 y2 y1 y0))), .int .u64 (wv0 ((wz a3 a2 a1 a0) * (wz y3 y2 y1 y0)))], .bool (decide (fits ((wz a3 a2 a1 a0) * (wz y3 y2 y1 y0))))]) (T rfl rfl) rfl) ?_
      refine aw_pure 7 (.bool (decide (fits ((wz a3 a2 a1 a0) * (wz y3 y2 y1 y0))))) rfl (by kernel_rfl) .none ⟨H344, H345⟩ (fun _ => dv_extract (vs := #[.agg #[.int .u64 (wv3 ((wz a3 a2 a1 a0) * (wz y3 y2 y1 y0))), .int .u64 (wv2 ((wz a3 a2 a1 a0) * (wz y3 y2 y1 y0))), .int .u64 (wv1 ((wz a3 a2 a1 a0) * (wz y3 y2 y1 y0))), .int .u64 (wv0 ((wz a3 a2 a1 a0) * (wz y3 y2 y1 y0)))], .bool (decide (fits ((wz a3 a2 a1 a0) * (wz y3 y2 y1 y0))))]) (T rfl rfl) rfl) ?_
      have H346 := (e342.blk (e337.blk n331.blk))
      refine aw_one 9 rfl (by kernel_rfl) .none (oe_store (v := .agg #[.int .u64 (wv3 ((wz a3 a2 a1 a0) * (wz y3 y2 y1 y0))), .int .u64 (wv2 ((wz a3 a2 a1 a0) * (wz y3 y2 y1 y0))), .int .u64 (wv1 ((wz a3 a2 a1 a0) * (wz y3 y2 y1 y0))), .int .u64 (wv0 ((wz a3 a2 a1 a0) * (wz y3 y2 y1 y0)))]) (vs := [.int .u64 (wv3 ((wz a3 a2 a1 a0) * (wz y3 y2 y1 y0))), .int .u64 (wv2 ((wz a3 a2 a1 a0) * (wz y3 y2 y1 y0))), .int .u64 (wv1 ((wz a3 a2 a1 a0) * (wz y3 y2 y1 y0))), .int .u64 (wv0 ((wz a3 a2 a1 a0) * (wz y3 y2 y1 y0)))]) (l := [.int .u64 (wv3 ((wz a3 a2 a1 a0) * (wz y3 y2 y1 y0))), .int .u64 (wv2 ((wz a3 a2 a1 a0) * (wz y3 y2 y1 y0))), .int .u64 (wv1 ((wz a3 a2 a1 a0) * (wz y3 y2 y1 y0))), .int .u64 (wv0 ((wz a3 a2 a1 a0) * (wz y3 y2 y1 y0)))]) (T rfl rfl) (T rfl rfl) sz26 rfl rfl rfl H346 rfl ?_)
      intro w347 s348 H349
      have E350 := below_st E343 N332 s348
      have H351 := (s348.blk H344 (by omega))
      have H352 := (s348.blk H345 (by omega))
      refine ⟨.inr ⟨H351, H352⟩, ?_⟩
      refine aw_last 10 (.bool (decide (fits ((wz a3 a2 a1 a0) * (wz y3 y2 y1 y0))))) rfl (by kernel_rfl) .none (fun _ => dv_assign (T rfl rfl)) ?_
      refine aw_done (by kernel_rfl) ?_
      refine rk_seq ?_
      refine rk_any (fun w => w.heap[b1]? = some (.cells #[.int .u64 a3, .int .u64 a2, .int .u64 a1, .int .u64 a0] 24) ∧ w.heap[b6]? = some (.cells #[.int .u64 y3, .int .u64 y2, .int .u64 y1, .int .u64 y0] 24)) [10] mo ?_
      intro w353 d354
      have E355 := below_ext E350 E350.size d354.ext
      have H356 := (d354.ext.blk H351)
      have H357 := (d354.ext.blk H352)
      refine aw_load 0 (.agg #[.int .u64 a3, .int .u64 a2, .int .u64 a1, .int .u64 a0]) rfl (by kernel_rfl) .none ⟨H356, H357⟩ (fun _ s => dv_loads (l := [.int .u64 a3, .int .u64 a2, .int .u64 a1, .int .u64 a0]) agt24 sz24 (T rfl rfl) s.1 rfl) ?_
      refine aw_load 2 (.agg #[.int .u64 y3, .int .u64 y2, .int .u64 y1, .int .u64 y0]) rfl (by kernel_rfl) .none ⟨H356, H357⟩ (fun _ s => dv_loads (l := [.int .u64 y3, .int .u64 y2, .int .u64 y1, .int .u64 y0]) agt24 sz24 (T rfl rfl) s.2 rfl) ?_
      refine aw_two 1 8 rfl rfl (by kernel_rfl) .none .none ?_ ?_
      · -- aba
        refine id (oe_callf (vs := [.agg #[.int .u64 a3, .int .u64 a2, .int .u64 a1, .int .u64 a0]]) co16 (ar1 (T rfl rfl)) (toWide_ok ) ?_)
        rintro _ w358 ⟨rfl, e359⟩
        have E360 := below_ext E355 E355.size e359
        have H361 := (e359.blk H356)
        have H362 := (e359.blk H357)
        refine ⟨.inr ⟨H361, H362⟩, ?_⟩
        refine aw_two 3 8 rfl rfl (by kernel_rfl) .none .none ?_ ?_
        · -- abaa
          refine id (oe_callf (vs := [.agg #[.int .u64 y3, .int .u64 y2, .int .u64 y1, .int .u64 y0]]) co16 (ar1 (T rfl rfl)) (toWide_ok ) ?_)
          rintro _ w363 ⟨rfl, e364⟩
          have E365 := below_ext E360 E360.size e364
          have H366 := (e364.blk H361)
          have H367 := (e364.blk H362)
          refine ⟨.inr ⟨H366, H367⟩, ?_⟩
          refine aw_two 4 8 rfl rfl (by kernel_rfl) .none .none ?_ ?_
          · -- abaaa
            refine id (oe_callf (vs := [.agg #[.int .u64 a3, .int .u64 a2, .int .u64 a1, .int .u64 a0], .agg #[.int .u64 y3, .int .u64 y2, .int .u64 y1, .int .u64 y0]]) co36 (ar2 (T rfl rfl) (T rfl rfl)) (iWideMul_ok (by omega) (by omega) (by omega) (by omega) (by omega) (by omega) (by omega) (by omega)) ?_)
            rintro _ w368 ⟨rfl, e369⟩
            have E370 := below_ext E365 E365.size e369
            have H371 := (e369.blk H366)
            have H372 := (e369.blk H367)
            refine ⟨.inr ⟨H371, H372⟩, ?_⟩
            refine aw_pure 5 (.tuple #[.agg #[.int .u64 (wv3 ((wz a3 a2 a1 a0) * (wz y3 y2 y1 y0))), .int .u64 (wv2 ((wz a3 a2 a1 a0) * (wz y3 y2 y1 y0))), .int .u64 (wv1 ((wz a3 a2 a1 a0) * (wz y3 y2 y1 y0))), .int .u64 (wv0 ((wz a3 a2 a1 a0) * (wz y3 y2 y1 y0)))], .bool (decide (fits ((wz a3 a2 a1 a0) * (wz y3 y2 y1 y0))))]) rfl (by kernel_rfl) .none ⟨H371, H372⟩ (fun _ => dv_move (T rfl rfl)) ?_
            refine aw_pure 6 (.agg #[.int .u64 (wv3 ((wz a3 a2 a1 a0) * (wz y3 y2 y1 y0))), .int .u64 (wv2 ((wz a3 a2 a1 a0) * (wz y3 y2 y1 y0))), .int .u64 (wv1 ((wz a3 a2 a1 a0) * (wz y3 y2 y1 y0))), .int .u64 (wv0 ((wz a3 a2 a1 a0) * (wz y3 y2 y1 y0)))]) rfl (by kernel_rfl) .none ⟨H371, H372⟩ (fun _ => dv_extract (vs := #[.agg #[.int .u64 (wv3 ((wz a3 a2 a1 a0) * (wz y3 y2 y1 y0))), .int .u64 (wv2 ((wz a3 a2 a1 a0) * (wz y3 y2 y1 y0))), .int .u64 (wv1 ((wz a3 a2 a1 a0) * (wz y3 y2 y1 y0))), .int .u64 (wv0 ((wz a3 a2 a1 a0) * (wz y3 y2 y1 y0)))], .bool (decide (fits ((wz a3 a2 a1 a0) * (wz y3 y2 y1 y0))))]) (T rfl rfl) rfl) ?_
            refine aw_pure 7 (.bool (decide (fits ((wz a3 a2 a1 a0) * (wz y3 y2 y1 y0))))) rfl (by kernel_rfl) .none ⟨H371, H372⟩ (fun _ => dv_extract (vs := #[.agg #[.int .u64 (wv3 ((wz a3 a2 a1 a0) * (wz y3 y2 y1 y0))), .int .u64 (wv2 ((wz a3 a2 a1 a0) * (wz y3 y2 y1 y0))), .int .u64 (wv1 ((wz a3 a2 a1 a0) * (wz y3 y2 y1 y0))), .int .u64 (wv0 ((wz a3 a2 a1 a0) * (wz y3 y2 y1 y0)))], .bool (decide (fits ((wz a3 a2 a1 a0) * (wz y3 y2 y1 y0))))]) (T rfl rfl) rfl) ?_
            refine aw_one 8 rfl (by kernel_rfl) .none (oe_alloc ze26 ?_)
            intro b373 w374 n375
            have N376 : w.heap.size ≤ b373 := n375.eq ▸ E370.size
            have H377 := (e369.blk (e364.blk (e359.blk (d354.ext.blk H349))))
            have : b329 < b373 := n375.eq ▸ lt_of_blk H377
            have E378 := below_ext E370 E370.size n375.ext
            have H379 := (n375.ext.blk H371)
            have H380 := (n375.ext.blk H372)
            refine ⟨.inr ⟨H379, H380⟩, ?_⟩
            refine aw_one 9 rfl (by kernel_rfl) .none (oe_store (v := .agg #[.int .u64 (wv3 ((wz a3 a2 a1 a0) * (wz y3 y2 y1 y0))), .int .u64 (wv2 ((wz a3 a2 a1 a0) * (wz y3 y2 y1 y0))), .int .u64 (wv1 ((wz a3 a2 a1 a0) * (wz y3 y2 y1 y0))), .int .u64 (wv0 ((wz a3 a2 a1 a0) * (wz y3 y2 y1 y0)))]) (vs := [.int .u64 (wv3 ((wz a3 a2 a1 a0) * (wz y3 y2 y1 y0))), .int .u64 (wv2 ((wz a3 a2 a1 a0) * (wz y3 y2 y1 y0))), .int .u64 (wv1 ((wz a3 a2 a1 a0) * (wz y3 y2 y1 y0))), .int .u64 (wv0 ((wz a3 a2 a1 a0) * (wz y3 y2 y1 y0)))]) (l := [.int .u64 (wv3 ((wz a3 a2 a1 a0) * (wz y3 y2 y1 y0))), .int .u64 (wv2 ((wz a3 a2 a1 a0) * (wz y3 y2 y1 y0))), .int .u64 (wv1 ((wz a3 a2 a1 a0) * (wz y3 y2 y1 y0))), .int .u64 (wv0 ((wz a3 a2 a1 a0) * (wz y3 y2 y1 y0)))]) (T rfl rfl) (T rfl rfl) sz26 rfl rfl rfl n375.blk rfl ?_)
            intro w381 s382 H383
            have E384 := below_st E378 N376 s382
            have H385 := (s382.blk H379 (by omega))
            have H386 := (s382.blk H380 (by omega))
            refine ⟨.inr ⟨H385, H386⟩, ?_⟩
            refine aw_last 10 (.bool (decide (fits ((wz a3 a2 a1 a0) * (wz y3 y2 y1 y0))))) rfl (by kernel_rfl) .none (fun _ => dv_assign (T rfl rfl)) ?_
            refine aw_done (by kernel_rfl) ?_
            refine rk_seq ?_
            refine rk_seq ?_
            refine rk_reg ?_
            refine lw_v (.agg #[.int .u64 (wv3 ((wz a3 a2 a1 a0) * (wz y3 y2 y1 y0))), .int .u64 (wv2 ((wz a3 a2 a1 a0) * (wz y3 y2 y1 y0))), .int .u64 (wv1 ((wz a3 a2 a1 a0) * (wz y3 y2 y1 y0))), .int .u64 (wv0 ((wz a3 a2 a1 a0) * (wz y3 y2 y1 y0)))]) (dv_loads (l := [.int .u64 (wv3 ((wz a3 a2 a1 a0) * (wz y3 y2 y1 y0))), .int .u64 (wv2 ((wz a3 a2 a1 a0) * (wz y3 y2 y1 y0))), .int .u64 (wv1 ((wz a3 a2 a1 a0) * (wz y3 y2 y1 y0))), .int .u64 (wv0 ((wz a3 a2 a1 a0) * (wz y3 y2 y1 y0)))]) agt26 sz26 (T rfl rfl) H383 rfl) ?_
            have H387 := (s382.blk (n375.ext.blk H377) (by omega))
            refine lw_v (.agg #[.int .u64 (wv3 ((wz a3 a2 a1 a0) * (wz y3 y2 y1 y0))), .int .u64 (wv2 ((wz a3 a2 a1 a0) * (wz y3 y2 y1 y0))), .int .u64 (wv1 ((wz a3 a2 a1 a0) * (wz y3 y2 y1 y0))), .int .u64 (wv0 ((wz a3 a2 a1 a0) * (wz y3 y2 y1 y0)))]) (dv_loads (l := [.int .u64 (wv3 ((wz a3 a2 a1 a0) * (wz y3 y2 y1 y0))), .int .u64 (wv2 ((wz a3 a2 a1 a0) * (wz y3 y2 y1 y0))), .int .u64 (wv1 ((wz a3 a2 a1 a0) * (wz y3 y2 y1 y0))), .int .u64 (wv0 ((wz a3 a2 a1 a0) * (wz y3 y2 y1 y0)))]) agt26 sz26 (T rfl rfl) H387 rfl) ?_
            refine lw_e (oe_callf (vs := [.agg #[.int .u64 (wv3 ((wz a3 a2 a1 a0) * (wz y3 y2 y1 y0))), .int .u64 (wv2 ((wz a3 a2 a1 a0) * (wz y3 y2 y1 y0))), .int .u64 (wv1 ((wz a3 a2 a1 a0) * (wz y3 y2 y1 y0))), .int .u64 (wv0 ((wz a3 a2 a1 a0) * (wz y3 y2 y1 y0)))], .agg #[.int .u64 (wv3 ((wz a3 a2 a1 a0) * (wz y3 y2 y1 y0))), .int .u64 (wv2 ((wz a3 a2 a1 a0) * (wz y3 y2 y1 y0))), .int .u64 (wv1 ((wz a3 a2 a1 a0) * (wz y3 y2 y1 y0))), .int .u64 (wv0 ((wz a3 a2 a1 a0) * (wz y3 y2 y1 y0)))]]) co24 (ar2 (T rfl rfl) (T rfl rfl)) (eqWide_ok ) ?_)
            rintro _ w388 ⟨rfl, e389⟩
            have E390 := below_ext E384 E384.size e389
            refine lw_v (.bool (decide (¬ ((wv3 ((wz a3 a2 a1 a0) * (wz y3 y2 y1 y0))) = (wv3 ((wz a3 a2 a1 a0) * (wz y3 y2 y1 y0))) ∧ (wv2 ((wz a3 a2 a1 a0) * (wz y3 y2 y1 y0))) = (wv2 ((wz a3 a2 a1 a0) * (wz y3 y2 y1 y0))) ∧ (wv1 ((wz a3 a2 a1 a0) * (wz y3 y2 y1 y0))) = (wv1 ((wz a3 a2 a1 a0) * (wz y3 y2 y1 y0))) ∧ (wv0 ((wz a3 a2 a1 a0) * (wz y3 y2 y1 y0))) = (wv0 ((wz a3 a2 a1 a0) * (wz y3 y2 y1 y0))))))) (dv_notd (p := (wv3 ((wz a3 a2 a1 a0) * (wz y3 y2 y1 y0))) = (wv3 ((wz a3 a2 a1 a0) * (wz y3 y2 y1 y0))) ∧ (wv2 ((wz a3 a2 a1 a0) * (wz y3 y2 y1 y0))) = (wv2 ((wz a3 a2 a1 a0) * (wz y3 y2 y1 y0))) ∧ (wv1 ((wz a3 a2 a1 a0) * (wz y3 y2 y1 y0))) = (wv1 ((wz a3 a2 a1 a0) * (wz y3 y2 y1 y0))) ∧ (wv0 ((wz a3 a2 a1 a0) * (wz y3 y2 y1 y0))) = (wv0 ((wz a3 a2 a1 a0) * (wz y3 y2 y1 y0)))) (T rfl rfl)) ?_
            refine lw_v (.bool (decide (¬ ((wv3 ((wz a3 a2 a1 a0) * (wz y3 y2 y1 y0))) = (wv3 ((wz a3 a2 a1 a0) * (wz y3 y2 y1 y0))) ∧ (wv2 ((wz a3 a2 a1 a0) * (wz y3 y2 y1 y0))) = (wv2 ((wz a3 a2 a1 a0) * (wz y3 y2 y1 y0))) ∧ (wv1 ((wz a3 a2 a1 a0) * (wz y3 y2 y1 y0))) = (wv1 ((wz a3 a2 a1 a0) * (wz y3 y2 y1 y0))) ∧ (wv0 ((wz a3 a2 a1 a0) * (wz y3 y2 y1 y0))) = (wv0 ((wz a3 a2 a1 a0) * (wz y3 y2 y1 y0))))))) (dv_move (T rfl rfl)) ?_
            by_cases hb391 : (wv3 ((wz a3 a2 a1 a0) * (wz y3 y2 y1 y0))) = (wv3 ((wz a3 a2 a1 a0) * (wz y3 y2 y1 y0))) ∧ (wv2 ((wz a3 a2 a1 a0) * (wz y3 y2 y1 y0))) = (wv2 ((wz a3 a2 a1 a0) * (wz y3 y2 y1 y0))) ∧ (wv1 ((wz a3 a2 a1 a0) * (wz y3 y2 y1 y0))) = (wv1 ((wz a3 a2 a1 a0) * (wz y3 y2 y1 y0))) ∧ (wv0 ((wz a3 a2 a1 a0) * (wz y3 y2 y1 y0))) = (wv0 ((wz a3 a2 a1 a0) * (wz y3 y2 y1 y0)))
            · -- abaaaT
              refine lw_vy (.bool (decide (fits ((wz a3 a2 a1 a0) * (wz y3 y2 y1 y0))))) (d := 29) rfl rfl (congrArg Value.bool (decide_eq_false (not_not_intro hb391))) (dv_move (T rfl rfl)) ?_
              refine lw_vy (.bool (decide (fits ((wz a3 a2 a1 a0) * (wz y3 y2 y1 y0))))) (d := 29) rfl rfl (congrArg Value.bool (decide_eq_false (not_not_intro hb391))) (dv_move (T rfl rfl)) ?_
              refine lw_vy (.bool ((decide (fits ((wz a3 a2 a1 a0) * (wz y3 y2 y1 y0)))) != (decide (fits ((wz a3 a2 a1 a0) * (wz y3 y2 y1 y0)))))) (d := 29) rfl rfl (congrArg Value.bool (decide_eq_false (not_not_intro hb391))) (dv_neqb (a := decide (fits ((wz a3 a2 a1 a0) * (wz y3 y2 y1 y0)))) (b := decide (fits ((wz a3 a2 a1 a0) * (wz y3 y2 y1 y0)))) ub4 (T rfl rfl) (T rfl rfl)) ?_
              refine lw_v (.bool ((decide (fits ((wz a3 a2 a1 a0) * (wz y3 y2 y1 y0)))) != (decide (fits ((wz a3 a2 a1 a0) * (wz y3 y2 y1 y0)))))) (dv_pick_f (T rfl (congrArg Value.bool (decide_eq_false (not_not_intro hb391)))) (T rfl rfl)) ?_
              refine lw_nil ?_
              rcases Bool.eq_false_or_eq_true ((decide (fits ((wz a3 a2 a1 a0) * (wz y3 y2 y1 y0)))) != (decide (fits ((wz a3 a2 a1 a0) * (wz y3 y2 y1 y0))))) with hb392 | hb392
              · -- abaaaTT
                refine rk_ct (T rfl (congrArg Value.bool hb392)) ?_
                refine rk_seq ?_
                refine rk_reg ?_
                refine lw_v (.bool false) (dv_assign C) ?_
                refine lw_nil ?_
                refine rk_ret Try.func11 (v := .bool false) (res1 Try.results11 (rv_tmp rfl rfl)) ⟨_, rfl, ?_⟩
                exact ⟨(congrArg Value.bool (by grind)), E390⟩
              · -- abaaaTF
                refine rk_cf (T rfl (congrArg Value.bool hb392)) ?_
                refine rk_skip ?_
                refine rk_seq ?_
                refine rk_reg ?_
                refine lw_v (.bool true) (dv_assign C) ?_
                refine lw_nil ?_
                refine rk_ret Try.func11 (v := .bool true) (res1 Try.results11 (rv_tmp rfl rfl)) ⟨_, rfl, ?_⟩
                exact ⟨rfl, E390⟩
            · -- abaaaF
              refine lw_no (d := 29) rfl rfl (congrArg Value.bool (decide_eq_true hb391)) ?_
              refine lw_no (d := 29) rfl rfl (congrArg Value.bool (decide_eq_true hb391)) ?_
              refine lw_no (d := 29) rfl rfl (congrArg Value.bool (decide_eq_true hb391)) ?_
              refine lw_v (.bool true) (dv_pick_t (T rfl (congrArg Value.bool (decide_eq_true hb391))) C) ?_
              refine lw_nil ?_
              refine rk_ct (T rfl rfl) ?_
              refine rk_seq ?_
              refine rk_reg ?_
              refine lw_v (.bool false) (dv_assign C) ?_
              refine lw_nil ?_
              refine rk_ret Try.func11 (v := .bool false) (res1 Try.results11 (rv_tmp rfl rfl)) ⟨_, rfl, ?_⟩
              exact ⟨(congrArg Value.bool (by grind)), E390⟩
          · -- abaab
            refine id (oe_alloc ze26 ?_)
            intro b393 w394 n395
            have N396 : w.heap.size ≤ b393 := n395.eq ▸ E365.size
            have H397 := (e364.blk (e359.blk (d354.ext.blk H349)))
            have : b329 < b393 := n395.eq ▸ lt_of_blk H397
            have E398 := below_ext E365 E365.size n395.ext
            have H399 := (n395.ext.blk H366)
            have H400 := (n395.ext.blk H367)
            refine ⟨.inr ⟨H399, H400⟩, ?_⟩
            refine aw_one 4 rfl (by kernel_rfl) .none (oe_callf (vs := [.agg #[.int .u64 a3, .int .u64 a2, .int .u64 a1, .int .u64 a0], .agg #[.int .u64 y3, .int .u64 y2, .int .u64 y1, .int .u64 y0]]) co36 (ar2 (T rfl rfl) (T rfl rfl)) (iWideMul_ok (by omega) (by omega) (by omega) (by omega) (by omega) (by omega) (by omega) (by omega)) ?_)
            rintro _ w401 ⟨rfl, e402⟩
            have E403 := below_ext E398 E398.size e402
            have H404 := (e402.blk H399)
            have H405 := (e402.blk H400)
            refine ⟨.inr ⟨H404, H405⟩, ?_⟩
            refine aw_pure 5 (.tuple #[.agg #[.int .u64 (wv3 ((wz a3 a2 a1 a0) * (wz y3 y2 y1 y0))), .int .u64 (wv2 ((wz a3 a2 a1 a0) * (wz y3 y2 y1 y0))), .int .u64 (wv1 ((wz a3 a2 a1 a0) * (wz y3 y2 y1 y0))), .int .u64 (wv0 ((wz a3 a2 a1 a0) * (wz y3 y2 y1 y0)))], .bool (decide (fits ((wz a3 a2 a1 a0) * (wz y3 y2 y1 y0))))]) rfl (by kernel_rfl) .none ⟨H404, H405⟩ (fun _ => dv_move (T rfl rfl)) ?_
            refine aw_pure 6 (.agg #[.int .u64 (wv3 ((wz a3 a2 a1 a0) * (wz y3 y2 y1 y0))), .int .u64 (wv2 ((wz a3 a2 a1 a0) * (wz y3 y2 y1 y0))), .int .u64 (wv1 ((wz a3 a2 a1 a0) * (wz y3 y2 y1 y0))), .int .u64 (wv0 ((wz a3 a2 a1 a0) * (wz y3 y2 y1 y0)))]) rfl (by kernel_rfl) .none ⟨H404, H405⟩ (fun _ => dv_extract (vs := #[.agg #[.int .u64 (wv3 ((wz a3 a2 a1 a0) * (wz y3 y2 y1 y0))), .int .u64 (wv2 ((wz a3 a2 a1 a0) * (wz y3 y2 y1 y0))), .int .u64 (wv1 ((wz a3 a2 a1 a0) * (wz y3 y2 y1 y0))), .int .u64 (wv0 ((wz a3 a2 a1 a0) * (wz y3 y2 y1 y0)))], .bool (decide (fits ((wz a3 a2 a1 a0) * (wz y3 y2 y1 y0))))]) (T rfl rfl) rfl) ?_
            refine aw_pure 7 (.bool (decide (fits ((wz a3 a2 a1 a0) * (wz y3 y2 y1 y0))))) rfl (by kernel_rfl) .none ⟨H404, H405⟩ (fun _ => dv_extract (vs := #[.agg #[.int .u64 (wv3 ((wz a3 a2 a1 a0) * (wz y3 y2 y1 y0))), .int .u64 (wv2 ((wz a3 a2 a1 a0) * (wz y3 y2 y1 y0))), .int .u64 (wv1 ((wz a3 a2 a1 a0) * (wz y3 y2 y1 y0))), .int .u64 (wv0 ((wz a3 a2 a1 a0) * (wz y3 y2 y1 y0)))], .bool (decide (fits ((wz a3 a2 a1 a0) * (wz y3 y2 y1 y0))))]) (T rfl rfl) rfl) ?_
            have H406 := (e402.blk n395.blk)
            refine aw_one 9 rfl (by kernel_rfl) .none (oe_store (v := .agg #[.int .u64 (wv3 ((wz a3 a2 a1 a0) * (wz y3 y2 y1 y0))), .int .u64 (wv2 ((wz a3 a2 a1 a0) * (wz y3 y2 y1 y0))), .int .u64 (wv1 ((wz a3 a2 a1 a0) * (wz y3 y2 y1 y0))), .int .u64 (wv0 ((wz a3 a2 a1 a0) * (wz y3 y2 y1 y0)))]) (vs := [.int .u64 (wv3 ((wz a3 a2 a1 a0) * (wz y3 y2 y1 y0))), .int .u64 (wv2 ((wz a3 a2 a1 a0) * (wz y3 y2 y1 y0))), .int .u64 (wv1 ((wz a3 a2 a1 a0) * (wz y3 y2 y1 y0))), .int .u64 (wv0 ((wz a3 a2 a1 a0) * (wz y3 y2 y1 y0)))]) (l := [.int .u64 (wv3 ((wz a3 a2 a1 a0) * (wz y3 y2 y1 y0))), .int .u64 (wv2 ((wz a3 a2 a1 a0) * (wz y3 y2 y1 y0))), .int .u64 (wv1 ((wz a3 a2 a1 a0) * (wz y3 y2 y1 y0))), .int .u64 (wv0 ((wz a3 a2 a1 a0) * (wz y3 y2 y1 y0)))]) (T rfl rfl) (T rfl rfl) sz26 rfl rfl rfl H406 rfl ?_)
            intro w407 s408 H409
            have E410 := below_st E403 N396 s408
            have H411 := (s408.blk H404 (by omega))
            have H412 := (s408.blk H405 (by omega))
            refine ⟨.inr ⟨H411, H412⟩, ?_⟩
            refine aw_last 10 (.bool (decide (fits ((wz a3 a2 a1 a0) * (wz y3 y2 y1 y0))))) rfl (by kernel_rfl) .none (fun _ => dv_assign (T rfl rfl)) ?_
            refine aw_done (by kernel_rfl) ?_
            refine rk_seq ?_
            refine rk_seq ?_
            refine rk_reg ?_
            refine lw_v (.agg #[.int .u64 (wv3 ((wz a3 a2 a1 a0) * (wz y3 y2 y1 y0))), .int .u64 (wv2 ((wz a3 a2 a1 a0) * (wz y3 y2 y1 y0))), .int .u64 (wv1 ((wz a3 a2 a1 a0) * (wz y3 y2 y1 y0))), .int .u64 (wv0 ((wz a3 a2 a1 a0) * (wz y3 y2 y1 y0)))]) (dv_loads (l := [.int .u64 (wv3 ((wz a3 a2 a1 a0) * (wz y3 y2 y1 y0))), .int .u64 (wv2 ((wz a3 a2 a1 a0) * (wz y3 y2 y1 y0))), .int .u64 (wv1 ((wz a3 a2 a1 a0) * (wz y3 y2 y1 y0))), .int .u64 (wv0 ((wz a3 a2 a1 a0) * (wz y3 y2 y1 y0)))]) agt26 sz26 (T rfl rfl) H409 rfl) ?_
            have H413 := (s408.blk (e402.blk (n395.ext.blk H397)) (by omega))
            refine lw_v (.agg #[.int .u64 (wv3 ((wz a3 a2 a1 a0) * (wz y3 y2 y1 y0))), .int .u64 (wv2 ((wz a3 a2 a1 a0) * (wz y3 y2 y1 y0))), .int .u64 (wv1 ((wz a3 a2 a1 a0) * (wz y3 y2 y1 y0))), .int .u64 (wv0 ((wz a3 a2 a1 a0) * (wz y3 y2 y1 y0)))]) (dv_loads (l := [.int .u64 (wv3 ((wz a3 a2 a1 a0) * (wz y3 y2 y1 y0))), .int .u64 (wv2 ((wz a3 a2 a1 a0) * (wz y3 y2 y1 y0))), .int .u64 (wv1 ((wz a3 a2 a1 a0) * (wz y3 y2 y1 y0))), .int .u64 (wv0 ((wz a3 a2 a1 a0) * (wz y3 y2 y1 y0)))]) agt26 sz26 (T rfl rfl) H413 rfl) ?_
            refine lw_e (oe_callf (vs := [.agg #[.int .u64 (wv3 ((wz a3 a2 a1 a0) * (wz y3 y2 y1 y0))), .int .u64 (wv2 ((wz a3 a2 a1 a0) * (wz y3 y2 y1 y0))), .int .u64 (wv1 ((wz a3 a2 a1 a0) * (wz y3 y2 y1 y0))), .int .u64 (wv0 ((wz a3 a2 a1 a0) * (wz y3 y2 y1 y0)))], .agg #[.int .u64 (wv3 ((wz a3 a2 a1 a0) * (wz y3 y2 y1 y0))), .int .u64 (wv2 ((wz a3 a2 a1 a0) * (wz y3 y2 y1 y0))), .int .u64 (wv1 ((wz a3 a2 a1 a0) * (wz y3 y2 y1 y0))), .int .u64 (wv0 ((wz a3 a2 a1 a0) * (wz y3 y2 y1 y0)))]]) co24 (ar2 (T rfl rfl) (T rfl rfl)) (eqWide_ok ) ?_)
            rintro _ w414 ⟨rfl, e415⟩
            have E416 := below_ext E410 E410.size e415
            refine lw_v (.bool (decide (¬ ((wv3 ((wz a3 a2 a1 a0) * (wz y3 y2 y1 y0))) = (wv3 ((wz a3 a2 a1 a0) * (wz y3 y2 y1 y0))) ∧ (wv2 ((wz a3 a2 a1 a0) * (wz y3 y2 y1 y0))) = (wv2 ((wz a3 a2 a1 a0) * (wz y3 y2 y1 y0))) ∧ (wv1 ((wz a3 a2 a1 a0) * (wz y3 y2 y1 y0))) = (wv1 ((wz a3 a2 a1 a0) * (wz y3 y2 y1 y0))) ∧ (wv0 ((wz a3 a2 a1 a0) * (wz y3 y2 y1 y0))) = (wv0 ((wz a3 a2 a1 a0) * (wz y3 y2 y1 y0))))))) (dv_notd (p := (wv3 ((wz a3 a2 a1 a0) * (wz y3 y2 y1 y0))) = (wv3 ((wz a3 a2 a1 a0) * (wz y3 y2 y1 y0))) ∧ (wv2 ((wz a3 a2 a1 a0) * (wz y3 y2 y1 y0))) = (wv2 ((wz a3 a2 a1 a0) * (wz y3 y2 y1 y0))) ∧ (wv1 ((wz a3 a2 a1 a0) * (wz y3 y2 y1 y0))) = (wv1 ((wz a3 a2 a1 a0) * (wz y3 y2 y1 y0))) ∧ (wv0 ((wz a3 a2 a1 a0) * (wz y3 y2 y1 y0))) = (wv0 ((wz a3 a2 a1 a0) * (wz y3 y2 y1 y0)))) (T rfl rfl)) ?_
            refine lw_v (.bool (decide (¬ ((wv3 ((wz a3 a2 a1 a0) * (wz y3 y2 y1 y0))) = (wv3 ((wz a3 a2 a1 a0) * (wz y3 y2 y1 y0))) ∧ (wv2 ((wz a3 a2 a1 a0) * (wz y3 y2 y1 y0))) = (wv2 ((wz a3 a2 a1 a0) * (wz y3 y2 y1 y0))) ∧ (wv1 ((wz a3 a2 a1 a0) * (wz y3 y2 y1 y0))) = (wv1 ((wz a3 a2 a1 a0) * (wz y3 y2 y1 y0))) ∧ (wv0 ((wz a3 a2 a1 a0) * (wz y3 y2 y1 y0))) = (wv0 ((wz a3 a2 a1 a0) * (wz y3 y2 y1 y0))))))) (dv_move (T rfl rfl)) ?_
            by_cases hb417 : (wv3 ((wz a3 a2 a1 a0) * (wz y3 y2 y1 y0))) = (wv3 ((wz a3 a2 a1 a0) * (wz y3 y2 y1 y0))) ∧ (wv2 ((wz a3 a2 a1 a0) * (wz y3 y2 y1 y0))) = (wv2 ((wz a3 a2 a1 a0) * (wz y3 y2 y1 y0))) ∧ (wv1 ((wz a3 a2 a1 a0) * (wz y3 y2 y1 y0))) = (wv1 ((wz a3 a2 a1 a0) * (wz y3 y2 y1 y0))) ∧ (wv0 ((wz a3 a2 a1 a0) * (wz y3 y2 y1 y0))) = (wv0 ((wz a3 a2 a1 a0) * (wz y3 y2 y1 y0)))
            · -- abaabT
              refine lw_vy (.bool (decide (fits ((wz a3 a2 a1 a0) * (wz y3 y2 y1 y0))))) (d := 29) rfl rfl (congrArg Value.bool (decide_eq_false (not_not_intro hb417))) (dv_move (T rfl rfl)) ?_
              refine lw_vy (.bool (decide (fits ((wz a3 a2 a1 a0) * (wz y3 y2 y1 y0))))) (d := 29) rfl rfl (congrArg Value.bool (decide_eq_false (not_not_intro hb417))) (dv_move (T rfl rfl)) ?_
              refine lw_vy (.bool ((decide (fits ((wz a3 a2 a1 a0) * (wz y3 y2 y1 y0)))) != (decide (fits ((wz a3 a2 a1 a0) * (wz y3 y2 y1 y0)))))) (d := 29) rfl rfl (congrArg Value.bool (decide_eq_false (not_not_intro hb417))) (dv_neqb (a := decide (fits ((wz a3 a2 a1 a0) * (wz y3 y2 y1 y0)))) (b := decide (fits ((wz a3 a2 a1 a0) * (wz y3 y2 y1 y0)))) ub4 (T rfl rfl) (T rfl rfl)) ?_
              refine lw_v (.bool ((decide (fits ((wz a3 a2 a1 a0) * (wz y3 y2 y1 y0)))) != (decide (fits ((wz a3 a2 a1 a0) * (wz y3 y2 y1 y0)))))) (dv_pick_f (T rfl (congrArg Value.bool (decide_eq_false (not_not_intro hb417)))) (T rfl rfl)) ?_
              refine lw_nil ?_
              rcases Bool.eq_false_or_eq_true ((decide (fits ((wz a3 a2 a1 a0) * (wz y3 y2 y1 y0)))) != (decide (fits ((wz a3 a2 a1 a0) * (wz y3 y2 y1 y0))))) with hb418 | hb418
              · -- abaabTT
                refine rk_ct (T rfl (congrArg Value.bool hb418)) ?_
                refine rk_seq ?_
                refine rk_reg ?_
                refine lw_v (.bool false) (dv_assign C) ?_
                refine lw_nil ?_
                refine rk_ret Try.func11 (v := .bool false) (res1 Try.results11 (rv_tmp rfl rfl)) ⟨_, rfl, ?_⟩
                exact ⟨(congrArg Value.bool (by grind)), E416⟩
              · -- abaabTF
                refine rk_cf (T rfl (congrArg Value.bool hb418)) ?_
                refine rk_skip ?_
                refine rk_seq ?_
                refine rk_reg ?_
                refine lw_v (.bool true) (dv_assign C) ?_
                refine lw_nil ?_
                refine rk_ret Try.func11 (v := .bool true) (res1 Try.results11 (rv_tmp rfl rfl)) ⟨_, rfl, ?_⟩
                exact ⟨rfl, E416⟩
            · -- abaabF
              refine lw_no (d := 29) rfl rfl (congrArg Value.bool (decide_eq_true hb417)) ?_
              refine lw_no (d := 29) rfl rfl (congrArg Value.bool (decide_eq_true hb417)) ?_
              refine lw_no (d := 29) rfl rfl (congrArg Value.bool (decide_eq_true hb417)) ?_
              refine lw_v (.bool true) (dv_pick_t (T rfl (congrArg Value.bool (decide_eq_true hb417))) C) ?_
              refine lw_nil ?_
              refine rk_ct (T rfl rfl) ?_
              refine rk_seq ?_
              refine rk_reg ?_
              refine lw_v (.bool false) (dv_assign C) ?_
              refine lw_nil ?_
              refine rk_ret Try.func11 (v := .bool false) (res1 Try.results11 (rv_tmp rfl rfl)) ⟨_, rfl, ?_⟩
              exact ⟨(congrArg Value.bool (by grind)), E416⟩
        · -- abab
          refine id (oe_alloc ze26 ?_)
          intro b419 w420 n421
          have N422 : w.heap.size ≤ b419 := n421.eq ▸ E360.size
          have H423 := (e359.blk (d354.ext.blk H349))
          have : b329 < b419 := n421.eq ▸ lt_of_blk H423
          have E424 := below_ext E360 E360.size n421.ext
          have H425 := (n421.ext.blk H361)
          have H426 := (n421.ext.blk H362)
          refine ⟨.inr ⟨H425, H426⟩, ?_⟩
          refine aw_one 3 rfl (by kernel_rfl) .none (oe_callf (vs := [.agg #[.int .u64 y3, .int .u64 y2, .int .u64 y1, .int .u64 y0]]) co16 (ar1 (T rfl rfl)) (toWide_ok ) ?_)
          rintro _ w427 ⟨rfl, e428⟩
          have E429 := below_ext E424 E424.size e428
          have H430 := (e428.blk H425)
          have H431 := (e428.blk H426)
          refine ⟨.inr ⟨H430, H431⟩, ?_⟩
          refine aw_one 4 rfl (by kernel_rfl) .none (oe_callf (vs := [.agg #[.int .u64 a3, .int .u64 a2, .int .u64 a1, .int .u64 a0], .agg #[.int .u64 y3, .int .u64 y2, .int .u64 y1, .int .u64 y0]]) co36 (ar2 (T rfl rfl) (T rfl rfl)) (iWideMul_ok (by omega) (by omega) (by omega) (by omega) (by omega) (by omega) (by omega) (by omega)) ?_)
          rintro _ w432 ⟨rfl, e433⟩
          have E434 := below_ext E429 E429.size e433
          have H435 := (e433.blk H430)
          have H436 := (e433.blk H431)
          refine ⟨.inr ⟨H435, H436⟩, ?_⟩
          refine aw_pure 5 (.tuple #[.agg #[.int .u64 (wv3 ((wz a3 a2 a1 a0) * (wz y3 y2 y1 y0))), .int .u64 (wv2 ((wz a3 a2 a1 a0) * (wz y3 y2 y1 y0))), .int .u64 (wv1 ((wz a3 a2 a1 a0) * (wz y3 y2 y1 y0))), .int .u64 (wv0 ((wz a3 a2 a1 a0) * (wz y3 y2 y1 y0)))], .bool (decide (fits ((wz a3 a2 a1 a0) * (wz y3 y2 y1 y0))))]) rfl (by kernel_rfl) .none ⟨H435, H436⟩ (fun _ => dv_move (T rfl rfl)) ?_
          refine aw_pure 6 (.agg #[.int .u64 (wv3 ((wz a3 a2 a1 a0) * (wz y3 y2 y1 y0))), .int .u64 (wv2 ((wz a3 a2 a1 a0) * (wz y3 y2 y1 y0))), .int .u64 (wv1 ((wz a3 a2 a1 a0) * (wz y3 y2 y1 y0))), .int .u64 (wv0 ((wz a3 a2 a1 a0) * (wz y3 y2 y1 y0)))]) rfl (by kernel_rfl) .none ⟨H435, H436⟩ (fun _ => dv_extract (vs := #[.agg #[.int .u64 (wv3 ((wz a3 a2 a1 a0) * (wz y3 y2 y1 y0))), .int .u64 (wv2 ((wz a3 a2 a1 a0) * (wz y3 y2 y1 y0))), .int .u64 (wv1 ((wz a3 a2 a1 a0) * (wz y3 y2 y1 y0))), .int .u64 (wv0 ((wz a3 a2 a1 a0) * (wz y3 y2 y1 y0)))], .bool (decide (fits ((wz a3 a2 a1 a0) * (wz y3 y2 y1 y0))))]) (T rfl rfl) rfl) ?_
          refine aw_pure 7 (.bool (decide (fits ((wz a3 a2 a1 a0) * (wz y3 y2 y1 y0))))) rfl (by kernel_rfl) .none ⟨H435, H436⟩ (fun _ => dv_extract (vs := #[.agg #[.int .u64 (wv3 ((wz a3 a2 a1 a0) * (wz y3 y2 y1 y0))), .int .u64 (wv2 ((wz a3 a2 a1 a0) * (wz y3 y2 y1 y0))), .int .u64 (wv1 ((wz a3 a2 a1 a0) * (wz y3 y2 y1 y0))), .int .u64 (wv0 ((wz a3 a2 a1 a0) * (wz y3 y2 y1 y0)))], .bool (decide (fits ((wz a3 a2 a1 a0) * (wz y3 y2 y1 y0))))]) (T rfl rfl) rfl) ?_
          have H437 := (e433.blk (e428.blk n421.blk))
          refine aw_one 9 rfl (by kernel_rfl) .none (oe_store (v := .agg #[.int .u64 (wv3 ((wz a3 a2 a1 a0) * (wz y3 y2 y1 y0))), .int .u64 (wv2 ((wz a3 a2 a1 a0) * (wz y3 y2 y1 y0))), .int .u64 (wv1 ((wz a3 a2 a1 a0) * (wz y3 y2 y1 y0))), .int .u64 (wv0 ((wz a3 a2 a1 a0) * (wz y3 y2 y1 y0)))]) (vs := [.int .u64 (wv3 ((wz a3 a2 a1 a0) * (wz y3 y2 y1 y0))), .int .u64 (wv2 ((wz a3 a2 a1 a0) * (wz y3 y2 y1 y0))), .int .u64 (wv1 ((wz a3 a2 a1 a0) * (wz y3 y2 y1 y0))), .int .u64 (wv0 ((wz a3 a2 a1 a0) * (wz y3 y2 y1 y0)))]) (l := [.int .u64 (wv3 ((wz a3 a2 a1 a0) * (wz y3 y2 y1 y0))), .int .u64 (wv2 ((wz a3 a2 a1 a0) * (wz y3 y2 y1 y0))), .int .u64 (wv1 ((wz a3 a2 a1 a0) * (wz y3 y2 y1 y0))), .int .u64 (wv0 ((wz a3 a2 a1 a0) * (wz y3 y2 y1 y0)))]) (T rfl rfl) (T rfl rfl) sz26 rfl rfl rfl H437 rfl ?_)
          intro w438 s439 H440
          have E441 := below_st E434 N422 s439
          have H442 := (s439.blk H435 (by omega))
          have H443 := (s439.blk H436 (by omega))
          refine ⟨.inr ⟨H442, H443⟩, ?_⟩
          refine aw_last 10 (.bool (decide (fits ((wz a3 a2 a1 a0) * (wz y3 y2 y1 y0))))) rfl (by kernel_rfl) .none (fun _ => dv_assign (T rfl rfl)) ?_
          refine aw_done (by kernel_rfl) ?_
          refine rk_seq ?_
          refine rk_seq ?_
          refine rk_reg ?_
          refine lw_v (.agg #[.int .u64 (wv3 ((wz a3 a2 a1 a0) * (wz y3 y2 y1 y0))), .int .u64 (wv2 ((wz a3 a2 a1 a0) * (wz y3 y2 y1 y0))), .int .u64 (wv1 ((wz a3 a2 a1 a0) * (wz y3 y2 y1 y0))), .int .u64 (wv0 ((wz a3 a2 a1 a0) * (wz y3 y2 y1 y0)))]) (dv_loads (l := [.int .u64 (wv3 ((wz a3 a2 a1 a0) * (wz y3 y2 y1 y0))), .int .u64 (wv2 ((wz a3 a2 a1 a0) * (wz y3 y2 y1 y0))), .int .u64 (wv1 ((wz a3 a2 a1 a0) * (wz y3 y2 y1 y0))), .int .u64 (wv0 ((wz a3 a2 a1 a0) * (wz y3 y2 y1 y0)))]) agt26 sz26 (T rfl rfl) H440 rfl) ?_
          have H444 := (s439.blk (e433.blk (e428.blk (n421.ext.blk H423))) (by omega))
          refine lw_v (.agg #[.int .u64 (wv3 ((wz a3 a2 a1 a0) * (wz y3 y2 y1 y0))), .int .u64 (wv2 ((wz a3 a2 a1 a0) * (wz y3 y2 y1 y0))), .int .u64 (wv1 ((wz a3 a2 a1 a0) * (wz y3 y2 y1 y0))), .int .u64 (wv0 ((wz a3 a2 a1 a0) * (wz y3 y2 y1 y0)))]) (dv_loads (l := [.int .u64 (wv3 ((wz a3 a2 a1 a0) * (wz y3 y2 y1 y0))), .int .u64 (wv2 ((wz a3 a2 a1 a0) * (wz y3 y2 y1 y0))), .int .u64 (wv1 ((wz a3 a2 a1 a0) * (wz y3 y2 y1 y0))), .int .u64 (wv0 ((wz a3 a2 a1 a0) * (wz y3 y2 y1 y0)))]) agt26 sz26 (T rfl rfl) H444 rfl) ?_
          refine lw_e (oe_callf (vs := [.agg #[.int .u64 (wv3 ((wz a3 a2 a1 a0) * (wz y3 y2 y1 y0))), .int .u64 (wv2 ((wz a3 a2 a1 a0) * (wz y3 y2 y1 y0))), .int .u64 (wv1 ((wz a3 a2 a1 a0) * (wz y3 y2 y1 y0))), .int .u64 (wv0 ((wz a3 a2 a1 a0) * (wz y3 y2 y1 y0)))], .agg #[.int .u64 (wv3 ((wz a3 a2 a1 a0) * (wz y3 y2 y1 y0))), .int .u64 (wv2 ((wz a3 a2 a1 a0) * (wz y3 y2 y1 y0))), .int .u64 (wv1 ((wz a3 a2 a1 a0) * (wz y3 y2 y1 y0))), .int .u64 (wv0 ((wz a3 a2 a1 a0) * (wz y3 y2 y1 y0)))]]) co24 (ar2 (T rfl rfl) (T rfl rfl)) (eqWide_ok ) ?_)
          rintro _ w445 ⟨rfl, e446⟩
          have E447 := below_ext E441 E441.size e446
          refine lw_v (.bool (decide (¬ ((wv3 ((wz a3 a2 a1 a0) * (wz y3 y2 y1 y0))) = (wv3 ((wz a3 a2 a1 a0) * (wz y3 y2 y1 y0))) ∧ (wv2 ((wz a3 a2 a1 a0) * (wz y3 y2 y1 y0))) = (wv2 ((wz a3 a2 a1 a0) * (wz y3 y2 y1 y0))) ∧ (wv1 ((wz a3 a2 a1 a0) * (wz y3 y2 y1 y0))) = (wv1 ((wz a3 a2 a1 a0) * (wz y3 y2 y1 y0))) ∧ (wv0 ((wz a3 a2 a1 a0) * (wz y3 y2 y1 y0))) = (wv0 ((wz a3 a2 a1 a0) * (wz y3 y2 y1 y0))))))) (dv_notd (p := (wv3 ((wz a3 a2 a1 a0) * (wz y3 y2 y1 y0))) = (wv3 ((wz a3 a2 a1 a0) * (wz y3 y2 y1 y0))) ∧ (wv2 ((wz a3 a2 a1 a0) * (wz y3 y2 y1 y0))) = (wv2 ((wz a3 a2 a1 a0) * (wz y3 y2 y1 y0))) ∧ (wv1 ((wz a3 a2 a1 a0) * (wz y3 y2 y1 y0))) = (wv1 ((wz a3 a2 a1 a0) * (wz y3 y2 y1 y0))) ∧ (wv0 ((wz a3 a2 a1 a0) * (wz y3 y2 y1 y0))) = (wv0 ((wz a3 a2 a1 a0) * (wz y3 y2 y1 y0)))) (T rfl rfl)) ?_
          refine lw_v (.bool (decide (¬ ((wv3 ((wz a3 a2 a1 a0) * (wz y3 y2 y1 y0))) = (wv3 ((wz a3 a2 a1 a0) * (wz y3 y2 y1 y0))) ∧ (wv2 ((wz a3 a2 a1 a0) * (wz y3 y2 y1 y0))) = (wv2 ((wz a3 a2 a1 a0) * (wz y3 y2 y1 y0))) ∧ (wv1 ((wz a3 a2 a1 a0) * (wz y3 y2 y1 y0))) = (wv1 ((wz a3 a2 a1 a0) * (wz y3 y2 y1 y0))) ∧ (wv0 ((wz a3 a2 a1 a0) * (wz y3 y2 y1 y0))) = (wv0 ((wz a3 a2 a1 a0) * (wz y3 y2 y1 y0))))))) (dv_move (T rfl rfl)) ?_
          by_cases hb448 : (wv3 ((wz a3 a2 a1 a0) * (wz y3 y2 y1 y0))) = (wv3 ((wz a3 a2 a1 a0) * (wz y3 y2 y1 y0))) ∧ (wv2 ((wz a3 a2 a1 a0) * (wz y3 y2 y1 y0))) = (wv2 ((wz a3 a2 a1 a0) * (wz y3 y2 y1 y0))) ∧ (wv1 ((wz a3 a2 a1 a0) * (wz y3 y2 y1 y0))) = (wv1 ((wz a3 a2 a1 a0) * (wz y3 y2 y1 y0))) ∧ (wv0 ((wz a3 a2 a1 a0) * (wz y3 y2 y1 y0))) = (wv0 ((wz a3 a2 a1 a0) * (wz y3 y2 y1 y0)))
          · -- ababT
            refine lw_vy (.bool (decide (fits ((wz a3 a2 a1 a0) * (wz y3 y2 y1 y0))))) (d := 29) rfl rfl (congrArg Value.bool (decide_eq_false (not_not_intro hb448))) (dv_move (T rfl rfl)) ?_
            refine lw_vy (.bool (decide (fits ((wz a3 a2 a1 a0) * (wz y3 y2 y1 y0))))) (d := 29) rfl rfl (congrArg Value.bool (decide_eq_false (not_not_intro hb448))) (dv_move (T rfl rfl)) ?_
            refine lw_vy (.bool ((decide (fits ((wz a3 a2 a1 a0) * (wz y3 y2 y1 y0)))) != (decide (fits ((wz a3 a2 a1 a0) * (wz y3 y2 y1 y0)))))) (d := 29) rfl rfl (congrArg Value.bool (decide_eq_false (not_not_intro hb448))) (dv_neqb (a := decide (fits ((wz a3 a2 a1 a0) * (wz y3 y2 y1 y0)))) (b := decide (fits ((wz a3 a2 a1 a0) * (wz y3 y2 y1 y0)))) ub4 (T rfl rfl) (T rfl rfl)) ?_
            refine lw_v (.bool ((decide (fits ((wz a3 a2 a1 a0) * (wz y3 y2 y1 y0)))) != (decide (fits ((wz a3 a2 a1 a0) * (wz y3 y2 y1 y0)))))) (dv_pick_f (T rfl (congrArg Value.bool (decide_eq_false (not_not_intro hb448)))) (T rfl rfl)) ?_
            refine lw_nil ?_
            rcases Bool.eq_false_or_eq_true ((decide (fits ((wz a3 a2 a1 a0) * (wz y3 y2 y1 y0)))) != (decide (fits ((wz a3 a2 a1 a0) * (wz y3 y2 y1 y0))))) with hb449 | hb449
            · -- ababTT
              refine rk_ct (T rfl (congrArg Value.bool hb449)) ?_
              refine rk_seq ?_
              refine rk_reg ?_
              refine lw_v (.bool false) (dv_assign C) ?_
              refine lw_nil ?_
              refine rk_ret Try.func11 (v := .bool false) (res1 Try.results11 (rv_tmp rfl rfl)) ⟨_, rfl, ?_⟩
              exact ⟨(congrArg Value.bool (by grind)), E447⟩
            · -- ababTF
              refine rk_cf (T rfl (congrArg Value.bool hb449)) ?_
              refine rk_skip ?_
              refine rk_seq ?_
              refine rk_reg ?_
              refine lw_v (.bool true) (dv_assign C) ?_
              refine lw_nil ?_
              refine rk_ret Try.func11 (v := .bool true) (res1 Try.results11 (rv_tmp rfl rfl)) ⟨_, rfl, ?_⟩
              exact ⟨rfl, E447⟩
          · -- ababF
            refine lw_no (d := 29) rfl rfl (congrArg Value.bool (decide_eq_true hb448)) ?_
            refine lw_no (d := 29) rfl rfl (congrArg Value.bool (decide_eq_true hb448)) ?_
            refine lw_no (d := 29) rfl rfl (congrArg Value.bool (decide_eq_true hb448)) ?_
            refine lw_v (.bool true) (dv_pick_t (T rfl (congrArg Value.bool (decide_eq_true hb448))) C) ?_
            refine lw_nil ?_
            refine rk_ct (T rfl rfl) ?_
            refine rk_seq ?_
            refine rk_reg ?_
            refine lw_v (.bool false) (dv_assign C) ?_
            refine lw_nil ?_
            refine rk_ret Try.func11 (v := .bool false) (res1 Try.results11 (rv_tmp rfl rfl)) ⟨_, rfl, ?_⟩
            exact ⟨(congrArg Value.bool (by grind)), E447⟩
      · -- abb
        refine id (oe_alloc ze26 ?_)
        intro b450 w451 n452
        have N453 : w.heap.size ≤ b450 := n452.eq ▸ E355.size
        have H454 := (d354.ext.blk H349)
        have : b329 < b450 := n452.eq ▸ lt_of_blk H454
        have E455 := below_ext E355 E355.size n452.ext
        have H456 := (n452.ext.blk H356)
        have H457 := (n452.ext.blk H357)
        refine ⟨.inr ⟨H456, H457⟩, ?_⟩
        refine aw_one 1 rfl (by kernel_rfl) .none (oe_callf (vs := [.agg #[.int .u64 a3, .int .u64 a2, .int .u64 a1, .int .u64 a0]]) co16 (ar1 (T rfl rfl)) (toWide_ok ) ?_)
        rintro _ w458 ⟨rfl, e459⟩
        have E460 := below_ext E455 E455.size e459
        have H461 := (e459.blk H456)
        have H462 := (e459.blk H457)
        refine ⟨.inr ⟨H461, H462⟩, ?_⟩
        refine aw_one 3 rfl (by kernel_rfl) .none (oe_callf (vs := [.agg #[.int .u64 y3, .int .u64 y2, .int .u64 y1, .int .u64 y0]]) co16 (ar1 (T rfl rfl)) (toWide_ok ) ?_)
        rintro _ w463 ⟨rfl, e464⟩
        have E465 := below_ext E460 E460.size e464
        have H466 := (e464.blk H461)
        have H467 := (e464.blk H462)
        refine ⟨.inr ⟨H466, H467⟩, ?_⟩
        refine aw_one 4 rfl (by kernel_rfl) .none (oe_callf (vs := [.agg #[.int .u64 a3, .int .u64 a2, .int .u64 a1, .int .u64 a0], .agg #[.int .u64 y3, .int .u64 y2, .int .u64 y1, .int .u64 y0]]) co36 (ar2 (T rfl rfl) (T rfl rfl)) (iWideMul_ok (by omega) (by omega) (by omega) (by omega) (by omega) (by omega) (by omega) (by omega)) ?_)
        rintro _ w468 ⟨rfl, e469⟩
        have E470 := below_ext E465 E465.size e469
        have H471 := (e469.blk H466)
        have H472 := (e469.blk H467)
        refine ⟨.inr ⟨H471, H472⟩, ?_⟩
        refine aw_pure 5 (.tuple #[.agg #[.int .u64 (wv3 ((wz a3 a2 a1 a0) * (wz y3 y2 y1 y0))), .int .u64 (wv2 ((wz a3 a2 a1 a0) * (wz y3 y2 y1 y0))), .int .u64 (wv1 ((wz a3 a2 a1 a0) * (wz y3 y2 y1 y0))), .int .u64 (wv0 ((wz a3 a2 a1 a0) * (wz y3 y2 y1 y0)))], .bool (decide (fits ((wz a3 a2 a1 a0) * (wz y3 y2 y1 y0))))]) rfl (by kernel_rfl) .none ⟨H471, H472⟩ (fun _ => dv_move (T rfl rfl)) ?_
        refine aw_pure 6 (.agg #[.int .u64 (wv3 ((wz a3 a2 a1 a0) * (wz y3 y2 y1 y0))), .int .u64 (wv2 ((wz a3 a2 a1 a0) * (wz y3 y2 y1 y0))), .int .u64 (wv1 ((wz a3 a2 a1 a0) * (wz y3 y2 y1 y0))), .int .u64 (wv0 ((wz a3 a2 a1 a0) * (wz y3 y2 y1 y0)))]) rfl (by kernel_rfl) .none ⟨H471, H472⟩ (fun _ => dv_extract (vs := #[.agg #[.int .u64 (wv3 ((wz a3 a2 a1 a0) * (wz y3 y2 y1 y0))), .int .u64 (wv2 ((wz a3 a2 a1 a0) * (wz y3 y2 y1 y0))), .int .u64 (wv1 ((wz a3 a2 a1 a0) * (wz y3 y2 y1 y0))), .int .u64 (wv0 ((wz a3 a2 a1 a0) * (wz y3 y2 y1 y0)))], .bool (decide (fits ((wz a3 a2 a1 a0) * (wz y3 y2 y1 y0))))]) (T rfl rfl) rfl) ?_
        refine aw_pure 7 (.bool (decide (fits ((wz a3 a2 a1 a0) * (wz y3 y2 y1 y0))))) rfl (by kernel_rfl) .none ⟨H471, H472⟩ (fun _ => dv_extract (vs := #[.agg #[.int .u64 (wv3 ((wz a3 a2 a1 a0) * (wz y3 y2 y1 y0))), .int .u64 (wv2 ((wz a3 a2 a1 a0) * (wz y3 y2 y1 y0))), .int .u64 (wv1 ((wz a3 a2 a1 a0) * (wz y3 y2 y1 y0))), .int .u64 (wv0 ((wz a3 a2 a1 a0) * (wz y3 y2 y1 y0)))], .bool (decide (fits ((wz a3 a2 a1 a0) * (wz y3 y2 y1 y0))))]) (T rfl rfl) rfl) ?_
        have H473 := (e469.blk (e464.blk (e459.blk n452.blk)))
        refine aw_one 9 rfl (by kernel_rfl) .none (oe_store (v := .agg #[.int .u64 (wv3 ((wz a3 a2 a1 a0) * (wz y3 y2 y1 y0))), .int .u64 (wv2 ((wz a3 a2 a1 a0) * (wz y3 y2 y1 y0))), .int .u64 (wv1 ((wz a3 a2 a1 a0) * (wz y3 y2 y1 y0))), .int .u64 (wv0 ((wz a3 a2 a1 a0) * (wz y3 y2 y1 y0)))]) (vs := [.int .u64 (wv3 ((wz a3 a2 a1 a0) * (wz y3 y2 y1 y0))), .int .u64 (wv2 ((wz a3 a2 a1 a0) * (wz y3 y2 y1 y0))), .int .u64 (wv1 ((wz a3 a2 a1 a0) * (wz y3 y2 y1 y0))), .int .u64 (wv0 ((wz a3 a2 a1 a0) * (wz y3 y2 y1 y0)))]) (l := [.int .u64 (wv3 ((wz a3 a2 a1 a0) * (wz y3 y2 y1 y0))), .int .u64 (wv2 ((wz a3 a2 a1 a0) * (wz y3 y2 y1 y0))), .int .u64 (wv1 ((wz a3 a2 a1 a0) * (wz y3 y2 y1 y0))), .int .u64 (wv0 ((wz a3 a2 a1 a0) * (wz y3 y2 y1 y0)))]) (T rfl rfl) (T rfl rfl) sz26 rfl rfl rfl H473 rfl ?_)
        intro w474 s475 H476
        have E477 := below_st E470 N453 s475
        have H478 := (s475.blk H471 (by omega))
        have H479 := (s475.blk H472 (by omega))
        refine ⟨.inr ⟨H478, H479⟩, ?_⟩
        refine aw_last 10 (.bool (decide (fits ((wz a3 a2 a1 a0) * (wz y3 y2 y1 y0))))) rfl (by kernel_rfl) .none (fun _ => dv_assign (T rfl rfl)) ?_
        refine aw_done (by kernel_rfl) ?_
        refine rk_seq ?_
        refine rk_seq ?_
        refine rk_reg ?_
        refine lw_v (.agg #[.int .u64 (wv3 ((wz a3 a2 a1 a0) * (wz y3 y2 y1 y0))), .int .u64 (wv2 ((wz a3 a2 a1 a0) * (wz y3 y2 y1 y0))), .int .u64 (wv1 ((wz a3 a2 a1 a0) * (wz y3 y2 y1 y0))), .int .u64 (wv0 ((wz a3 a2 a1 a0) * (wz y3 y2 y1 y0)))]) (dv_loads (l := [.int .u64 (wv3 ((wz a3 a2 a1 a0) * (wz y3 y2 y1 y0))), .int .u64 (wv2 ((wz a3 a2 a1 a0) * (wz y3 y2 y1 y0))), .int .u64 (wv1 ((wz a3 a2 a1 a0) * (wz y3 y2 y1 y0))), .int .u64 (wv0 ((wz a3 a2 a1 a0) * (wz y3 y2 y1 y0)))]) agt26 sz26 (T rfl rfl) H476 rfl) ?_
        have H480 := (s475.blk (e469.blk (e464.blk (e459.blk (n452.ext.blk H454)))) (by omega))
        refine lw_v (.agg #[.int .u64 (wv3 ((wz a3 a2 a1 a0) * (wz y3 y2 y1 y0))), .int .u64 (wv2 ((wz a3 a2 a1 a0) * (wz y3 y2 y1 y0))), .int .u64 (wv1 ((wz a3 a2 a1 a0) * (wz y3 y2 y1 y0))), .int .u64 (wv0 ((wz a3 a2 a1 a0) * (wz y3 y2 y1 y0)))]) (dv_loads (l := [.int .u64 (wv3 ((wz a3 a2 a1 a0) * (wz y3 y2 y1 y0))), .int .u64 (wv2 ((wz a3 a2 a1 a0) * (wz y3 y2 y1 y0))), .int .u64 (wv1 ((wz a3 a2 a1 a0) * (wz y3 y2 y1 y0))), .int .u64 (wv0 ((wz a3 a2 a1 a0) * (wz y3 y2 y1 y0)))]) agt26 sz26 (T rfl rfl) H480 rfl) ?_
        refine lw_e (oe_callf (vs := [.agg #[.int .u64 (wv3 ((wz a3 a2 a1 a0) * (wz y3 y2 y1 y0))), .int .u64 (wv2 ((wz a3 a2 a1 a0) * (wz y3 y2 y1 y0))), .int .u64 (wv1 ((wz a3 a2 a1 a0) * (wz y3 y2 y1 y0))), .int .u64 (wv0 ((wz a3 a2 a1 a0) * (wz y3 y2 y1 y0)))], .agg #[.int .u64 (wv3 ((wz a3 a2 a1 a0) * (wz y3 y2 y1 y0))), .int .u64 (wv2 ((wz a3 a2 a1 a0) * (wz y3 y2 y1 y0))), .int .u64 (wv1 ((wz a3 a2 a1 a0) * (wz y3 y2 y1 y0))), .int .u64 (wv0 ((wz a3 a2 a1 a0) * (wz y3 y2 y1 y0)))]]) co24 (ar2 (T rfl rfl) (T rfl rfl)) (eqWide_ok ) ?_)
        rintro _ w481 ⟨rfl, e482⟩
        have E483 := below_ext E477 E477.size e482
        refine lw_v (.bool (decide (¬ ((wv3 ((wz a3 a2 a1 a0) * (wz y3 y2 y1 y0))) = (wv3 ((wz a3 a2 a1 a0) * (wz y3 y2 y1 y0))) ∧ (wv2 ((wz a3 a2 a1 a0) * (wz y3 y2 y1 y0))) = (wv2 ((wz a3 a2 a1 a0) * (wz y3 y2 y1 y0))) ∧ (wv1 ((wz a3 a2 a1 a0) * (wz y3 y2 y1 y0))) = (wv1 ((wz a3 a2 a1 a0) * (wz y3 y2 y1 y0))) ∧ (wv0 ((wz a3 a2 a1 a0) * (wz y3 y2 y1 y0))) = (wv0 ((wz a3 a2 a1 a0) * (wz y3 y2 y1 y0))))))) (dv_notd (p := (wv3 ((wz a3 a2 a1 a0) * (wz y3 y2 y1 y0))) = (wv3 ((wz a3 a2 a1 a0) * (wz y3 y2 y1 y0))) ∧ (wv2 ((wz a3 a2 a1 a0) * (wz y3 y2 y1 y0))) = (wv2 ((wz a3 a2 a1 a0) * (wz y3 y2 y1 y0))) ∧ (wv1 ((wz a3 a2 a1 a0) * (wz y3 y2 y1 y0))) = (wv1 ((wz a3 a2 a1 a0) * (wz y3 y2 y1 y0))) ∧ (wv0 ((wz a3 a2 a1 a0) * (wz y3 y2 y1 y0))) = (wv0 ((wz a3 a2 a1 a0) * (wz y3 y2 y1 y0)))) (T rfl rfl)) ?_
        refine lw_v (.bool (decide (¬ ((wv3 ((wz a3 a2 a1 a0) * (wz y3 y2 y1 y0))) = (wv3 ((wz a3 a2 a1 a0) * (wz y3 y2 y1 y0))) ∧ (wv2 ((wz a3 a2 a1 a0) * (wz y3 y2 y1 y0))) = (wv2 ((wz a3 a2 a1 a0) * (wz y3 y2 y1 y0))) ∧ (wv1 ((wz a3 a2 a1 a0) * (wz y3 y2 y1 y0))) = (wv1 ((wz a3 a2 a1 a0) * (wz y3 y2 y1 y0))) ∧ (wv0 ((wz a3 a2 a1 a0) * (wz y3 y2 y1 y0))) = (wv0 ((wz a3 a2 a1 a0) * (wz y3 y2 y1 y0))))))) (dv_move (T rfl rfl)) ?_
        by_cases hb484 : (wv3 ((wz a3 a2 a1 a0) * (wz y3 y2 y1 y0))) = (wv3 ((wz a3 a2 a1 a0) * (wz y3 y2 y1 y0))) ∧ (wv2 ((wz a3 a2 a1 a0) * (wz y3 y2 y1 y0))) = (wv2 ((wz a3 a2 a1 a0) * (wz y3 y2 y1 y0))) ∧ (wv1 ((wz a3 a2 a1 a0) * (wz y3 y2 y1 y0))) = (wv1 ((wz a3 a2 a1 a0) * (wz y3 y2 y1 y0))) ∧ (wv0 ((wz a3 a2 a1 a0) * (wz y3 y2 y1 y0))) = (wv0 ((wz a3 a2 a1 a0) * (wz y3 y2 y1 y0)))
        · -- abbT
          refine lw_vy (.bool (decide (fits ((wz a3 a2 a1 a0) * (wz y3 y2 y1 y0))))) (d := 29) rfl rfl (congrArg Value.bool (decide_eq_false (not_not_intro hb484))) (dv_move (T rfl rfl)) ?_
          refine lw_vy (.bool (decide (fits ((wz a3 a2 a1 a0) * (wz y3 y2 y1 y0))))) (d := 29) rfl rfl (congrArg Value.bool (decide_eq_false (not_not_intro hb484))) (dv_move (T rfl rfl)) ?_
          refine lw_vy (.bool ((decide (fits ((wz a3 a2 a1 a0) * (wz y3 y2 y1 y0)))) != (decide (fits ((wz a3 a2 a1 a0) * (wz y3 y2 y1 y0)))))) (d := 29) rfl rfl (congrArg Value.bool (decide_eq_false (not_not_intro hb484))) (dv_neqb (a := decide (fits ((wz a3 a2 a1 a0) * (wz y3 y2 y1 y0)))) (b := decide (fits ((wz a3 a2 a1 a0) * (wz y3 y2 y1 y0)))) ub4 (T rfl rfl) (T rfl rfl)) ?_
          refine lw_v (.bool ((decide (fits ((wz a3 a2 a1 a0) * (wz y3 y2 y1 y0)))) != (decide (fits ((wz a3 a2 a1 a0) * (wz y3 y2 y1 y0)))))) (dv_pick_f (T rfl (congrArg Value.bool (decide_eq_false (not_not_intro hb484)))) (T rfl rfl)) ?_
          refine lw_nil ?_
          rcases Bool.eq_false_or_eq_true ((decide (fits ((wz a3 a2 a1 a0) * (wz y3 y2 y1 y0)))) != (decide (fits ((wz a3 a2 a1 a0) * (wz y3 y2 y1 y0))))) with hb485 | hb485
          · -- abbTT
            refine rk_ct (T rfl (congrArg Value.bool hb485)) ?_
            refine rk_seq ?_
            refine rk_reg ?_
            refine lw_v (.bool false) (dv_assign C) ?_
            refine lw_nil ?_
            refine rk_ret Try.func11 (v := .bool false) (res1 Try.results11 (rv_tmp rfl rfl)) ⟨_, rfl, ?_⟩
            exact ⟨(congrArg Value.bool (by grind)), E483⟩
          · -- abbTF
            refine rk_cf (T rfl (congrArg Value.bool hb485)) ?_
            refine rk_skip ?_
            refine rk_seq ?_
            refine rk_reg ?_
            refine lw_v (.bool true) (dv_assign C) ?_
            refine lw_nil ?_
            refine rk_ret Try.func11 (v := .bool true) (res1 Try.results11 (rv_tmp rfl rfl)) ⟨_, rfl, ?_⟩
            exact ⟨rfl, E483⟩
        · -- abbF
          refine lw_no (d := 29) rfl rfl (congrArg Value.bool (decide_eq_true hb484)) ?_
          refine lw_no (d := 29) rfl rfl (congrArg Value.bool (decide_eq_true hb484)) ?_
          refine lw_no (d := 29) rfl rfl (congrArg Value.bool (decide_eq_true hb484)) ?_
          refine lw_v (.bool true) (dv_pick_t (T rfl (congrArg Value.bool (decide_eq_true hb484))) C) ?_
          refine lw_nil ?_
          refine rk_ct (T rfl rfl) ?_
          refine rk_seq ?_
          refine rk_reg ?_
          refine lw_v (.bool false) (dv_assign C) ?_
          refine lw_nil ?_
          refine rk_ret Try.func11 (v := .bool false) (res1 Try.results11 (rv_tmp rfl rfl)) ⟨_, rfl, ?_⟩
          exact ⟨(congrArg Value.bool (by grind)), E483⟩
  · -- b
    refine id (oe_alloc ze26 ?_)
    intro b486 w487 n488
    have N489 : w.heap.size ≤ b486 := n488.eq ▸ E13.size
    have : b6 < b486 := n488.eq ▸ lt_of_blk H15
    have E490 := below_ext E13 E13.size n488.ext
    have H491 := (n488.ext.blk H14)
    have H492 := (n488.ext.blk H15)
    refine ⟨.inr ⟨H491, H492⟩, ?_⟩
    refine aw_one 1 rfl (by kernel_rfl) .none (oe_callf (vs := [.agg #[.int .u64 a3, .int .u64 a2, .int .u64 a1, .int .u64 a0]]) co16 (ar1 (T rfl rfl)) (toWide_ok ) ?_)
    rintro _ w493 ⟨rfl, e494⟩
    have E495 := below_ext E490 E490.size e494
    have H496 := (e494.blk H491)
    have H497 := (e494.blk H492)
    refine ⟨.inr ⟨H496, H497⟩, ?_⟩
    refine aw_one 3 rfl (by kernel_rfl) .none (oe_callf (vs := [.agg #[.int .u64 y3, .int .u64 y2, .int .u64 y1, .int .u64 y0]]) co16 (ar1 (T rfl rfl)) (toWide_ok ) ?_)
    rintro _ w498 ⟨rfl, e499⟩
    have E500 := below_ext E495 E495.size e499
    have H501 := (e499.blk H496)
    have H502 := (e499.blk H497)
    refine ⟨.inr ⟨H501, H502⟩, ?_⟩
    refine aw_one 4 rfl (by kernel_rfl) .none (oe_callf (vs := [.agg #[.int .u64 a3, .int .u64 a2, .int .u64 a1, .int .u64 a0], .agg #[.int .u64 y3, .int .u64 y2, .int .u64 y1, .int .u64 y0]]) co35 (ar2 (T rfl rfl) (T rfl rfl)) (sWideMul_ok (by omega) (by omega) (by omega) (by omega) (by omega) (by omega) (by omega) (by omega)) ?_)
    rintro _ w503 ⟨rfl, e504⟩
    have E505 := below_ext E500 E500.size e504
    have H506 := (e504.blk H501)
    have H507 := (e504.blk H502)
    refine ⟨.inr ⟨H506, H507⟩, ?_⟩
    refine aw_pure 5 (.tuple #[.agg #[.int .u64 (wv3 ((wz a3 a2 a1 a0) * (wz y3 y2 y1 y0))), .int .u64 (wv2 ((wz a3 a2 a1 a0) * (wz y3 y2 y1 y0))), .int .u64 (wv1 ((wz a3 a2 a1 a0) * (wz y3 y2 y1 y0))), .int .u64 (wv0 ((wz a3 a2 a1 a0) * (wz y3 y2 y1 y0)))], .bool (decide (fits ((wz a3 a2 a1 a0) * (wz y3 y2 y1 y0))))]) rfl (by kernel_rfl) .none ⟨H506, H507⟩ (fun _ => dv_move (T rfl rfl)) ?_
    refine aw_pure 6 (.agg #[.int .u64 (wv3 ((wz a3 a2 a1 a0) * (wz y3 y2 y1 y0))), .int .u64 (wv2 ((wz a3 a2 a1 a0) * (wz y3 y2 y1 y0))), .int .u64 (wv1 ((wz a3 a2 a1 a0) * (wz y3 y2 y1 y0))), .int .u64 (wv0 ((wz a3 a2 a1 a0) * (wz y3 y2 y1 y0)))]) rfl (by kernel_rfl) .none ⟨H506, H507⟩ (fun _ => dv_extract (vs := #[.agg #[.int .u64 (wv3 ((wz a3 a2 a1 a0) * (wz y3 y2 y1 y0))), .int .u64 (wv2 ((wz a3 a2 a1 a0) * (wz y3 y2 y1 y0))), .int .u64 (wv1 ((wz a3 a2 a1 a0) * (wz y3 y2 y1 y0))), .int .u64 (wv0 ((wz a3 a2 a1 a0) * (wz y3 y2 y1 y0)))], .bool (decide (fits ((wz a3 a2 a1 a0) * (wz y3 y2 y1 y0))))]) (T rfl rfl) rfl) ?_
    refine aw_pure 7 (.bool (decide (fits ((wz a3 a2 a1 a0) * (wz y3 y2 y1 y0))))) rfl (by kernel_rfl) .none ⟨H506, H507⟩ (fun _ => dv_extract (vs := #[.agg #[.int .u64 (wv3 ((wz a3 a2 a1 a0) * (wz y3 y2 y1 y0))), .int .u64 (wv2 ((wz a3 a2 a1 a0) * (wz y3 y2 y1 y0))), .int .u64 (wv1 ((wz a3 a2 a1 a0) * (wz y3 y2 y1 y0))), .int .u64 (wv0 ((wz a3 a2 a1 a0) * (wz y3 y2 y1 y0)))], .bool (decide (fits ((wz a3 a2 a1 a0) * (wz y3 y2 y1 y0))))]) (T rfl rfl) rfl) ?_
    have H508 := (e504.blk (e499.blk (e494.blk n488.blk)))
    refine aw_one 9 rfl (by kernel_rfl) .none (oe_store (v := .agg #[.int .u64 (wv3 ((wz a3 a2 a1 a0) * (wz y3 y2 y1 y0))), .int .u64 (wv2 ((wz a3 a2 a1 a0) * (wz y3 y2 y1 y0))), .int .u64 (wv1 ((wz a3 a2 a1 a0) * (wz y3 y2 y1 y0))), .int .u64 (wv0 ((wz a3 a2 a1 a0) * (wz y3 y2 y1 y0)))]) (vs := [.int .u64 (wv3 ((wz a3 a2 a1 a0) * (wz y3 y2 y1 y0))), .int .u64 (wv2 ((wz a3 a2 a1 a0) * (wz y3 y2 y1 y0))), .int .u64 (wv1 ((wz a3 a2 a1 a0) * (wz y3 y2 y1 y0))), .int .u64 (wv0 ((wz a3 a2 a1 a0) * (wz y3 y2 y1 y0)))]) (l := [.int .u64 (wv3 ((wz a3 a2 a1 a0) * (wz y3 y2 y1 y0))), .int .u64 (wv2 ((wz a3 a2 a1 a0) * (wz y3 y2 y1 y0))), .int .u64 (wv1 ((wz a3 a2 a1 a0) * (wz y3 y2 y1 y0))), .int .u64 (wv0 ((wz a3 a2 a1 a0) * (wz y3 y2 y1 y0)))]) (T rfl rfl) (T rfl rfl) sz26 rfl rfl rfl H508 rfl ?_)
    intro w509 s510 H511
    have E512 := below_st E505 N489 s510
    have H513 := (s510.blk H506 (by omega))
    have H514 := (s510.blk H507 (by omega))
    refine ⟨.inr ⟨H513, H514⟩, ?_⟩
    refine aw_last 10 (.bool (decide (fits ((wz a3 a2 a1 a0) * (wz y3 y2 y1 y0))))) rfl (by kernel_rfl) .none (fun _ => dv_assign (T rfl rfl)) ?_
    refine aw_done (by kernel_rfl) ?_
    refine rk_seq ?_
    refine rk_any (fun w => w.heap[b1]? = some (.cells #[.int .u64 a3, .int .u64 a2, .int .u64 a1, .int .u64 a0] 24) ∧ w.heap[b6]? = some (.cells #[.int .u64 y3, .int .u64 y2, .int .u64 y1, .int .u64 y0] 24)) [10] mo ?_
    intro w515 d516
    have E517 := below_ext E512 E512.size d516.ext
    have H518 := (d516.ext.blk H513)
    have H519 := (d516.ext.blk H514)
    refine aw_load 0 (.agg #[.int .u64 a3, .int .u64 a2, .int .u64 a1, .int .u64 a0]) rfl (by kernel_rfl) .none ⟨H518, H519⟩ (fun _ s => dv_loads (l := [.int .u64 a3, .int .u64 a2, .int .u64 a1, .int .u64 a0]) agt24 sz24 (T rfl rfl) s.1 rfl) ?_
    refine aw_load 2 (.agg #[.int .u64 y3, .int .u64 y2, .int .u64 y1, .int .u64 y0]) rfl (by kernel_rfl) .none ⟨H518, H519⟩ (fun _ s => dv_loads (l := [.int .u64 y3, .int .u64 y2, .int .u64 y1, .int .u64 y0]) agt24 sz24 (T rfl rfl) s.2 rfl) ?_
    refine aw_two 1 8 rfl rfl (by kernel_rfl) .none .none ?_ ?_
    · -- ba
      refine id (oe_callf (vs := [.agg #[.int .u64 a3, .int .u64 a2, .int .u64 a1, .int .u64 a0]]) co16 (ar1 (T rfl rfl)) (toWide_ok ) ?_)
      rintro _ w520 ⟨rfl, e521⟩
      have E522 := below_ext E517 E517.size e521
      have H523 := (e521.blk H518)
      have H524 := (e521.blk H519)
      refine ⟨.inr ⟨H523, H524⟩, ?_⟩
      refine aw_two 3 8 rfl rfl (by kernel_rfl) .none .none ?_ ?_
      · -- baa
        refine id (oe_callf (vs := [.agg #[.int .u64 y3, .int .u64 y2, .int .u64 y1, .int .u64 y0]]) co16 (ar1 (T rfl rfl)) (toWide_ok ) ?_)
        rintro _ w525 ⟨rfl, e526⟩
        have E527 := below_ext E522 E522.size e526
        have H528 := (e526.blk H523)
        have H529 := (e526.blk H524)
        refine ⟨.inr ⟨H528, H529⟩, ?_⟩
        refine aw_two 4 8 rfl rfl (by kernel_rfl) .none .none ?_ ?_
        · -- baaa
          refine id (oe_callf (vs := [.agg #[.int .u64 a3, .int .u64 a2, .int .u64 a1, .int .u64 a0], .agg #[.int .u64 y3, .int .u64 y2, .int .u64 y1, .int .u64 y0]]) co36 (ar2 (T rfl rfl) (T rfl rfl)) (iWideMul_ok (by omega) (by omega) (by omega) (by omega) (by omega) (by omega) (by omega) (by omega)) ?_)
          rintro _ w530 ⟨rfl, e531⟩
          have E532 := below_ext E527 E527.size e531
          have H533 := (e531.blk H528)
          have H534 := (e531.blk H529)
          refine ⟨.inr ⟨H533, H534⟩, ?_⟩
          refine aw_pure 5 (.tuple #[.agg #[.int .u64 (wv3 ((wz a3 a2 a1 a0) * (wz y3 y2 y1 y0))), .int .u64 (wv2 ((wz a3 a2 a1 a0) * (wz y3 y2 y1 y0))), .int .u64 (wv1 ((wz a3 a2 a1 a0) * (wz y3 y2 y1 y0))), .int .u64 (wv0 ((wz a3 a2 a1 a0) * (wz y3 y2 y1 y0)))], .bool (decide (fits ((wz a3 a2 a1 a0) * (wz y3 y2 y1 y0))))]) rfl (by kernel_rfl) .none ⟨H533, H534⟩ (fun _ => dv_move (T rfl rfl)) ?_
          refine aw_pure 6 (.agg #[.int .u64 (wv3 ((wz a3 a2 a1 a0) * (wz y3 y2 y1 y0))), .int .u64 (wv2 ((wz a3 a2 a1 a0) * (wz y3 y2 y1 y0))), .int .u64 (wv1 ((wz a3 a2 a1 a0) * (wz y3 y2 y1 y0))), .int .u64 (wv0 ((wz a3 a2 a1 a0) * (wz y3 y2 y1 y0)))]) rfl (by kernel_rfl) .none ⟨H533, H534⟩ (fun _ => dv_extract (vs := #[.agg #[.int .u64 (wv3 ((wz a3 a2 a1 a0) * (wz y3 y2 y1 y0))), .int .u64 (wv2 ((wz a3 a2 a1 a0) * (wz y3 y2 y1 y0))), .int .u64 (wv1 ((wz a3 a2 a1 a0) * (wz y3 y2 y1 y0))), .int .u64 (wv0 ((wz a3 a2 a1 a0) * (wz y3 y2 y1 y0)))], .bool (decide (fits ((wz a3 a2 a1 a0) * (wz y3 y2 y1 y0))))]) (T rfl rfl) rfl) ?_
          refine aw_pure 7 (.bool (decide (fits ((wz a3 a2 a1 a0) * (wz y3 y2 y1 y0))))) rfl (by kernel_rfl) .none ⟨H533, H534⟩ (fun _ => dv_extract (vs := #[.agg #[.int .u64 (wv3 ((wz a3 a2 a1 a0) * (wz y3 y2 y1 y0))), .int .u64 (wv2 ((wz a3 a2 a1 a0) * (wz y3 y2 y1 y0))), .int .u64 (wv1 ((wz a3 a2 a1 a0) * (wz y3 y2 y1 y0))), .int .u64 (wv0 ((wz a3 a2 a1 a0) * (wz y3 y2 y1 y0)))], .bool (decide (fits ((wz a3 a2 a1 a0) * (wz y3 y2 y1 y0))))]) (T rfl rfl) rfl) ?_
          refine aw_one 8 rfl (by kernel_rfl) .none (oe_alloc ze26 ?_)
          intro b535 w536 n537
          have N538 : w.heap.size ≤ b535 := n537.eq ▸ E532.size
          have H539 := (e531.blk (e526.blk (e521.blk (d516.ext.blk H511))))
          have : b486 < b535 := n537.eq ▸ lt_of_blk H539
          have E540 := below_ext E532 E532.size n537.ext
          have H541 := (n537.ext.blk H533)
          have H542 := (n537.ext.blk H534)
          refine ⟨.inr ⟨H541, H542⟩, ?_⟩
          refine aw_one 9 rfl (by kernel_rfl) .none (oe_store (v := .agg #[.int .u64 (wv3 ((wz a3 a2 a1 a0) * (wz y3 y2 y1 y0))), .int .u64 (wv2 ((wz a3 a2 a1 a0) * (wz y3 y2 y1 y0))), .int .u64 (wv1 ((wz a3 a2 a1 a0) * (wz y3 y2 y1 y0))), .int .u64 (wv0 ((wz a3 a2 a1 a0) * (wz y3 y2 y1 y0)))]) (vs := [.int .u64 (wv3 ((wz a3 a2 a1 a0) * (wz y3 y2 y1 y0))), .int .u64 (wv2 ((wz a3 a2 a1 a0) * (wz y3 y2 y1 y0))), .int .u64 (wv1 ((wz a3 a2 a1 a0) * (wz y3 y2 y1 y0))), .int .u64 (wv0 ((wz a3 a2 a1 a0) * (wz y3 y2 y1 y0)))]) (l := [.int .u64 (wv3 ((wz a3 a2 a1 a0) * (wz y3 y2 y1 y0))), .int .u64 (wv2 ((wz a3 a2 a1 a0) * (wz y3 y2 y1 y0))), .int .u64 (wv1 ((wz a3 a2 a1 a0) * (wz y3 y2 y1 y0))), .int .u64 (wv0 ((wz a3 a2 a1 a0) * (wz y3 y2 y1 y0)))]) (T rfl rfl) (T rfl rfl) sz26 rfl rfl rfl n537.blk rfl ?_)
          intro w543 s544 H545
          have E546 := below_st E540 N538 s544
          have H547 := (s544.blk H541 (by omega))
          have H548 := (s544.blk H542 (by omega))
          refine ⟨.inr ⟨H547, H548⟩, ?_⟩
          refine aw_last 10 (.bool (decide (fits ((wz a3 a2 a1 a0) * (wz y3 y2 y1 y0))))) rfl (by kernel_rfl) .none (fun _ => dv_assign (T rfl rfl)) ?_
          refine aw_done (by kernel_rfl) ?_
          refine rk_seq ?_
          refine rk_seq ?_
          refine rk_reg ?_
          refine lw_v (.agg #[.int .u64 (wv3 ((wz a3 a2 a1 a0) * (wz y3 y2 y1 y0))), .int .u64 (wv2 ((wz a3 a2 a1 a0) * (wz y3 y2 y1 y0))), .int .u64 (wv1 ((wz a3 a2 a1 a0) * (wz y3 y2 y1 y0))), .int .u64 (wv0 ((wz a3 a2 a1 a0) * (wz y3 y2 y1 y0)))]) (dv_loads (l := [.int .u64 (wv3 ((wz a3 a2 a1 a0) * (wz y3 y2 y1 y0))), .int .u64 (wv2 ((wz a3 a2 a1 a0) * (wz y3 y2 y1 y0))), .int .u64 (wv1 ((wz a3 a2 a1 a0) * (wz y3 y2 y1 y0))), .int .u64 (wv0 ((wz a3 a2 a1 a0) * (wz y3 y2 y1 y0)))]) agt26 sz26 (T rfl rfl) H545 rfl) ?_
          have H549 := (s544.blk (n537.ext.blk H539) (by omega))
          refine lw_v (.agg #[.int .u64 (wv3 ((wz a3 a2 a1 a0) * (wz y3 y2 y1 y0))), .int .u64 (wv2 ((wz a3 a2 a1 a0) * (wz y3 y2 y1 y0))), .int .u64 (wv1 ((wz a3 a2 a1 a0) * (wz y3 y2 y1 y0))), .int .u64 (wv0 ((wz a3 a2 a1 a0) * (wz y3 y2 y1 y0)))]) (dv_loads (l := [.int .u64 (wv3 ((wz a3 a2 a1 a0) * (wz y3 y2 y1 y0))), .int .u64 (wv2 ((wz a3 a2 a1 a0) * (wz y3 y2 y1 y0))), .int .u64 (wv1 ((wz a3 a2 a1 a0) * (wz y3 y2 y1 y0))), .int .u64 (wv0 ((wz a3 a2 a1 a0) * (wz y3 y2 y1 y0)))]) agt26 sz26 (T rfl rfl) H549 rfl) ?_
          refine lw_e (oe_callf (vs := [.agg #[.int .u64 (wv3 ((wz a3 a2 a1 a0) * (wz y3 y2 y1 y0))), .int .u64 (wv2 ((wz a3 a2 a1 a0) * (wz y3 y2 y1 y0))), .int .u64 (wv1 ((wz a3 a2 a1 a0) * (wz y3 y2 y1 y0))), .int .u64 (wv0 ((wz a3 a2 a1 a0) * (wz y3 y2 y1 y0)))], .agg #[.int .u64 (wv3 ((wz a3 a2 a1 a0) * (wz y3 y2 y1 y0))), .int .u64 (wv2 ((wz a3 a2 a1 a0) * (wz y3 y2 y1 y0))), .int .u64 (wv1 ((wz a3 a2 a1 a0) * (wz y3 y2 y1 y0))), .int .u64 (wv0 ((wz a3 a2 a1 a0) * (wz y3 y2 y1 y0)))]]) co24 (ar2 (T rfl rfl) (T rfl rfl)) (eqWide_ok ) ?_)
          rintro _ w550 ⟨rfl, e551⟩
          have E552 := below_ext E546 E546.size e551
          refine lw_v (.bool (decide (¬ ((wv3 ((wz a3 a2 a1 a0) * (wz y3 y2 y1 y0))) = (wv3 ((wz a3 a2 a1 a0) * (wz y3 y2 y1 y0))) ∧ (wv2 ((wz a3 a2 a1 a0) * (wz y3 y2 y1 y0))) = (wv2 ((wz a3 a2 a1 a0) * (wz y3 y2 y1 y0))) ∧ (wv1 ((wz a3 a2 a1 a0) * (wz y3 y2 y1 y0))) = (wv1 ((wz a3 a2 a1 a0) * (wz y3 y2 y1 y0))) ∧ (wv0 ((wz a3 a2 a1 a0) * (wz y3 y2 y1 y0))) = (wv0 ((wz a3 a2 a1 a0) * (wz y3 y2 y1 y0))))))) (dv_notd (p := (wv3 ((wz a3 a2 a1 a0) * (wz y3 y2 y1 y0))) = (wv3 ((wz a3 a2 a1 a0) * (wz y3 y2 y1 y0))) ∧ (wv2 ((wz a3 a2 a1 a0) * (wz y3 y2 y1 y0))) = (wv2 ((wz a3 a2 a1 a0) * (wz y3 y2 y1 y0))) ∧ (wv1 ((wz a3 a2 a1 a0) * (wz y3 y2 y1 y0))) = (wv1 ((wz a3 a2 a1 a0) * (wz y3 y2 y1 y0))) ∧ (wv0 ((wz a3 a2 a1 a0) * (wz y3 y2 y1 y0))) = (wv0 ((wz a3 a2 a1 a0) * (wz y3 y2 y1 y0)))) (T rfl rfl)) ?_
          refine lw_v (.bool (decide (¬ ((wv3 ((wz a3 a2 a1 a0) * (wz y3 y2 y1 y0))) = (wv3 ((wz a3 a2 a1 a0) * (wz y3 y2 y1 y0))) ∧ (wv2 ((wz a3 a2 a1 a0) * (wz y3 y2 y1 y0))) = (wv2 ((wz a3 a2 a1 a0) * (wz y3 y2 y1 y0))) ∧ (wv1 ((wz a3 a2 a1 a0) * (wz y3 y2 y1 y0))) = (wv1 ((wz a3 a2 a1 a0) * (wz y3 y2 y1 y0))) ∧ (wv0 ((wz a3 a2 a1 a0) * (wz y3 y2 y1 y0))) = (wv0 ((wz a3 a2 a1 a0) * (wz y3 y2 y1 y0))))))) (dv_move (T rfl rfl)) ?_
          by_cases hb553 : (wv3 ((wz a3 a2 a1 a0) * (wz y3 y2 y1 y0))) = (wv3 ((wz a3 a2 a1 a0) * (wz y3 y2 y1 y0))) ∧ (wv2 ((wz a3 a2 a1 a0) * (wz y3 y2 y1 y0))) = (wv2 ((wz a3 a2 a1 a0) * (wz y3 y2 y1 y0))) ∧ (wv1 ((wz a3 a2 a1 a0) * (wz y3 y2 y1 y0))) = (wv1 ((wz a3 a2 a1 a0) * (wz y3 y2 y1 y0))) ∧ (wv0 ((wz a3 a2 a1 a0) * (wz y3 y2 y1 y0))) = (wv0 ((wz a3 a2 a1 a0) * (wz y3 y2 y1 y0)))
          · -- baaaT
            refine lw_vy (.bool (decide (fits ((wz a3 a2 a1 a0) * (wz y3 y2 y1 y0))))) (d := 29) rfl rfl (congrArg Value.bool (decide_eq_false (not_not_intro hb553))) (dv_move (T rfl rfl)) ?_
            refine lw_vy (.bool (decide (fits ((wz a3 a2 a1 a0) * (wz y3 y2 y1 y0))))) (d := 29) rfl rfl (congrArg Value.bool (decide_eq_false (not_not_intro hb553))) (dv_move (T rfl rfl)) ?_
            refine lw_vy (.bool ((decide (fits ((wz a3 a2 a1 a0) * (wz y3 y2 y1 y0)))) != (decide (fits ((wz a3 a2 a1 a0) * (wz y3 y2 y1 y0)))))) (d := 29) rfl rfl (congrArg Value.bool (decide_eq_false (not_not_intro hb553))) (dv_neqb (a := decide (fits ((wz a3 a2 a1 a0) * (wz y3 y2 y1 y0)))) (b := decide (fits ((wz a3 a2 a1 a0) * (wz y3 y2 y1 y0)))) ub4 (T rfl rfl) (T rfl rfl)) ?_
            refine lw_v (.bool ((decide (fits ((wz a3 a2 a1 a0) * (wz y3 y2 y1 y0)))) != (decide (fits ((wz a3 a2 a1 a0) * (wz y3 y2 y1 y0)))))) (dv_pick_f (T rfl (congrArg Value.bool (decide_eq_false (not_not_intro hb553)))) (T rfl rfl)) ?_
            refine lw_nil ?_
            rcases Bool.eq_false_or_eq_true ((decide (fits ((wz a3 a2 a1 a0) * (wz y3 y2 y1 y0)))) != (decide (fits ((wz a3 a2 a1 a0) * (wz y3 y2 y1 y0))))) with hb554 | hb554
            · -- baaaTT
              refine rk_ct (T rfl (congrArg Value.bool hb554)) ?_
              refine rk_seq ?_
              refine rk_reg ?_
              refine lw_v (.bool false) (dv_assign C) ?_
              refine lw_nil ?_
              refine rk_ret Try.func11 (v := .bool false) (res1 Try.results11 (rv_tmp rfl rfl)) ⟨_, rfl, ?_⟩
              exact ⟨(congrArg Value.bool (by grind)), E552⟩
            · -- baaaTF
              refine rk_cf (T rfl (congrArg Value.bool hb554)) ?_
              refine rk_skip ?_
              refine rk_seq ?_
              refine rk_reg ?_
              refine lw_v (.bool true) (dv_assign C) ?_
              refine lw_nil ?_
              refine rk_ret Try.func11 (v := .bool true) (res1 Try.results11 (rv_tmp rfl rfl)) ⟨_, rfl, ?_⟩
              exact ⟨rfl, E552⟩
          · -- baaaF
            refine lw_no (d := 29) rfl rfl (congrArg Value.bool (decide_eq_true hb553)) ?_
            refine lw_no (d := 29) rfl rfl (congrArg Value.bool (decide_eq_true hb553)) ?_
            refine lw_no (d := 29) rfl rfl (congrArg Value.bool (decide_eq_true hb553)) ?_
            refine lw_v (.bool true) (dv_pick_t (T rfl (congrArg Value.bool (decide_eq_true hb553))) C) ?_
            refine lw_nil ?_
            refine rk_ct (T rfl rfl) ?_
            refine rk_seq ?_
            refine rk_reg ?_
            refine lw_v (.bool false) (dv_assign C) ?_
            refine lw_nil ?_
            refine rk_ret Try.func11 (v := .bool false) (res1 Try.results11 (rv_tmp rfl rfl)) ⟨_, rfl, ?_⟩
            exact ⟨(congrArg Value.bool (by grind)), E552⟩
        · -- baab
          refine id (oe_alloc ze26 ?_)
          intro b555 w556 n557
          have N558 : w.heap.size ≤ b555 := n557.eq ▸ E527.size
          have H559 := (e526.blk (e521.blk (d516.ext.blk H511)))
          have : b486 < b555 := n557.eq ▸ lt_of_blk H559
          have E560 := below_ext E527 E527.size n557.ext
          have H561 := (n557.ext.blk H528)
          have H562 := (n557.ext.blk H529)
          refine ⟨.inr ⟨H561, H562⟩, ?_⟩
          refine aw_one 4 rfl (by kernel_rfl) .none (oe_callf (vs := [.agg #[.int .u64 a3, .int .u64 a2, .int .u64 a1, .int .u64 a0], .agg #[.int .u64 y3, .int .u64 y2, .int .u64 y1, .int .u64 y0]]) co36 (ar2 (T rfl rfl) (T rfl rfl)) (iWideMul_ok (by omega) (by omega) (by omega) (by omega) (by omega) (by omega) (by omega) (by omega)) ?_)
          rintro _ w563 ⟨rfl, e564⟩
          have E565 := below_ext E560 E560.size e564
          have H566 := (e564.blk H561)
          have H567 := (e564.blk H562)
          refine ⟨.inr ⟨H566, H567⟩, ?_⟩
          refine aw_pure 5 (.tuple #[.agg #[.int .u64 (wv3 ((wz a3 a2 a1 a0) * (wz y3 y2 y1 y0))), .int .u64 (wv2 ((wz a3 a2 a1 a0) * (wz y3 y2 y1 y0))), .int .u64 (wv1 ((wz a3 a2 a1 a0) * (wz y3 y2 y1 y0))), .int .u64 (wv0 ((wz a3 a2 a1 a0) * (wz y3 y2 y1 y0)))], .bool (decide (fits ((wz a3 a2 a1 a0) * (wz y3 y2 y1 y0))))]) rfl (by kernel_rfl) .none ⟨H566, H567⟩ (fun _ => dv_move (T rfl rfl)) ?_
          refine aw_pure 6 (.agg #[.int .u64 (wv3 ((wz a3 a2 a1 a0) * (wz y3 y2 y1 y0))), .int .u64 (wv2 ((wz a3 a2 a1 a0) * (wz y3 y2 y1 y0))), .int .u64 (wv1 ((wz a3 a2 a1 a0) * (wz y3 y2 y1 y0))), .int .u64 (wv0 ((wz a3 a2 a1 a0) * (wz y3 y2 y1 y0)))]) rfl (by kernel_rfl) .none ⟨H566, H567⟩ (fun _ => dv_extract (vs := #[.agg #[.int .u64 (wv3 ((wz a3 a2 a1 a0) * (wz y3 y2 y1 y0))), .int .u64 (wv2 ((wz a3 a2 a1 a0) * (wz y3 y2 y1 y0))), .int .u64 (wv1 ((wz a3 a2 a1 a0) * (wz y3 y2 y1 y0))), .int .u64 (wv0 ((wz a3 a2 a1 a0) * (wz y3 y2 y1 y0)))], .bool (decide (fits ((wz a3 a2 a1 a0) * (wz y3 y2 y1 y0))))]) (T rfl rfl) rfl) ?_
          refine aw_pure 7 (.bool (decide (fits ((wz a3 a2 a1 a0) * (wz y3 y2 y1 y0))))) rfl (by kernel_rfl) .none ⟨H566, H567⟩ (fun _ => dv_extract (vs := #[.agg #[.int .u64 (wv3 ((wz a3 a2 a1 a0) * (wz y3 y2 y1 y0))), .int .u64 (wv2 ((wz a3 a2 a1 a0) * (wz y3 y2 y1 y0))), .int .u64 (wv1 ((wz a3 a2 a1 a0) * (wz y3 y2 y1 y0))), .int .u64 (wv0 ((wz a3 a2 a1 a0) * (wz y3 y2 y1 y0)))], .bool (decide (fits ((wz a3 a2 a1 a0) * (wz y3 y2 y1 y0))))]) (T rfl rfl) rfl) ?_
          have H568 := (e564.blk n557.blk)
          refine aw_one 9 rfl (by kernel_rfl) .none (oe_store (v := .agg #[.int .u64 (wv3 ((wz a3 a2 a1 a0) * (wz y3 y2 y1 y0))), .int .u64 (wv2 ((wz a3 a2 a1 a0) * (wz y3 y2 y1 y0))), .int .u64 (wv1 ((wz a3 a2 a1 a0) * (wz y3 y2 y1 y0))), .int .u64 (wv0 ((wz a3 a2 a1 a0) * (wz y3 y2 y1 y0)))]) (vs := [.int .u64 (wv3 ((wz a3 a2 a1 a0) * (wz y3 y2 y1 y0))), .int .u64 (wv2 ((wz a3 a2 a1 a0) * (wz y3 y2 y1 y0))), .int .u64 (wv1 ((wz a3 a2 a1 a0) * (wz y3 y2 y1 y0))), .int .u64 (wv0 ((wz a3 a2 a1 a0) * (wz y3 y2 y1 y0)))]) (l := [.int .u64 (wv3 ((wz a3 a2 a1 a0) * (wz y3 y2 y1 y0))), .int .u64 (wv2 ((wz a3 a2 a1 a0) * (wz y3 y2 y1 y0))), .int .u64 (wv1 ((wz a3 a2 a1 a0) * (wz y3 y2 y1 y0))), .int .u64 (wv0 ((wz a3 a2 a1 a0) * (wz y3 y2 y1 y0)))]) (T rfl rfl) (T rfl rfl) sz26 rfl rfl rfl H568 rfl ?_)
          intro w569 s570 H571
          have E572 := below_st E565 N558 s570
          have H573 := (s570.blk H566 (by omega))
          have H574 := (s570.blk H567 (by omega))
          refine ⟨.inr ⟨H573, H574⟩, ?_⟩
          refine aw_last 10 (.bool (decide (fits ((wz a3 a2 a1 a0) * (wz y3 y2 y1 y0))))) rfl (by kernel_rfl) .none (fun _ => dv_assign (T rfl rfl)) ?_
          refine aw_done (by kernel_rfl) ?_
          refine rk_seq ?_
          refine rk_seq ?_
          refine rk_reg ?_
          refine lw_v (.agg #[.int .u64 (wv3 ((wz a3 a2 a1 a0) * (wz y3 y2 y1 y0))), .int .u64 (wv2 ((wz a3 a2 a1 a0) * (wz y3 y2 y1 y0))), .int .u64 (wv1 ((wz a3 a2 a1 a0) * (wz y3 y2 y1 y0))), .int .u64 (wv0 ((wz a3 a2 a1 a0) * (wz y3 y2 y1 y0)))]) (dv_loads (l := [.int .u64 (wv3 ((wz a3 a2 a1 a0) * (wz y3 y2 y1 y0))), .int .u64 (wv2 ((wz a3 a2 a1 a0) * (wz y3 y2 y1 y0))), .int .u64 (wv1 ((wz a3 a2 a1 a0) * (wz y3 y2 y1 y0))), .int .u64 (wv0 ((wz a3 a2 a1 a0) * (wz y3 y2 y1 y0)))]) agt26 sz26 (T rfl rfl) H571 rfl) ?_
          have H575 := (s570.blk (e564.blk (n557.ext.blk H559)) (by omega))
          refine lw_v (.agg #[.int .u64 (wv3 ((wz a3 a2 a1 a0) * (wz y3 y2 y1 y0))), .int .u64 (wv2 ((wz a3 a2 a1 a0) * (wz y3 y2 y1 y0))), .int .u64 (wv1 ((wz a3 a2 a1 a0) * (wz y3 y2 y1 y0))), .int .u64 (wv0 ((wz a3 a2 a1 a0) * (wz y3 y2 y1 y0)))]) (dv_loads (l := [.int .u64 (wv3 ((wz a3 a2 a1 a0) * (wz y3 y2 y1 y0))), .int .u64 (wv2 ((wz a3 a2 a1 a0) * (wz y3 y2 y1 y0))), .int .u64 (wv1 ((wz a3 a2 a1 a0) * (wz y3 y2 y1 y0))), .int .u64 (wv0 ((wz a3 a2 a1 a0) * (wz y3 y2 y1 y0)))]) agt26 sz26 (T rfl rfl) H575 rfl) ?_
          refine lw_e (oe_callf (vs := [.agg #[.int .u64 (wv3 ((wz a3 a2 a1 a0) * (wz y3 y2 y1 y0))), .int .u64 (wv2 ((wz a3 a2 a1 a0) * (wz y3 y2 y1 y0))), .int .u64 (wv1 ((wz a3 a2 a1 a0) * (wz y3 y2 y1 y0))), .int .u64 (wv0 ((wz a3 a2 a1 a0) * (wz y3 y2 y1 y0)))], .agg #[.int .u64 (wv3 ((wz a3 a2 a1 a0) * (wz y3 y2 y1 y0))), .int .u64 (wv2 ((wz a3 a2 a1 a0) * (wz y3 y2 y1 y0))), .int .u64 (wv1 ((wz a3 a2 a1 a0) * (wz y3 y2 y1 y0))), .int .u64 (wv0 ((wz a3 a2 a1 a0) * (wz y3 y2 y1 y0)))]]) co24 (ar2 (T rfl rfl) (T rfl rfl)) (eqWide_ok ) ?_)
          rintro _ w576 ⟨rfl, e577⟩
          have E578 := below_ext E572 E572.size e577
          refine lw_v (.bool (decide (¬ ((wv3 ((wz a3 a2 a1 a0) * (wz y3 y2 y1 y0))) = (wv3 ((wz a3 a2 a1 a0) * (wz y3 y2 y1 y0))) ∧ (wv2 ((wz a3 a2 a1 a0) * (wz y3 y2 y1 y0))) = (wv2 ((wz a3 a2 a1 a0) * (wz y3 y2 y1 y0))) ∧ (wv1 ((wz a3 a2 a1 a0) * (wz y3 y2 y1 y0))) = (wv1 ((wz a3 a2 a1 a0) * (wz y3 y2 y1 y0))) ∧ (wv0 ((wz a3 a2 a1 a0) * (wz y3 y2 y1 y0))) = (wv0 ((wz a3 a2 a1 a0) * (wz y3 y2 y1 y0))))))) (dv_notd (p := (wv3 ((wz a3 a2 a1 a0) * (wz y3 y2 y1 y0))) = (wv3 ((wz a3 a2 a1 a0) * (wz y3 y2 y1 y0))) ∧ (wv2 ((wz a3 a2 a1 a0) * (wz y3 y2 y1 y0))) = (wv2 ((wz a3 a2 a1 a0) * (wz y3 y2 y1 y0))) ∧ (wv1 ((wz a3 a2 a1 a0) * (wz y3 y2 y1 y0))) = (wv1 ((wz a3 a2 a1 a0) * (wz y3 y2 y1 y0))) ∧ (wv0 ((wz a3 a2 a1 a0) * (wz y3 y2 y1 y0))) = (wv0 ((wz a3 a2 a1 a0) * (wz y3 y2 y1 y0)))) (T rfl rfl)) ?_
          refine lw_v (.bool (decide (¬ ((wv3 ((wz a3 a2 a1 a0) * (wz y3 y2 y1 y0))) = (wv3 ((wz a3 a2 a1 a0) * (wz y3 y2 y1 y0))) ∧ (wv2 ((wz a3 a2 a1 a0) * (wz y3 y2 y1 y0))) = (wv2 ((wz a3 a2 a1 a0) * (wz y3 y2 y1 y0))) ∧ (wv1 ((wz a3 a2 a1 a0) * (wz y3 y2 y1 y0))) = (wv1 ((wz a3 a2 a1 a0) * (wz y3 y2 y1 y0))) ∧ (wv0 ((wz a3 a2 a1 a0) * (wz y3 y2 y1 y0))) = (wv0 ((wz a3 a2 a1 a0) * (wz y3 y2 y1 y0))))))) (dv_move (T rfl rfl)) ?_
          by_cases hb579 : (wv3 ((wz a3 a2 a1 a0) * (wz y3 y2 y1 y0))) = (wv3 ((wz a3 a2 a1 a0) * (wz y3 y2 y1 y0))) ∧ (wv2 ((wz a3 a2 a1 a0) * (wz y3 y2 y1 y0))) = (wv2 ((wz a3 a2 a1 a0) * (wz y3 y2 y1 y0))) ∧ (wv1 ((wz a3 a2 a1 a0) * (wz y3 y2 y1 y0))) = (wv1 ((wz a3 a2 a1 a0) * (wz y3 y2 y1 y0))) ∧ (wv0 ((wz a3 a2 a1 a0) * (wz y3 y2 y1 y0))) = (wv0 ((wz a3 a2 a1 a0) * (wz y3 y2 y1 y0)))
          · -- baabT
            refine lw_vy (.bool (decide (fits ((wz a3 a2 a1 a0) * (wz y3 y2 y1 y0))))) (d := 29) rfl rfl (congrArg Value.bool (decide_eq_false (not_not_intro hb579))) (dv_move (T rfl rfl)) ?_
            refine lw_vy (.bool (decide (fits ((wz a3 a2 a1 a0) * (wz y3 y2 y1 y0))))) (d := 29) rfl rfl (congrArg Value.bool (decide_eq_false (not_not_intro hb579))) (dv_move (T rfl rfl)) ?_
            refine lw_vy (.bool ((decide (fits ((wz a3 a2 a1 a0) * (wz y3 y2 y1 y0)))) != (decide (fits ((wz a3 a2 a1 a0) * (wz y3 y2 y1 y0)))))) (d := 29) rfl rfl (congrArg Value.bool (decide_eq_false (not_not_intro hb579))) (dv_neqb (a := decide (fits ((wz a3 a2 a1 a0) * (wz y3 y2 y1 y0)))) (b := decide (fits ((wz a3 a2 a1 a0) * (wz y3 y2 y1 y0)))) ub4 (T rfl rfl) (T rfl rfl)) ?_
            refine lw_v (.bool ((decide (fits ((wz a3 a2 a1 a0) * (wz y3 y2 y1 y0)))) != (decide (fits ((wz a3 a2 a1 a0) * (wz y3 y2 y1 y0)))))) (dv_pick_f (T rfl (congrArg Value.bool (decide_eq_false (not_not_intro hb579)))) (T rfl rfl)) ?_
            refine lw_nil ?_
            rcases Bool.eq_false_or_eq_true ((decide (fits ((wz a3 a2 a1 a0) * (wz y3 y2 y1 y0)))) != (decide (fits ((wz a3 a2 a1 a0) * (wz y3 y2 y1 y0))))) with hb580 | hb580
            · -- baabTT
              refine rk_ct (T rfl (congrArg Value.bool hb580)) ?_
              refine rk_seq ?_
              refine rk_reg ?_
              refine lw_v (.bool false) (dv_assign C) ?_
              refine lw_nil ?_
              refine rk_ret Try.func11 (v := .bool false) (res1 Try.results11 (rv_tmp rfl rfl)) ⟨_, rfl, ?_⟩
              exact ⟨(congrArg Value.bool (by grind)), E578⟩
            · -- baabTF
              refine rk_cf (T rfl (congrArg Value.bool hb580)) ?_
              refine rk_skip ?_
              refine rk_seq ?_
              refine rk_reg ?_
              refine lw_v (.bool true) (dv_assign C) ?_
              refine lw_nil ?_
              refine rk_ret Try.func11 (v := .bool true) (res1 Try.results11 (rv_tmp rfl rfl)) ⟨_, rfl, ?_⟩
              exact ⟨rfl, E578⟩
          · -- baabF
            refine lw_no (d := 29) rfl rfl (congrArg Value.bool (decide_eq_true hb579)) ?_
            refine lw_no (d := 29) rfl rfl (congrArg Value.bool (decide_eq_true hb579)) ?_
            refine lw_no (d := 29) rfl rfl (congrArg Value.bool (decide_eq_true hb579)) ?_
            refine lw_v (.bool true) (dv_pick_t (T rfl (congrArg Value.bool (decide_eq_true hb579))) C) ?_
            refine lw_nil ?_
            refine rk_ct (T rfl rfl) ?_
            refine rk_seq ?_
            refine rk_reg ?_
            refine lw_v (.bool false) (dv_assign C) ?_
            refine lw_nil ?_
            refine rk_ret Try.func11 (v := .bool false) (res1 Try.results11 (rv_tmp rfl rfl)) ⟨_, rfl, ?_⟩
            exact ⟨(congrArg Value.bool (by grind)), E578⟩
      · -- bab
        refine id (oe_alloc ze26 ?_)
        intro b581 w582 n583
        have N584 : w.heap.size ≤ b581 := n583.eq ▸ E522.size
        have H585 := (e521.blk (d516.ext.blk H511))
        have : b486 < b581 := n583.eq ▸ lt_of_blk H585
        have E586 := below_ext E522 E522.size n583.ext
        have H587 := (n583.ext.blk H523)
        have H588 := (n583.ext.blk H524)
        refine ⟨.inr ⟨H587, H588⟩, ?_⟩
        refine aw_one 3 rfl (by kernel_rfl) .none (oe_callf (vs := [.agg #[.int .u64 y3, .int .u64 y2, .int .u64 y1, .int .u64 y0]]) co16 (ar1 (T rfl rfl)) (toWide_ok ) ?_)
        rintro _ w589 ⟨rfl, e590⟩
        have E591 := below_ext E586 E586.size e590
        have H592 := (e590.blk H587)
        have H593 := (e590.blk H588)
        refine ⟨.inr ⟨H592, H593⟩, ?_⟩
        refine aw_one 4 rfl (by kernel_rfl) .none (oe_callf (vs := [.agg #[.int .u64 a3, .int .u64 a2, .int .u64 a1, .int .u64 a0], .agg #[.int .u64 y3, .int .u64 y2, .int .u64 y1, .int .u64 y0]]) co36 (ar2 (T rfl rfl) (T rfl rfl)) (iWideMul_ok (by omega) (by omega) (by omega) (by omega) (by omega) (by omega) (by omega) (by omega)) ?_)
        rintro _ w594 ⟨rfl, e595⟩
        have E596 := below_ext E591 E591.size e595
        have H597 := (e595.blk H592)
        have H598 := (e595.blk H593)
        refine ⟨.inr ⟨H597, H598⟩, ?_⟩
        refine aw_pure 5 (.tuple #[.agg #[.int .u64 (wv3 ((wz a3 a2 a1 a0) * (wz y3 y2 y1 y0))), .int .u64 (wv2 ((wz a3 a2 a1 a0) * (wz y3 y2 y1 y0))), .int .u64 (wv1 ((wz a3 a2 a1 a0) * (wz y3 y2 y1 y0))), .int .u64 (wv0 ((wz a3 a2 a1 a0) * (wz y3 y2 y1 y0)))], .bool (decide (fits ((wz a3 a2 a1 a0) * (wz y3 y2 y1 y0))))]) rfl (by kernel_rfl) .none ⟨H597, H598⟩ (fun _ => dv_move (T rfl rfl)) ?_
        refine aw_pure 6 (.agg #[.int .u64 (wv3 ((wz a3 a2 a1 a0) * (wz y3 y2 y1 y0))), .int .u64 (wv2 ((wz a3 a2 a1 a0) * (wz y3 y2 y1 y0))), .int .u64 (wv1 ((wz a3 a2 a1 a0) * (wz y3 y2 y1 y0))), .int .u64 (wv0 ((wz a3 a2 a1 a0) * (wz y3 y2 y1 y0)))]) rfl (by kernel_rfl) .none ⟨H597, H598⟩ (fun _ => dv_extract (vs := #[.agg #[.int .u64 (wv3 ((wz a3 a2 a1 a0) * (wz y3 y2 y1 y0))), .int .u64 (wv2 ((wz a3 a2 a1 a0) * (wz y3 y2 y1 y0))), .int .u64 (wv1 ((wz a3 a2 a1 a0) * (wz y3 y2 y1 y0))), .int .u64 (wv0 ((wz a3 a2 a1 a0) * (wz y3 y2 y1 y0)))], .bool (decide (fits ((wz a3 a2 a1 a0) * (wz y3 y2 y1 y0))))]) (T rfl rfl) rfl) ?_
        refine aw_pure 7 (.bool (decide (fits ((wz a3 a2 a1 a0) * (wz y3 y2 y1 y0))))) rfl (by kernel_rfl) .none ⟨H597, H598⟩ (fun _ => dv_extract (vs := #[.agg #[.int .u64 (wv3 ((wz a3 a2 a1 a0) * (wz y3 y2 y1 y0))), .int .u64 (wv2 ((wz a3 a2 a1 a0) * (wz y3 y2 y1 y0))), .int .u64 (wv1 ((wz a3 a2 a1 a0) * (wz y3 y2 y1 y0))), .int .u64 (wv0 ((wz a3 a2 a1 a0) * (wz y3 y2 y1 y0)))], .bool (decide (fits ((wz a3 a2 a1 a0) * (wz y3 y2 y1 y0))))]) (T rfl rfl) rfl) ?_
        have H599 := (e595.blk (e590.blk n583.blk))
        refine aw_one 9 rfl (by kernel_rfl) .none (oe_store (v := .agg #[.int .u64 (wv3 ((wz a3 a2 a1 a0) * (wz y3 y2 y1 y0))), .int .u64 (wv2 ((wz a3 a2 a1 a0) * (wz y3 y2 y1 y0))), .int .u64 (wv1 ((wz a3 a2 a1 a0) * (wz y3 y2 y1 y0))), .int .u64 (wv0 ((wz a3 a2 a1 a0) * (wz y3 y2 y1 y0)))]) (vs := [.int .u64 (wv3 ((wz a3 a2 a1 a0) * (wz y3 y2 y1 y0))), .int .u64 (wv2 ((wz a3 a2 a1 a0) * (wz y3 y2 y1 y0))), .int .u64 (wv1 ((wz a3 a2 a1 a0) * (wz y3 y2 y1 y0))), .int .u64 (wv0 ((wz a3 a2 a1 a0) * (wz y3 y2 y1 y0)))]) (l := [.int .u64 (wv3 ((wz a3 a2 a1 a0) * (wz y3 y2 y1 y0))), .int .u64 (wv2 ((wz a3 a2 a1 a0) * (wz y3 y2 y1 y0))), .int .u64 (wv1 ((wz a3 a2 a1 a0) * (wz y3 y2 y1 y0))), .int .u64 (wv0 ((wz a3 a2 a1 a0) * (wz y3 y2 y1 y0)))]) (T rfl rfl) (T rfl rfl) sz26 rfl rfl rfl H599 rfl ?_)
        intro w600 s601 H602
        have E603 := below_st E596 N584 s601
        have H604 := (s601.blk H597 (by omega))
        have H605 := (s601.blk H598 (by omega))
        refine ⟨.inr ⟨H604, H605⟩, ?_⟩
        refine aw_last 10 (.bool (decide (fits ((wz a3 a2 a1 a0) * (wz y3 y2 y1 y0))))) rfl (by kernel_rfl) .none (fun _ => dv_assign (T rfl rfl)) ?_
        refine aw_done (by kernel_rfl) ?_
        refine rk_seq ?_
        refine rk_seq ?_
        refine rk_reg ?_
        refine lw_v (.agg #[.int .u64 (wv3 ((wz a3 a2 a1 a0) * (wz y3 y2 y1 y0))), .int .u64 (wv2 ((wz a3 a2 a1 a0) * (wz y3 y2 y1 y0))), .int .u64 (wv1 ((wz a3 a2 a1 a0) * (wz y3 y2 y1 y0))), .int .u64 (wv0 ((wz a3 a2 a1 a0) * (wz y3 y2 y1 y0)))]) (dv_loads (l := [.int .u64 (wv3 ((wz a3 a2 a1 a0) * (wz y3 y2 y1 y0))), .int .u64 (wv2 ((wz a3 a2 a1 a0) * (wz y3 y2 y1 y0))), .int .u64 (wv1 ((wz a3 a2 a1 a0) * (wz y3 y2 y1 y0))), .int .u64 (wv0 ((wz a3 a2 a1 a0) * (wz y3 y2 y1 y0)))]) agt26 sz26 (T rfl rfl) H602 rfl) ?_
        have H606 := (s601.blk (e595.blk (e590.blk (n583.ext.blk H585))) (by omega))
        refine lw_v (.agg #[.int .u64 (wv3 ((wz a3 a2 a1 a0) * (wz y3 y2 y1 y0))), .int .u64 (wv2 ((wz a3 a2 a1 a0) * (wz y3 y2 y1 y0))), .int .u64 (wv1 ((wz a3 a2 a1 a0) * (wz y3 y2 y1 y0))), .int .u64 (wv0 ((wz a3 a2 a1 a0) * (wz y3 y2 y1 y0)))]) (dv_loads (l := [.int .u64 (wv3 ((wz a3 a2 a1 a0) * (wz y3 y2 y1 y0))), .int .u64 (wv2 ((wz a3 a2 a1 a0) * (wz y3 y2 y1 y0))), .int .u64 (wv1 ((wz a3 a2 a1 a0) * (wz y3 y2 y1 y0))), .int .u64 (wv0 ((wz a3 a2 a1 a0) * (wz y3 y2 y1 y0)))]) agt26 sz26 (T rfl rfl) H606 rfl) ?_
        refine lw_e (oe_callf (vs := [.agg #[.int .u64 (wv3 ((wz a3 a2 a1 a0) * (wz y3 y2 y1 y0))), .int .u64 (wv2 ((wz a3 a2 a1 a0) * (wz y3 y2 y1 y0))), .int .u64 (wv1 ((wz a3 a2 a1 a0) * (wz y3 y2 y1 y0))), .int .u64 (wv0 ((wz a3 a2 a1 a0) * (wz y3 y2 y1 y0)))], .agg #[.int .u64 (wv3 ((wz a3 a2 a1 a0) * (wz y3 y2 y1 y0))), .int .u64 (wv2 ((wz a3 a2 a1 a0) * (wz y3 y2 y1 y0))), .int .u64 (wv1 ((wz a3 a2 a1 a0) * (wz y3 y2 y1 y0))), .int .u64 (wv0 ((wz a3 a2 a1 a0) * (wz y3 y2 y1 y0)))]]) co24 (ar2 (T rfl rfl) (T rfl rfl)) (eqWide_ok ) ?_)
        rintro _ w607 ⟨rfl, e608⟩
        have E609 := below_ext E603 E603.size e608
        refine lw_v (.bool (decide (¬ ((wv3 ((wz a3 a2 a1 a0) * (wz y3 y2 y1 y0))) = (wv3 ((wz a3 a2 a1 a0) * (wz y3 y2 y1 y0))) ∧ (wv2 ((wz a3 a2 a1 a0) * (wz y3 y2 y1 y0))) = (wv2 ((wz a3 a2 a1 a0) * (wz y3 y2 y1 y0))) ∧ (wv1 ((wz a3 a2 a1 a0) * (wz y3 y2 y1 y0))) = (wv1 ((wz a3 a2 a1 a0) * (wz y3 y2 y1 y0))) ∧ (wv0 ((wz a3 a2 a1 a0) * (wz y3 y2 y1 y0))) = (wv0 ((wz a3 a2 a1 a0) * (wz y3 y2 y1 y0))))))) (dv_notd (p := (wv3 ((wz a3 a2 a1 a0) * (wz y3 y2 y1 y0))) = (wv3 ((wz a3 a2 a1 a0) * (wz y3 y2 y1 y0))) ∧ (wv2 ((wz a3 a2 a1 a0) * (wz y3 y2 y1 y0))) = (wv2 ((wz a3 a2 a1 a0) * (wz y3 y2 y1 y0))) ∧ (wv1 ((wz a3 a2 a1 a0) * (wz y3 y2 y1 y0))) = (wv1 ((wz a3 a2 a1 a0) * (wz y3 y2 y1 y0))) ∧ (wv0 ((wz a3 a2 a1 a0) * (wz y3 y2 y1 y0))) = (wv0 ((wz a3 a2 a1 a0) * (wz y3 y2 y1 y0)))) (T rfl rfl)) ?_
        refine lw_v (.bool (decide (¬ ((wv3 ((wz a3 a2 a1 a0) * (wz y3 y2 y1 y0))) = (wv3 ((wz a3 a2 a1 a0) * (wz y3 y2 y1 y0))) ∧ (wv2 ((wz a3 a2 a1 a0) * (wz y3 y2 y1 y0))) = (wv2 ((wz a3 a2 a1 a0) * (wz y3 y2 y1 y0))) ∧ (wv1 ((wz a3 a2 a1 a0) * (wz y3 y2 y1 y0))) = (wv1 ((wz a3 a2 a1 a0) * (wz y3 y2 y1 y0))) ∧ (wv0 ((wz a3 a2 a1 a0) * (wz y3 y2 y1 y0))) = (wv0 ((wz a3 a2 a1 a0) * (wz y3 y2 y1 y0))))))) (dv_move (T rfl rfl)) ?_
        by_cases hb610 : (wv3 ((wz a3 a2 a1 a0) * (wz y3 y2 y1 y0))) = (wv3 ((wz a3 a2 a1 a0) * (wz y3 y2 y1 y0))) ∧ (wv2 ((wz a3 a2 a1 a0) * (wz y3 y2 y1 y0))) = (wv2 ((wz a3 a2 a1 a0) * (wz y3 y2 y1 y0))) ∧ (wv1 ((wz a3 a2 a1 a0) * (wz y3 y2 y1 y0))) = (wv1 ((wz a3 a2 a1 a0) * (wz y3 y2 y1 y0))) ∧ (wv0 ((wz a3 a2 a1 a0) * (wz y3 y2 y1 y0))) = (wv0 ((wz a3 a2 a1 a0) * (wz y3 y2 y1 y0)))
        · -- babT
          refine lw_vy (.bool (decide (fits ((wz a3 a2 a1 a0) * (wz y3 y2 y1 y0))))) (d := 29) rfl rfl (congrArg Value.bool (decide_eq_false (not_not_intro hb610))) (dv_move (T rfl rfl)) ?_
          refine lw_vy (.bool (decide (fits ((wz a3 a2 a1 a0) * (wz y3 y2 y1 y0))))) (d := 29) rfl rfl (congrArg Value.bool (decide_eq_false (not_not_intro hb610))) (dv_move (T rfl rfl)) ?_
          refine lw_vy (.bool ((decide (fits ((wz a3 a2 a1 a0) * (wz y3 y2 y1 y0)))) != (decide (fits ((wz a3 a2 a1 a0) * (wz y3 y2 y1 y0)))))) (d := 29) rfl rfl (congrArg Value.bool (decide_eq_false (not_not_intro hb610))) (dv_neqb (a := decide (fits ((wz a3 a2 a1 a0) * (wz y3 y2 y1 y0)))) (b := decide (fits ((wz a3 a2 a1 a0) * (wz y3 y2 y1 y0)))) ub4 (T rfl rfl) (T rfl rfl)) ?_
          refine lw_v (.bool ((decide (fits ((wz a3 a2 a1 a0) * (wz y3 y2 y1 y0)))) != (decide (fits ((wz a3 a2 a1 a0) * (wz y3 y2 y1 y0)))))) (dv_pick_f (T rfl (congrArg Value.bool (decide_eq_false (not_not_intro hb610)))) (T rfl rfl)) ?_
          refine lw_nil ?_
          rcases Bool.eq_false_or_eq_true ((decide (fits ((wz a3 a2 a1 a0) * (wz y3 y2 y1 y0)))) != (decide (fits ((wz a3 a2 a1 a0) * (wz y3 y2 y1 y0))))) with hb611 | hb611
          · -- babTT
            refine rk_ct (T rfl (congrArg Value.bool hb611)) ?_
            refine rk_seq ?_
            refine rk_reg ?_
            refine lw_v (.bool false) (dv_assign C) ?_
            refine lw_nil ?_
            refine rk_ret Try.func11 (v := .bool false) (res1 Try.results11 (rv_tmp rfl rfl)) ⟨_, rfl, ?_⟩
            exact ⟨(congrArg Value.bool (by grind)), E609⟩
          · -- babTF
            refine rk_cf (T rfl (congrArg Value.bool hb611)) ?_
            refine rk_skip ?_
            refine rk_seq ?_
            refine rk_reg ?_
            refine lw_v (.bool true) (dv_assign C) ?_
            refine lw_nil ?_
            refine rk_ret Try.func11 (v := .bool true) (res1 Try.results11 (rv_tmp rfl rfl)) ⟨_, rfl, ?_⟩
            exact ⟨rfl, E609⟩
        · -- babF
          refine lw_no (d := 29) rfl rfl (congrArg Value.bool (decide_eq_true hb610)) ?_
          refine lw_no (d := 29) rfl rfl (congrArg Value.bool (decide_eq_true hb610)) ?_
          refine lw_no (d := 29) rfl rfl (congrArg Value.bool (decide_eq_true hb610)) ?_
          refine lw_v (.bool true) (dv_pick_t (T rfl (congrArg Value.bool (decide_eq_true hb610))) C) ?_
          refine lw_nil ?_
          refine rk_ct (T rfl rfl) ?_
          refine rk_seq ?_
          refine rk_reg ?_
          refine lw_v (.bool false) (dv_assign C) ?_
          refine lw_nil ?_
          refine rk_ret Try.func11 (v := .bool false) (res1 Try.results11 (rv_tmp rfl rfl)) ⟨_, rfl, ?_⟩
          exact ⟨(congrArg Value.bool (by grind)), E609⟩
    · -- bb
      refine id (oe_alloc ze26 ?_)
      intro b612 w613 n614
      have N615 : w.heap.size ≤ b612 := n614.eq ▸ E517.size
      have H616 := (d516.ext.blk H511)
      have : b486 < b612 := n614.eq ▸ lt_of_blk H616
      have E617 := below_ext E517 E517.size n614.ext
      have H618 := (n614.ext.blk H518)
      have H619 := (n614.ext.blk H519)
      refine ⟨.inr ⟨H618, H619⟩, ?_⟩
      refine aw_one 1 rfl (by kernel_rfl) .none (oe_callf (vs := [.agg #[.int .u64 a3, .int .u64 a2, .int .u64 a1, .int .u64 a0]]) co16 (ar1 (T rfl rfl)) (toWide_ok ) ?_)
      rintro _ w620 ⟨rfl, e621⟩
      have E622 := below_ext E617 E617.size e621
      have H623 := (e621.blk H618)
      have H624 := (e621.blk H619)
      refine ⟨.inr ⟨H623, H624⟩, ?_⟩
      refine aw_one 3 rfl (by kernel_rfl) .none (oe_callf (vs := [.agg #[.int .u64 y3, .int .u64 y2, .int .u64 y1, .int .u64 y0]]) co16 (ar1 (T rfl rfl)) (toWide_ok ) ?_)
      rintro _ w625 ⟨rfl, e626⟩
      have E627 := below_ext E622 E622.size e626
      have H628 := (e626.blk H623)
      have H629 := (e626.blk H624)
      refine ⟨.inr ⟨H628, H629⟩, ?_⟩
      refine aw_one 4 rfl (by kernel_rfl) .none (oe_callf (vs := [.agg #[.int .u64 a3, .int .u64 a2, .int .u64 a1, .int .u64 a0], .agg #[.int .u64 y3, .int .u64 y2, .int .u64 y1, .int .u64 y0]]) co36 (ar2 (T rfl rfl) (T rfl rfl)) (iWideMul_ok (by omega) (by omega) (by omega) (by omega) (by omega) (by omega) (by omega) (by omega)) ?_)
      rintro _ w630 ⟨rfl, e631⟩
      have E632 := below_ext E627 E627.size e631
      have H633 := (e631.blk H628)
      have H634 := (e631.blk H629)
      refine ⟨.inr ⟨H633, H634⟩, ?_⟩
      refine aw_pure 5 (.tuple #[.agg #[.int .u64 (wv3 ((wz a3 a2 a1 a0) * (wz y3 y2 y1 y0))), .int .u64 (wv2 ((wz a3 a2 a1 a0) * (wz y3 y2 y1 y0))), .int .u64 (wv1 ((wz a3 a2 a1 a0) * (wz y3 y2 y1 y0))), .int .u64 (wv0 ((wz a3 a2 a1 a0) * (wz y3 y2 y1 y0)))], .bool (decide (fits ((wz a3 a2 a1 a0) * (wz y3 y2 y1 y0))))]) rfl (by kernel_rfl) .none ⟨H633, H634⟩ (fun _ => dv_move (T rfl rfl)) ?_
      refine aw_pure 6 (.agg #[.int .u64 (wv3 ((wz a3 a2 a1 a0) * (wz y3 y2 y1 y0))), .int .u64 (wv2 ((wz a3 a2 a1 a0) * (wz y3 y2 y1 y0))), .int .u64 (wv1 ((wz a3 a2 a1 a0) * (wz y3 y2 y1 y0))), .int .u64 (wv0 ((wz a3 a2 a1 a0) * (wz y3 y2 y1 y0)))]) rfl (by kernel_rfl) .none ⟨H633, H634⟩ (fun _ => dv_extract (vs := #[.agg #[.int .u64 (wv3 ((wz a3 a2 a1 a0) * (wz y3 y2 y1 y0))), .int .u64 (wv2 ((wz a3 a2 a1 a0) * (wz y3 y2 y1 y0))), .int .u64 (wv1 ((wz a3 a2 a1 a0) * (wz y3 y2 y1 y0))), .int .u64 (wv0 ((wz a3 a2 a1 a0) * (wz y3 y2 y1 y0)))], .bool (decide (fits ((wz a3 a2 a1 a0) * (wz y3 y2 y1 y0))))]) (T rfl rfl) rfl) ?_
      refine aw_pure 7 (.bool (decide (fits ((wz a3 a2 a1 a0) * (wz y3 y2 y1 y0))))) rfl (by kernel_rfl) .none ⟨H633, H634⟩ (fun _ => dv_extract (vs := #[.agg #[.int .u64 (wv3 ((wz a3 a2 a1 a0) * (wz y3 y2 y1 y0))), .int .u64 (wv2 ((wz a3 a2 a1 a0) * (wz y3 y2 y1 y0))), .int .u64 (wv1 ((wz a3 a2 a1 a0) * (wz y3 y2 y1 y0))), .int .u64 (wv0 ((wz a3 a2 a1 a0) * (wz y3 y2 y1 y0)))], .bool (decide (fits ((wz a3 a2 a1 a0) * (wz y3 y2 y1 y0))))]) (T rfl rfl) rfl) ?_
      have H635 := (e631.blk (e626.blk (e621.blk n614.blk)))
      refine aw_one 9 rfl (by kernel_rfl) .none (oe_store (v := .agg #[.int .u64 (wv3 ((wz a3 a2 a1 a0) * (wz y3 y2 y1 y0))), .int .u64 (wv2 ((wz a3 a2 a1 a0) * (wz y3 y2 y1 y0))), .int .u64 (wv1 ((wz a3 a2 a1 a0) * (wz y3 y2 y1 y0))), .int .u64 (wv0 ((wz a3 a2 a1 a0) * (wz y3 y2 y1 y0)))]) (vs := [.int .u64 (wv3 ((wz a3 a2 a1 a0) * (wz y3 y2 y1 y0))), .int .u64 (wv2 ((wz a3 a2 a1 a0) * (wz y3 y2 y1 y0))), .int .u64 (wv1 ((wz a3 a2 a1 a0) * (wz y3 y2 y1 y0))), .int .u64 (wv0 ((wz a3 a2 a1 a0) * (wz y3 y2 y1 y0)))]) (l := [.int .u64 (wv3 ((wz a3 a2 a1 a0) * (wz y3 y2 y1 y0))), .int .u64 (wv2 ((wz a3 a2 a1 a0) * (wz y3 y2 y1 y0))), .int .u64 (wv1 ((wz a3 a2 a1 a0) * (wz y3 y2 y1 y0))), .int .u64 (wv0 ((wz a3 a2 a1 a0) * (wz y3 y2 y1 y0)))]) (T rfl rfl) (T rfl rfl) sz26 rfl rfl rfl H635 rfl ?_)
      intro w636 s637 H638
      have E639 := below_st E632 N615 s637
      have H640 := (s637.blk H633 (by omega))
      have H641 := (s637.blk H634 (by omega))
      refine ⟨.inr ⟨H640, H641⟩, ?_⟩
      refine aw_last 10 (.bool (decide (fits ((wz a3 a2 a1 a0) * (wz y3 y2 y1 y0))))) rfl (by kernel_rfl) .none (fun _ => dv_assign (T rfl rfl)) ?_
      refine aw_done (by kernel_rfl) ?_
      refine rk_seq ?_
      refine rk_seq ?_
      refine rk_reg ?_
      refine lw_v (.agg #[.int .u64 (wv3 ((wz a3 a2 a1 a0) * (wz y3 y2 y1 y0))), .int .u64 (wv2 ((wz a3 a2 a1 a0) * (wz y3 y2 y1 y0))), .int .u64 (wv1 ((wz a3 a2 a1 a0) * (wz y3 y2 y1 y0))), .int .u64 (wv0 ((wz a3 a2 a1 a0) * (wz y3 y2 y1 y0)))]) (dv_loads (l := [.int .u64 (wv3 ((wz a3 a2 a1 a0) * (wz y3 y2 y1 y0))), .int .u64 (wv2 ((wz a3 a2 a1 a0) * (wz y3 y2 y1 y0))), .int .u64 (wv1 ((wz a3 a2 a1 a0) * (wz y3 y2 y1 y0))), .int .u64 (wv0 ((wz a3 a2 a1 a0) * (wz y3 y2 y1 y0)))]) agt26 sz26 (T rfl rfl) H638 rfl) ?_
      have H642 := (s637.blk (e631.blk (e626.blk (e621.blk (n614.ext.blk H616)))) (by omega))
      refine lw_v (.agg #[.int .u64 (wv3 ((wz a3 a2 a1 a0) * (wz y3 y2 y1 y0))), .int .u64 (wv2 ((wz a3 a2 a1 a0) * (wz y3 y2 y1 y0))), .int .u64 (wv1 ((wz a3 a2 a1 a0) * (wz y3 y2 y1 y0))), .int .u64 (wv0 ((wz a3 a2 a1 a0) * (wz y3 y2 y1 y0)))]) (dv_loads (l := [.int .u64 (wv3 ((wz a3 a2 a1 a0) * (wz y3 y2 y1 y0))), .int .u64 (wv2 ((wz a3 a2 a1 a0) * (wz y3 y2 y1 y0))), .int .u64 (wv1 ((wz a3 a2 a1 a0) * (wz y3 y2 y1 y0))), .int .u64 (wv0 ((wz a3 a2 a1 a0) * (wz y3 y2 y1 y0)))]) agt26 sz26 (T rfl rfl) H642 rfl) ?_
      refine lw_e (oe_callf (vs := [.agg #[.int .u64 (wv3 ((wz a3 a2 a1 a0) * (wz y3 y2 y1 y0))), .int .u64 (wv2 ((wz a3 a2 a1 a0) * (wz y3 y2 y1 y0))), .int .u64 (wv1 ((wz a3 a2 a1 a0) * (wz y3 y2 y1 y0))), .int .u64 (wv0 ((wz a3 a2 a1 a0) * (wz y3 y2 y1 y0)))], .agg #[.int .u64 (wv3 ((wz a3 a2 a1 a0) * (wz y3 y2 y1 y0))), .int .u64 (wv2 ((wz a3 a2 a1 a0) * (wz y3 y2 y1 y0))), .int .u64 (wv1 ((wz a3 a2 a1 a0) * (wz y3 y2 y1 y0))), .int .u64 (wv0 ((wz a3 a2 a1 a0) * (wz y3 y2 y1 y0)))]]) co24 (ar2 (T rfl rfl) (T rfl rfl)) (eqWide_ok ) ?_)
      rintro _ w643 ⟨rfl, e644⟩
      have E645 := below_ext E639 E639.size e644
      refine lw_v (.bool (decide (¬ ((wv3 ((wz a3 a2 a1 a0) * (wz y3 y2 y1 y0))) = (wv3 ((wz a3 a2 a1 a0) * (wz y3 y2 y1 y0))) ∧ (wv2 ((wz a3 a2 a1 a0) * (wz y3 y2 y1 y0))) = (wv2 ((wz a3 a2 a1 a0) * (wz y3 y2 y1 y0))) ∧ (wv1 ((wz a3 a2 a1 a0) * (wz y3 y2 y1 y0))) = (wv1 ((wz a3 a2 a1 a0) * (wz y3 y2 y1 y0))) ∧ (wv0 ((wz a3 a2 a1 a0) * (wz y3 y2 y1 y0))) = (wv0 ((wz a3 a2 a1 a0) * (wz y3 y2 y1 y0))))))) (dv_notd (p := (wv3 ((wz a3 a2 a1 a0) * (wz y3 y2 y1 y0))) = (wv3 ((wz a3 a2 a1 a0) * (wz y3 y2 y1 y0))) ∧ (wv2 ((wz a3 a2 a1 a0) * (wz y3 y2 y1 y0))) = (wv2 ((wz a3 a2 a1 a0) * (wz y3 y2 y1 y0))) ∧ (wv1 ((wz a3 a2 a1 a0) * (wz y3 y2 y1 y0))) = (wv1 ((wz a3 a2 a1 a0) * (wz y3 y2 y1 y0))) ∧ (wv0 ((wz a3 a2 a1 a0) * (wz y3 y2 y1 y0))) = (wv0 ((wz a3 a2 a1 a0) * (wz y3 y2 y1 y0)))) (T rfl rfl)) ?_
      refine lw_v (.bool (decide (¬ ((wv3 ((wz a3 a2 a1 a0) * (wz y3 y2 y1 y0))) = (wv3 ((wz a3 a2 a1 a0) * (wz y3 y2 y1 y0))) ∧ (wv2 ((wz a3 a2 a1 a0) * (wz y3 y2 y1 y0))) = (wv2 ((wz a3 a2 a1 a0) * (wz y3 y2 y1 y0))) ∧ (wv1 ((wz a3 a2 a1 a0) * (wz y3 y2 y1 y0))) = (wv1 ((wz a3 a2 a1 a0) * (wz y3 y2 y1 y0))) ∧ (wv0 ((wz a3 a2 a1 a0) * (wz y3 y2 y1 y0))) = (wv0 ((wz a3 a2 a1 a0) * (wz y3 y2 y1 y0))))))) (dv_move (T rfl rfl)) ?_
      by_cases hb646 : (wv3 ((wz a3 a2 a1 a0) * (wz y3 y2 y1 y0))) = (wv3 ((wz a3 a2 a1 a0) * (wz y3 y2 y1 y0))) ∧ (wv2 ((wz a3 a2 a1 a0) * (wz y3 y2 y1 y0))) = (wv2 ((wz a3 a2 a1 a0) * (wz y3 y2 y1 y0))) ∧ (wv1 ((wz a3 a2 a1 a0) * (wz y3 y2 y1 y0))) = (wv1 ((wz a3 a2 a1 a0) * (wz y3 y2 y1 y0))) ∧ (wv0 ((wz a3 a2 a1 a0) * (wz y3 y2 y1 y0))) = (wv0 ((wz a3 a2 a1 a0) * (wz y3 y2 y1 y0)))
      · -- bbT
        refine lw_vy (.bool (decide (fits ((wz a3 a2 a1 a0) * (wz y3 y2 y1 y0))))) (d := 29) rfl rfl (congrArg Value.bool (decide_eq_false (not_not_intro hb646))) (dv_move (T rfl rfl)) ?_
        refine lw_vy (.bool (decide (fits ((wz a3 a2 a1 a0) * (wz y3 y2 y1 y0))))) (d := 29) rfl rfl (congrArg Value.bool (decide_eq_false (not_not_intro hb646))) (dv_move (T rfl rfl)) ?_
        refine lw_vy (.bool ((decide (fits ((wz a3 a2 a1 a0) * (wz y3 y2 y1 y0)))) != (decide (fits ((wz a3 a2 a1 a0) * (wz y3 y2 y1 y0)))))) (d := 29) rfl rfl (congrArg Value.bool (decide_eq_false (not_not_intro hb646))) (dv_neqb (a := decide (fits ((wz a3 a2 a1 a0) * (wz y3 y2 y1 y0)))) (b := decide (fits ((wz a3 a2 a1 a0) * (wz y3 y2 y1 y0)))) ub4 (T rfl rfl) (T rfl rfl)) ?_
        refine lw_v (.bool ((decide (fits ((wz a3 a2 a1 a0) * (wz y3 y2 y1 y0)))) != (decide (fits ((wz a3 a2 a1 a0) * (wz y3 y2 y1 y0)))))) (dv_pick_f (T rfl (congrArg Value.bool (decide_eq_false (not_not_intro hb646)))) (T rfl rfl)) ?_
        refine lw_nil ?_
        rcases Bool.eq_false_or_eq_true ((decide (fits ((wz a3 a2 a1 a0) * (wz y3 y2 y1 y0)))) != (decide (fits ((wz a3 a2 a1 a0) * (wz y3 y2 y1 y0))))) with hb647 | hb647
        · -- bbTT
          refine rk_ct (T rfl (congrArg Value.bool hb647)) ?_
          refine rk_seq ?_
          refine rk_reg ?_
          refine lw_v (.bool false) (dv_assign C) ?_
          refine lw_nil ?_
          refine rk_ret Try.func11 (v := .bool false) (res1 Try.results11 (rv_tmp rfl rfl)) ⟨_, rfl, ?_⟩
          exact ⟨(congrArg Value.bool (by grind)), E645⟩
        · -- bbTF
          refine rk_cf (T rfl (congrArg Value.bool hb647)) ?_
          refine rk_skip ?_
          refine rk_seq ?_
          refine rk_reg ?_
          refine lw_v (.bool true) (dv_assign C) ?_
          refine lw_nil ?_
          refine rk_ret Try.func11 (v := .bool true) (res1 Try.results11 (rv_tmp rfl rfl)) ⟨_, rfl, ?_⟩
          exact ⟨rfl, E645⟩
      · -- bbF
        refine lw_no (d := 29) rfl rfl (congrArg Value.bool (decide_eq_true hb646)) ?_
        refine lw_no (d := 29) rfl rfl (congrArg Value.bool (decide_eq_true hb646)) ?_
        refine lw_no (d := 29) rfl rfl (congrArg Value.bool (decide_eq_true hb646)) ?_
        refine lw_v (.bool true) (dv_pick_t (T rfl (congrArg Value.bool (decide_eq_true hb646))) C) ?_
        refine lw_nil ?_
        refine rk_ct (T rfl rfl) ?_
        refine rk_seq ?_
        refine rk_reg ?_
        refine lw_v (.bool false) (dv_assign C) ?_
        refine lw_nil ?_
        refine rk_ret Try.func11 (v := .bool false) (res1 Try.results11 (rv_tmp rfl rfl)) ⟨_, rfl, ?_⟩
        exact ⟨(congrArg Value.bool (by grind)), E645⟩

end Go.Proofs.Ytjahakhbdjadaaa.W
