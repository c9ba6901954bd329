/- Walks and plain mathematics, packed by a program of this session: declarations that the rows reach. -/
import Derived.Test.YtfmkadgjoechnaaPpf
set_option linter.unusedVariables false
set_option linter.unusedSimpArgs false
namespace Go.Proofs.Ytfmkadgjoechnaa.W
open Go Go.RowKit Go.Proofs.Ytfmkadgjoechnaa.Fw
attribute [local irreducible] RunK LW AW DV OE Ct
theorem agt9 : aggB Try.prog 9 = some false := by kernel_rfl
theorem co73 : callOk Try.prog 73 = true := by kernel_rfl
theorem co74 : callOk Try.prog 74 = true := by kernel_rfl
theorem in9 : (Try.prog.info? 9).map (fun i => (i.zero, i.size, i.bytes)) = some (some (.string ⟨#[]⟩), 1, 16) := by kernel_rfl
theorem pl49 : placesB Try.prog 49 = some [(0, 4), (4, 4), (8, 4)] := by kernel_rfl
theorem sz9 : sizeB Try.prog 9 = some 1 := by kernel_rfl
theorem us83 : Try.prog.underlying 83 = some (.slice 9) := by kernel_rfl
theorem zc49 : zcB Try.prog 49 = some [.int .u64 0, .int .u64 0, .int .u64 0, .int .u64 0, .int .u64 0, .int .u64 0, .int .u64 0, .int .u64 0, .int .u64 0, .int .u64 0, .int .u64 0, .int .u64 0] := by kernel_rfl
theorem zc9 : zcB Try.prog 9 = some [.string ⟨#[]⟩] := by kernel_rfl
theorem ze49 : zeroB Try.prog 49 = some #[.int .u64 0, .int .u64 0, .int .u64 0, .int .u64 0, .int .u64 0, .int .u64 0, .int .u64 0, .int .u64 0, .int .u64 0, .int .u64 0, .int .u64 0, .int .u64 0] := by kernel_rfl
theorem cut_ok {w : World} {L : List Int} {c : Int} (hc : 0 ≤ c ∧ c < 256) (hL : okW 256 L) (hm : MLn 2 w) (hl : L.length ≤ 1048576) : Ct Try.prog 71 [.string (bOf L), .string (bOf [c])] w fun v w1 =>
 v = .tuple #[.string (bOf (L.take (fi c L))), .string (bOf (L.drop (fi c L + 1))), .bool (decide (fi c L < L.length))] ∧ Ext w w1 := by
 obtain ⟨m, hm⟩ := hm
 unfold Ct
 refine Calls.mono (Try.strings_Cut (bOf L) (bOf [c]) m w (by rw [bOf_size]; omega) hm) fun e w' ⟨he, n, hw⟩ => ⟨_, he, ?_, ?_⟩
 · obtain ⟨h1, h2, h3⟩ := cut_fi hc hL
   rw [h1, h2, h3]
 · subst hw; exact (Below.refl _ _).trans ⟨rfl, rfl, rfl, Nat.le_refl _, fun _ _ => rfl⟩
set_option maxHeartbeats 1000000 in
theorem iReadPoint_ok {w : World} {L : List Int} (hL : okW 256 L) (hl : L.length ≤ 1048576) (hm : MLn 2 w) : Ct Try.prog 41 [.string (bOf L)] w fun v w1 => v = .tuple #[.agg #[.int .u64 (wv3 (pkz (rpS L) (rpX L))), .int .u64 (wv2 (pkz (rpS L) (rpX L))), .int .u64 (wv1 (pkz (rpS L) (rpX L))), .int .u64 (wv0 (pkz (rpS L) (rpX L))), .int .u64 (wv3 (pkz (rpS L) (rpY L))), .int .u64 (wv2 (pkz (rpS L) (rpY L))), .int .u64 (wv1 (pkz (rpS L) (rpY L))), .int .u64 (wv0 (pkz (rpS L) (rpY L))), .int .u64 (wv3 (pkz (rpS L) (rpU L))), .int .u64 (wv2 (pkz (rpS L) (rpU L))), .int .u64 (wv1 (pkz (rpS L) (rpU L))), .int .u64 (wv0 (pkz (rpS L) (rpU L)))], .bool (decide (rpS L))] ∧ Ext w w1 := by
 refine ct_run (n := 65) Try.func41 rfl Try.ntmps41 rfl ?_
 have E0 : Below w.heap.size w w := Below.refl _ _
 refine rk_seq ?_
 refine rk_reg ?_
 refine lw_e (oe_alloc ze49 ?_)
 intro b1 w2 n3
 have N4 : w.heap.size ≤ b1 := n3.eq ▸ E0.size
 have E5 := below_ext E0 E0.size n3.ext
 refine lw_v (.bool false) (dv_assign C) ?_
 refine lw_nil ?_
 refine rk_seq ?_
 refine rk_reg ?_
 refine lw_v (.string (bOf L)) (dv_move (T rfl rfl)) ?_
 have h6 := (hm.ext n3.ext)
 have := fi_le 47 L
 refine lw_e (oe_callf (vs := [.string (bOf L), .string (bOf [47])]) co71 (ar2 (T rfl rfl) C) (cut_ok (c := 47) (by decide) (hL) h6 (by first | omega | (simp; omega) | (have h1_ := fi_le 47 L; simp; omega))) ?_)
 rintro _ w7 ⟨rfl, e8⟩
 have E9 := below_ext E5 E5.size e8
 refine lw_v (.tuple #[.string (bOf (L.take (fi 47 L))), .string (bOf (L.drop (fi 47 L + 1))), .bool (decide (fi 47 L < L.length))]) (dv_move (T rfl rfl)) ?_
 refine lw_v (.string (bOf (L.take (fi 47 L)))) (dv_extract (vs := #[.string (bOf (L.take (fi 47 L))), .string (bOf (L.drop (fi 47 L + 1))), .bool (decide (fi 47 L < L.length))]) (T rfl rfl) rfl) ?_
 refine lw_v (.string (bOf (L.drop (fi 47 L + 1)))) (dv_extract (vs := #[.string (bOf (L.take (fi 47 L))), .string (bOf (L.drop (fi 47 L + 1))), .bool (decide (fi 47 L < L.length))]) (T rfl rfl) rfl) ?_
 refine lw_v (.bool (decide (fi 47 L < L.length))) (dv_extract (vs := #[.string (bOf (L.take (fi 47 L))), .string (bOf (L.drop (fi 47 L + 1))), .bool (decide (fi 47 L < L.length))]) (T rfl rfl) rfl) ?_
 refine lw_v (.string (bOf (L.take (fi 47 L)))) (dv_assign (T rfl rfl)) ?_
 refine lw_v (.string (bOf (L.drop (fi 47 L + 1)))) (dv_assign (T rfl rfl)) ?_
 refine lw_v (.bool (decide (fi 47 L < L.length))) (dv_assign (T rfl rfl)) ?_
 refine lw_nil ?_
 refine rk_seq ?_
 refine rk_reg ?_
 refine lw_v (.string (bOf (L.take (fi 47 L)))) (dv_move (T rfl rfl)) ?_
 have h10 := (h6.ext e8)
 have := fi_le 44 (L.take (fi 47 L))
 refine lw_e (oe_callf (vs := [.string (bOf (L.take (fi 47 L))), .string (bOf [44])]) co71 (ar2 (T rfl rfl) C) (cut_ok (c := 44) (by decide) (okW_take (hL) ((fi 47 L))) h10 (by first | omega | (simp; omega) | (have h1_ := fi_le 47 L; simp; omega))) ?_)
 rintro _ w11 ⟨rfl, e12⟩
 have E13 := below_ext E9 E9.size e12
 refine lw_v (.tuple #[.string (bOf ((L.take (fi 47 L)).take (fi 44 (L.take (fi 47 L))))), .string (bOf ((L.take (fi 47 L)).drop (fi 44 (L.take (fi 47 L)) + 1))), .bool (decide (fi 44 (L.take (fi 47 L)) < (L.take (fi 47 L)).length))]) (dv_move (T rfl rfl)) ?_
 refine lw_v (.string (bOf ((L.take (fi 47 L)).take (fi 44 (L.take (fi 47 L)))))) (dv_extract (vs := #[.string (bOf ((L.take (fi 47 L)).take (fi 44 (L.take (fi 47 L))))), .string (bOf ((L.take (fi 47 L)).drop (fi 44 (L.take (fi 47 L)) + 1))), .bool (decide (fi 44 (L.take (fi 47 L)) < (L.take (fi 47 L)).length))]) (T rfl rfl) rfl) ?_
 refine lw_v (.string (bOf ((L.take (fi 47 L)).drop (fi 44 (L.take (fi 47 L)) + 1)))) (dv_extract (vs := #[.string (bOf ((L.take (fi 47 L)).take (fi 44 (L.take (fi 47 L))))), .string (bOf ((L.take (fi 47 L)).drop (fi 44 (L.take (fi 47 L)) + 1))), .bool (decide (fi 44 (L.take (fi 47 L)) < (L.take (fi 47 L)).length))]) (T rfl rfl) rfl) ?_
 refine lw_v (.bool (decide (fi 44 (L.take (fi 47 L)) < (L.take (fi 47 L)).length))) (dv_extract (vs := #[.string (bOf ((L.take (fi 47 L)).take (fi 44 (L.take (fi 47 L))))), .string (bOf ((L.take (fi 47 L)).drop (fi 44 (L.take (fi 47 L)) + 1))), .bool (decide (fi 44 (L.take (fi 47 L)) < (L.take (fi 47 L)).length))]) (T rfl rfl) rfl) ?_
 refine lw_v (.string (bOf ((L.take (fi 47 L)).take (fi 44 (L.take (fi 47 L)))))) (dv_assign (T rfl rfl)) ?_
 refine lw_v (.string (bOf ((L.take (fi 47 L)).drop (fi 44 (L.take (fi 47 L)) + 1)))) (dv_assign (T rfl rfl)) ?_
 refine lw_v (.bool (decide (fi 44 (L.take (fi 47 L)) < (L.take (fi 47 L)).length))) (dv_assign (T rfl rfl)) ?_
 refine lw_nil ?_
 refine rk_seq ?_
 refine rk_reg ?_
 refine lw_e (oe_callf (vs := [.int .i64 1]) co22 (ar1 C) (iWideOf_ok (x := 1)  (by omega)) ?_)
 rintro _ w14 ⟨rfl, e15⟩
 have E16 := below_ext E13 E13.size e15
 refine lw_v (.agg #[.int .u64 0, .int .u64 0, .int .u64 0, .int .u64 0, .int .u64 0, .int .u64 0, .int .u64 0, .int .u64 0, .int .u64 (wv3 (1 : Int)), .int .u64 (wv2 (1 : Int)), .int .u64 (wv1 (1 : Int)), .int .u64 (wv0 (1 : Int))]) (dv_build (pv := [(2, .agg #[.int .u64 (wv3 (1 : Int)), .int .u64 (wv2 (1 : Int)), .int .u64 (wv1 (1 : Int)), .int .u64 (wv0 (1 : Int))])]) (l := [.int .u64 0, .int .u64 0, .int .u64 0, .int .u64 0, .int .u64 0, .int .u64 0, .int .u64 0, .int .u64 0, .int .u64 (wv3 (1 : Int)), .int .u64 (wv2 (1 : Int)), .int .u64 (wv1 (1 : Int)), .int .u64 (wv0 (1 : Int))]) zc49 pl49 ⟨rfl, (T rfl rfl), trivial⟩ rfl) ?_
 refine lw_e (oe_alloc ze49 ?_)
 intro b17 w18 n19
 have N20 : w.heap.size ≤ b17 := n19.eq ▸ E16.size
 have H21 := (e15.blk (e12.blk (e8.blk n3.blk)))
 have : b1 < b17 := n19.eq ▸ lt_of_blk H21
 have E22 := below_ext E16 E16.size n19.ext
 refine lw_e (oe_store (v := .agg #[.int .u64 0, .int .u64 0, .int .u64 0, .int .u64 0, .int .u64 0, .int .u64 0, .int .u64 0, .int .u64 0, .int .u64 (wv3 (1 : Int)), .int .u64 (wv2 (1 : Int)), .int .u64 (wv1 (1 : Int)), .int .u64 (wv0 (1 : Int))]) (vs := [.int .u64 0, .int .u64 0, .int .u64 0, .int .u64 0, .int .u64 0, .int .u64 0, .int .u64 0, .int .u64 0, .int .u64 (wv3 (1 : Int)), .int .u64 (wv2 (1 : Int)), .int .u64 (wv1 (1 : Int)), .int .u64 (wv0 (1 : Int))]) (l := [.int .u64 0, .int .u64 0, .int .u64 0, .int .u64 0, .int .u64 0, .int .u64 0, .int .u64 0, .int .u64 0, .int .u64 (wv3 (1 : Int)), .int .u64 (wv2 (1 : Int)), .int .u64 (wv1 (1 : Int)), .int .u64 (wv0 (1 : Int))]) (T rfl rfl) (T rfl rfl) sz49 rfl rfl rfl n19.blk rfl ?_)
 intro w23 s24 H25
 have E26 := below_st E22 N20 s24
 refine lw_nil ?_
 refine rk_seq ?_
 refine rk_reg ?_
 refine lw_v (.bool false) (dv_assign C) ?_
 refine lw_v (.bool false) (dv_assign C) ?_
 refine lw_v (.bool true) (dv_assign C) ?_
 refine lw_nil ?_
 refine rk_seq ?_
 refine rk_reg ?_
 refine lw_v (.string (bOf ((L.take (fi 47 L)).take (fi 44 (L.take (fi 47 L)))))) (dv_move (T rfl rfl)) ?_
 refine lw_e (oe_callf (vs := [.string (bOf ((L.take (fi 47 L)).take (fi 44 (L.take (fi 47 L)))))]) co24 (ar1 (T rfl rfl)) (iReadWide_ok (okW_take (okW_take (hL) ((fi 47 L))) ((fi 44 (L.take (fi 47 L))))) (by first | omega | (simp; omega) | (have h1_ := fi_le 47 L; simp; omega))) ?_)
 rintro _ w27 ⟨rfl, e28⟩
 have E29 := below_ext E26 E26.size e28
 refine lw_v (.tuple #[.agg #[.int .u64 (wv3 (rdZ ((L.take (fi 47 L)).take (fi 44 (L.take (fi 47 L)))))), .int .u64 (wv2 (rdZ ((L.take (fi 47 L)).take (fi 44 (L.take (fi 47 L)))))), .int .u64 (wv1 (rdZ ((L.take (fi 47 L)).take (fi 44 (L.take (fi 47 L)))))), .int .u64 (wv0 (rdZ ((L.take (fi 47 L)).take (fi 44 (L.take (fi 47 L))))))], .bool (decide (rdS ((L.take (fi 47 L)).take (fi 44 (L.take (fi 47 L))))))]) (dv_move (T rfl rfl)) ?_
 refine lw_v (.agg #[.int .u64 (wv3 (rdZ ((L.take (fi 47 L)).take (fi 44 (L.take (fi 47 L)))))), .int .u64 (wv2 (rdZ ((L.take (fi 47 L)).take (fi 44 (L.take (fi 47 L)))))), .int .u64 (wv1 (rdZ ((L.take (fi 47 L)).take (fi 44 (L.take (fi 47 L)))))), .int .u64 (wv0 (rdZ ((L.take (fi 47 L)).take (fi 44 (L.take (fi 47 L))))))]) (dv_extract (vs := #[.agg #[.int .u64 (wv3 (rdZ ((L.take (fi 47 L)).take (fi 44 (L.take (fi 47 L)))))), .int .u64 (wv2 (rdZ ((L.take (fi 47 L)).take (fi 44 (L.take (fi 47 L)))))), .int .u64 (wv1 (rdZ ((L.take (fi 47 L)).take (fi 44 (L.take (fi 47 L)))))), .int .u64 (wv0 (rdZ ((L.take (fi 47 L)).take (fi 44 (L.take (fi 47 L))))))], .bool (decide (rdS ((L.take (fi 47 L)).take (fi 44 (L.take (fi 47 L))))))]) (T rfl rfl) rfl) ?_
 refine lw_v (.bool (decide (rdS ((L.take (fi 47 L)).take (fi 44 (L.take (fi 47 L))))))) (dv_extract (vs := #[.agg #[.int .u64 (wv3 (rdZ ((L.take (fi 47 L)).take (fi 44 (L.take (fi 47 L)))))), .int .u64 (wv2 (rdZ ((L.take (fi 47 L)).take (fi 44 (L.take (fi 47 L)))))), .int .u64 (wv1 (rdZ ((L.take (fi 47 L)).take (fi 44 (L.take (fi 47 L)))))), .int .u64 (wv0 (rdZ ((L.take (fi 47 L)).take (fi 44 (L.take (fi 47 L))))))], .bool (decide (rdS ((L.take (fi 47 L)).take (fi 44 (L.take (fi 47 L))))))]) (T rfl rfl) rfl) ?_
 refine lw_v (.pointer (some ⟨b17, 0, none⟩)) (dv_fieldAddr (a := ⟨b17, 0, none⟩) (a' := ⟨b17, 0, none⟩) fo49_0 (T rfl rfl) rfl) ?_
 have H30 := (e28.blk H25)
 refine lw_e (oe_store (v := .agg #[.int .u64 (wv3 (rdZ ((L.take (fi 47 L)).take (fi 44 (L.take (fi 47 L)))))), .int .u64 (wv2 (rdZ ((L.take (fi 47 L)).take (fi 44 (L.take (fi 47 L)))))), .int .u64 (wv1 (rdZ ((L.take (fi 47 L)).take (fi 44 (L.take (fi 47 L)))))), .int .u64 (wv0 (rdZ ((L.take (fi 47 L)).take (fi 44 (L.take (fi 47 L))))))]) (vs := [.int .u64 (wv3 (rdZ ((L.take (fi 47 L)).take (fi 44 (L.take (fi 47 L)))))), .int .u64 (wv2 (rdZ ((L.take (fi 47 L)).take (fi 44 (L.take (fi 47 L)))))), .int .u64 (wv1 (rdZ ((L.take (fi 47 L)).take (fi 44 (L.take (fi 47 L)))))), .int .u64 (wv0 (rdZ ((L.take (fi 47 L)).take (fi 44 (L.take (fi 47 L))))))]) (l := [.int .u64 (wv3 (rdZ ((L.take (fi 47 L)).take (fi 44 (L.take (fi 47 L)))))), .int .u64 (wv2 (rdZ ((L.take (fi 47 L)).take (fi 44 (L.take (fi 47 L)))))), .int .u64 (wv1 (rdZ ((L.take (fi 47 L)).take (fi 44 (L.take (fi 47 L)))))), .int .u64 (wv0 (rdZ ((L.take (fi 47 L)).take (fi 44 (L.take (fi 47 L)))))), .int .u64 0, .int .u64 0, .int .u64 0, .int .u64 0, .int .u64 (wv3 (1 : Int)), .int .u64 (wv2 (1 : Int)), .int .u64 (wv1 (1 : Int)), .int .u64 (wv0 (1 : Int))]) (T rfl rfl) (T rfl rfl) sz26 rfl rfl rfl H30 rfl ?_)
 intro w31 s32 H33
 have E34 := below_st E29 N20 s32
 refine lw_v (.bool (decide (rdS ((L.take (fi 47 L)).take (fi 44 (L.take (fi 47 L))))))) (dv_assign (T rfl rfl)) ?_
 refine lw_nil ?_
 refine rk_seq ?_
 refine rk_reg ?_
 refine lw_v (.string (bOf ((L.take (fi 47 L)).drop (fi 44 (L.take (fi 47 L)) + 1)))) (dv_move (T rfl rfl)) ?_
 refine lw_e (oe_callf (vs := [.string (bOf ((L.take (fi 47 L)).drop (fi 44 (L.take (fi 47 L)) + 1)))]) co24 (ar1 (T rfl rfl)) (iReadWide_ok (okW_drop (okW_take (hL) ((fi 47 L))) ((fi 44 (L.take (fi 47 L)) + 1))) (by first | omega | (simp; omega) | (have h1_ := fi_le 47 L; simp; omega))) ?_)
 rintro _ w35 ⟨rfl, e36⟩
 have E37 := below_ext E34 E34.size e36
 refine lw_v (.tuple #[.agg #[.int .u64 (wv3 (rdZ ((L.take (fi 47 L)).drop (fi 44 (L.take (fi 47 L)) + 1)))), .int .u64 (wv2 (rdZ ((L.take (fi 47 L)).drop (fi 44 (L.take (fi 47 L)) + 1)))), .int .u64 (wv1 (rdZ ((L.take (fi 47 L)).drop (fi 44 (L.take (fi 47 L)) + 1)))), .int .u64 (wv0 (rdZ ((L.take (fi 47 L)).drop (fi 44 (L.take (fi 47 L)) + 1))))], .bool (decide (rdS ((L.take (fi 47 L)).drop (fi 44 (L.take (fi 47 L)) + 1))))]) (dv_move (T rfl rfl)) ?_
 refine lw_v (.agg #[.int .u64 (wv3 (rdZ ((L.take (fi 47 L)).drop (fi 44 (L.take (fi 47 L)) + 1)))), .int .u64 (wv2 (rdZ ((L.take (fi 47 L)).drop (fi 44 (L.take (fi 47 L)) + 1)))), .int .u64 (wv1 (rdZ ((L.take (fi 47 L)).drop (fi 44 (L.take (fi 47 L)) + 1)))), .int .u64 (wv0 (rdZ ((L.take (fi 47 L)).drop (fi 44 (L.take (fi 47 L)) + 1))))]) (dv_extract (vs := #[.agg #[.int .u64 (wv3 (rdZ ((L.take (fi 47 L)).drop (fi 44 (L.take (fi 47 L)) + 1)))), .int .u64 (wv2 (rdZ ((L.take (fi 47 L)).drop (fi 44 (L.take (fi 47 L)) + 1)))), .int .u64 (wv1 (rdZ ((L.take (fi 47 L)).drop (fi 44 (L.take (fi 47 L)) + 1)))), .int .u64 (wv0 (rdZ ((L.take (fi 47 L)).drop (fi 44 (L.take (fi 47 L)) + 1))))], .bool (decide (rdS ((L.take (fi 47 L)).drop (fi 44 (L.take (fi 47 L)) + 1))))]) (T rfl rfl) rfl) ?_
 refine lw_v (.bool (decide (rdS ((L.take (fi 47 L)).drop (fi 44 (L.take (fi 47 L)) + 1))))) (dv_extract (vs := #[.agg #[.int .u64 (wv3 (rdZ ((L.take (fi 47 L)).drop (fi 44 (L.take (fi 47 L)) + 1)))), .int .u64 (wv2 (rdZ ((L.take (fi 47 L)).drop (fi 44 (L.take (fi 47 L)) + 1)))), .int .u64 (wv1 (rdZ ((L.take (fi 47 L)).drop (fi 44 (L.take (fi 47 L)) + 1)))), .int .u64 (wv0 (rdZ ((L.take (fi 47 L)).drop (fi 44 (L.take (fi 47 L)) + 1))))], .bool (decide (rdS ((L.take (fi 47 L)).drop (fi 44 (L.take (fi 47 L)) + 1))))]) (T rfl rfl) rfl) ?_
 refine lw_v (.pointer (some ⟨b17, 4, none⟩)) (dv_fieldAddr (a := ⟨b17, 0, none⟩) (a' := ⟨b17, 4, none⟩) fo49_1 (T rfl rfl) rfl) ?_
 have H38 := (e36.blk H33)
 refine lw_e (oe_store (v := .agg #[.int .u64 (wv3 (rdZ ((L.take (fi 47 L)).drop (fi 44 (L.take (fi 47 L)) + 1)))), .int .u64 (wv2 (rdZ ((L.take (fi 47 L)).drop (fi 44 (L.take (fi 47 L)) + 1)))), .int .u64 (wv1 (rdZ ((L.take (fi 47 L)).drop (fi 44 (L.take (fi 47 L)) + 1)))), .int .u64 (wv0 (rdZ ((L.take (fi 47 L)).drop (fi 44 (L.take (fi 47 L)) + 1))))]) (vs := [.int .u64 (wv3 (rdZ ((L.take (fi 47 L)).drop (fi 44 (L.take (fi 47 L)) + 1)))), .int .u64 (wv2 (rdZ ((L.take (fi 47 L)).drop (fi 44 (L.take (fi 47 L)) + 1)))), .int .u64 (wv1 (rdZ ((L.take (fi 47 L)).drop (fi 44 (L.take (fi 47 L)) + 1)))), .int .u64 (wv0 (rdZ ((L.take (fi 47 L)).drop (fi 44 (L.take (fi 47 L)) + 1))))]) (l := [.int .u64 (wv3 (rdZ ((L.take (fi 47 L)).take (fi 44 (L.take (fi 47 L)))))), .int .u64 (wv2 (rdZ ((L.take (fi 47 L)).take (fi 44 (L.take (fi 47 L)))))), .int .u64 (wv1 (rdZ ((L.take (fi 47 L)).take (fi 44 (L.take (fi 47 L)))))), .int .u64 (wv0 (rdZ ((L.take (fi 47 L)).take (fi 44 (L.take (fi 47 L)))))), .int .u64 (wv3 (rdZ ((L.take (fi 47 L)).drop (fi 44 (L.take (fi 47 L)) + 1)))), .int .u64 (wv2 (rdZ ((L.take (fi 47 L)).drop (fi 44 (L.take (fi 47 L)) + 1)))), .int .u64 (wv1 (rdZ ((L.take (fi 47 L)).drop (fi 44 (L.take (fi 47 L)) + 1)))), .int .u64 (wv0 (rdZ ((L.take (fi 47 L)).drop (fi 44 (L.take (fi 47 L)) + 1)))), .int .u64 (wv3 (1 : Int)), .int .u64 (wv2 (1 : Int)), .int .u64 (wv1 (1 : Int)), .int .u64 (wv0 (1 : Int))]) (T rfl rfl) (T rfl rfl) sz26 rfl rfl rfl H38 rfl ?_)
 intro w39 s40 H41
 have E42 := below_st E37 N20 s40
 refine lw_v (.bool (decide (rdS ((L.take (fi 47 L)).drop (fi 44 (L.take (fi 47 L)) + 1))))) (dv_assign (T rfl rfl)) ?_
 refine lw_nil ?_
 refine rk_seq ?_
 refine rk_seq ?_
 refine rk_reg ?_
 refine lw_v (.bool (decide (fi 47 L < L.length))) (dv_move (T rfl rfl)) ?_
 refine lw_nil ?_
 by_cases hb43 : fi 47 L < L.length
 · refine rk_ct (T rfl (congrArg Value.bool (decide_eq_true hb43))) ?_
   refine rk_reg ?_
   refine lw_v (.string (bOf (L.drop (fi 47 L + 1)))) (dv_move (T rfl rfl)) ?_
   refine lw_e (oe_callf (vs := [.string (bOf (L.drop (fi 47 L + 1)))]) co24 (ar1 (T rfl rfl)) (iReadWide_ok (okW_drop (hL) ((fi 47 L + 1))) (by first | omega | (simp; omega) | (have h1_ := fi_le 47 L; simp; omega))) ?_)
   rintro _ w44 ⟨rfl, e45⟩
   have E46 := below_ext E42 E42.size e45
   refine lw_v (.tuple #[.agg #[.int .u64 (wv3 (rdZ (L.drop (fi 47 L + 1)))), .int .u64 (wv2 (rdZ (L.drop (fi 47 L + 1)))), .int .u64 (wv1 (rdZ (L.drop (fi 47 L + 1)))), .int .u64 (wv0 (rdZ (L.drop (fi 47 L + 1))))], .bool (decide (rdS (L.drop (fi 47 L + 1))))]) (dv_move (T rfl rfl)) ?_
   refine lw_v (.agg #[.int .u64 (wv3 (rdZ (L.drop (fi 47 L + 1)))), .int .u64 (wv2 (rdZ (L.drop (fi 47 L + 1)))), .int .u64 (wv1 (rdZ (L.drop (fi 47 L + 1)))), .int .u64 (wv0 (rdZ (L.drop (fi 47 L + 1))))]) (dv_extract (vs := #[.agg #[.int .u64 (wv3 (rdZ (L.drop (fi 47 L + 1)))), .int .u64 (wv2 (rdZ (L.drop (fi 47 L + 1)))), .int .u64 (wv1 (rdZ (L.drop (fi 47 L + 1)))), .int .u64 (wv0 (rdZ (L.drop (fi 47 L + 1))))], .bool (decide (rdS (L.drop (fi 47 L + 1))))]) (T rfl rfl) rfl) ?_
   refine lw_v (.bool (decide (rdS (L.drop (fi 47 L + 1))))) (dv_extract (vs := #[.agg #[.int .u64 (wv3 (rdZ (L.drop (fi 47 L + 1)))), .int .u64 (wv2 (rdZ (L.drop (fi 47 L + 1)))), .int .u64 (wv1 (rdZ (L.drop (fi 47 L + 1)))), .int .u64 (wv0 (rdZ (L.drop (fi 47 L + 1))))], .bool (decide (rdS (L.drop (fi 47 L + 1))))]) (T rfl rfl) rfl) ?_
   refine lw_v (.pointer (some ⟨b17, 8, none⟩)) (dv_fieldAddr (a := ⟨b17, 0, none⟩) (a' := ⟨b17, 8, none⟩) fo49_2 (T rfl rfl) rfl) ?_
   have H47 := (e45.blk H41)
   refine lw_e (oe_store (v := .agg #[.int .u64 (wv3 (rdZ (L.drop (fi 47 L + 1)))), .int .u64 (wv2 (rdZ (L.drop (fi 47 L + 1)))), .int .u64 (wv1 (rdZ (L.drop (fi 47 L + 1)))), .int .u64 (wv0 (rdZ (L.drop (fi 47 L + 1))))]) (vs := [.int .u64 (wv3 (rdZ (L.drop (fi 47 L + 1)))), .int .u64 (wv2 (rdZ (L.drop (fi 47 L + 1)))), .int .u64 (wv1 (rdZ (L.drop (fi 47 L + 1)))), .int .u64 (wv0 (rdZ (L.drop (fi 47 L + 1))))]) (l := [.int .u64 (wv3 (rdZ ((L.take (fi 47 L)).take (fi 44 (L.take (fi 47 L)))))), .int .u64 (wv2 (rdZ ((L.take (fi 47 L)).take (fi 44 (L.take (fi 47 L)))))), .int .u64 (wv1 (rdZ ((L.take (fi 47 L)).take (fi 44 (L.take (fi 47 L)))))), .int .u64 (wv0 (rdZ ((L.take (fi 47 L)).take (fi 44 (L.take (fi 47 L)))))), .int .u64 (wv3 (rdZ ((L.take (fi 47 L)).drop (fi 44 (L.take (fi 47 L)) + 1)))), .int .u64 (wv2 (rdZ ((L.take (fi 47 L)).drop (fi 44 (L.take (fi 47 L)) + 1)))), .int .u64 (wv1 (rdZ ((L.take (fi 47 L)).drop (fi 44 (L.take (fi 47 L)) + 1)))), .int .u64 (wv0 (rdZ ((L.take (fi 47 L)).drop (fi 44 (L.take (fi 47 L)) + 1)))), .int .u64 (wv3 (rdZ (L.drop (fi 47 L + 1)))), .int .u64 (wv2 (rdZ (L.drop (fi 47 L + 1)))), .int .u64 (wv1 (rdZ (L.drop (fi 47 L + 1)))), .int .u64 (wv0 (rdZ (L.drop (fi 47 L + 1))))]) (T rfl rfl) (T rfl rfl) sz26 rfl rfl rfl H47 rfl ?_)
   intro w48 s49 H50
   have E51 := below_st E46 N20 s49
   refine lw_v (.bool (decide (rdS (L.drop (fi 47 L + 1))))) (dv_assign (T rfl rfl)) ?_
   refine lw_nil ?_
   refine rk_seq ?_
   refine rk_seq ?_
   refine rk_reg ?_
   refine lw_v (.bool (decide (rdS ((L.take (fi 47 L)).take (fi 44 (L.take (fi 47 L))))))) (dv_move (T rfl rfl)) ?_
   refine lw_v (.bool (decide (¬ (rdS ((L.take (fi 47 L)).take (fi 44 (L.take (fi 47 L)))))))) (dv_notd (p := rdS ((L.take (fi 47 L)).take (fi 44 (L.take (fi 47 L))))) (T rfl rfl)) ?_
   refine lw_v (.bool (decide (¬ (rdS ((L.take (fi 47 L)).take (fi 44 (L.take (fi 47 L)))))))) (dv_move (T rfl rfl)) ?_
   by_cases hb52 : rdS ((L.take (fi 47 L)).take (fi 44 (L.take (fi 47 L))))
   · refine lw_vy (.bool (decide (rdS ((L.take (fi 47 L)).drop (fi 44 (L.take (fi 47 L)) + 1))))) (d := 49) rfl rfl (congrArg Value.bool (decide_eq_false (not_not_intro hb52))) (dv_move (T rfl rfl)) ?_
     refine lw_vy (.bool (decide (¬ (rdS ((L.take (fi 47 L)).drop (fi 44 (L.take (fi 47 L)) + 1)))))) (d := 49) rfl rfl (congrArg Value.bool (decide_eq_false (not_not_intro hb52))) (dv_notd (p := rdS ((L.take (fi 47 L)).drop (fi 44 (L.take (fi 47 L)) + 1))) (T rfl rfl)) ?_
     refine lw_v (.bool (decide (¬ (rdS ((L.take (fi 47 L)).drop (fi 44 (L.take (fi 47 L)) + 1)))))) (dv_pick_f (T rfl (congrArg Value.bool (decide_eq_false (not_not_intro hb52)))) (T rfl rfl)) ?_
     refine lw_v (.bool (decide (¬ (rdS ((L.take (fi 47 L)).drop (fi 44 (L.take (fi 47 L)) + 1)))))) (dv_move (T rfl rfl)) ?_
     by_cases hb53 : rdS ((L.take (fi 47 L)).drop (fi 44 (L.take (fi 47 L)) + 1))
     · refine lw_vy (.bool (decide (rdS (L.drop (fi 47 L + 1))))) (d := 53) rfl rfl (congrArg Value.bool (decide_eq_false (not_not_intro hb53))) (dv_move (T rfl rfl)) ?_
       refine lw_vy (.bool (decide (¬ (rdS (L.drop (fi 47 L + 1)))))) (d := 53) rfl rfl (congrArg Value.bool (decide_eq_false (not_not_intro hb53))) (dv_notd (p := rdS (L.drop (fi 47 L + 1))) (T rfl rfl)) ?_
       refine lw_v (.bool (decide (¬ (rdS (L.drop (fi 47 L + 1)))))) (dv_pick_f (T rfl (congrArg Value.bool (decide_eq_false (not_not_intro hb53)))) (T rfl rfl)) ?_
       refine lw_v (.bool (decide (¬ (rdS (L.drop (fi 47 L + 1)))))) (dv_move (T rfl rfl)) ?_
       by_cases hb54 : rdS (L.drop (fi 47 L + 1))
       · refine lw_vy (.agg #[.int .u64 (wv3 (rdZ ((L.take (fi 47 L)).take (fi 44 (L.take (fi 47 L)))))), .int .u64 (wv2 (rdZ ((L.take (fi 47 L)).take (fi 44 (L.take (fi 47 L)))))), .int .u64 (wv1 (rdZ ((L.take (fi 47 L)).take (fi 44 (L.take (fi 47 L)))))), .int .u64 (wv0 (rdZ ((L.take (fi 47 L)).take (fi 44 (L.take (fi 47 L)))))), .int .u64 (wv3 (rdZ ((L.take (fi 47 L)).drop (fi 44 (L.take (fi 47 L)) + 1)))), .int .u64 (wv2 (rdZ ((L.take (fi 47 L)).drop (fi 44 (L.take (fi 47 L)) + 1)))), .int .u64 (wv1 (rdZ ((L.take (fi 47 L)).drop (fi 44 (L.take (fi 47 L)) + 1)))), .int .u64 (wv0 (rdZ ((L.take (fi 47 L)).drop (fi 44 (L.take (fi 47 L)) + 1)))), .int .u64 (wv3 (rdZ (L.drop (fi 47 L + 1)))), .int .u64 (wv2 (rdZ (L.drop (fi 47 L + 1)))), .int .u64 (wv1 (rdZ (L.drop (fi 47 L + 1)))), .int .u64 (wv0 (rdZ (L.drop (fi 47 L + 1))))]) (d := 57) rfl rfl (congrArg Value.bool (decide_eq_false (not_not_intro hb54))) (dv_loads (l := [.int .u64 (wv3 (rdZ ((L.take (fi 47 L)).take (fi 44 (L.take (fi 47 L)))))), .int .u64 (wv2 (rdZ ((L.take (fi 47 L)).take (fi 44 (L.take (fi 47 L)))))), .int .u64 (wv1 (rdZ ((L.take (fi 47 L)).take (fi 44 (L.take (fi 47 L)))))), .int .u64 (wv0 (rdZ ((L.take (fi 47 L)).take (fi 44 (L.take (fi 47 L)))))), .int .u64 (wv3 (rdZ ((L.take (fi 47 L)).drop (fi 44 (L.take (fi 47 L)) + 1)))), .int .u64 (wv2 (rdZ ((L.take (fi 47 L)).drop (fi 44 (L.take (fi 47 L)) + 1)))), .int .u64 (wv1 (rdZ ((L.take (fi 47 L)).drop (fi 44 (L.take (fi 47 L)) + 1)))), .int .u64 (wv0 (rdZ ((L.take (fi 47 L)).drop (fi 44 (L.take (fi 47 L)) + 1)))), .int .u64 (wv3 (rdZ (L.drop (fi 47 L + 1)))), .int .u64 (wv2 (rdZ (L.drop (fi 47 L + 1)))), .int .u64 (wv1 (rdZ (L.drop (fi 47 L + 1)))), .int .u64 (wv0 (rdZ (L.drop (fi 47 L + 1))))]) agt49 sz49 (T rfl rfl) H50 rfl) ?_
         refine lw_ey (d := 57) rfl rfl (congrArg Value.bool (decide_eq_false (not_not_intro hb54))) (oe_callf (vs := [.agg #[.int .u64 (wv3 (rdZ ((L.take (fi 47 L)).take (fi 44 (L.take (fi 47 L)))))), .int .u64 (wv2 (rdZ ((L.take (fi 47 L)).take (fi 44 (L.take (fi 47 L)))))), .int .u64 (wv1 (rdZ ((L.take (fi 47 L)).take (fi 44 (L.take (fi 47 L)))))), .int .u64 (wv0 (rdZ ((L.take (fi 47 L)).take (fi 44 (L.take (fi 47 L)))))), .int .u64 (wv3 (rdZ ((L.take (fi 47 L)).drop (fi 44 (L.take (fi 47 L)) + 1)))), .int .u64 (wv2 (rdZ ((L.take (fi 47 L)).drop (fi 44 (L.take (fi 47 L)) + 1)))), .int .u64 (wv1 (rdZ ((L.take (fi 47 L)).drop (fi 44 (L.take (fi 47 L)) + 1)))), .int .u64 (wv0 (rdZ ((L.take (fi 47 L)).drop (fi 44 (L.take (fi 47 L)) + 1)))), .int .u64 (wv3 (rdZ (L.drop (fi 47 L + 1)))), .int .u64 (wv2 (rdZ (L.drop (fi 47 L + 1)))), .int .u64 (wv1 (rdZ (L.drop (fi 47 L + 1)))), .int .u64 (wv0 (rdZ (L.drop (fi 47 L + 1))))]]) co74 (ar1 (T rfl rfl)) (iPointText_ok (x := rdZ ((L.take (fi 47 L)).take (fi 44 (L.take (fi 47 L))))) (y := rdZ ((L.take (fi 47 L)).drop (fi 44 (L.take (fi 47 L)) + 1))) (u := rdZ (L.drop (fi 47 L + 1))) (rdZ_f _) (rdZ_f _) (rdZ_f _) ) ?_)
         rintro _ w55 ⟨rfl, e56⟩
         have E57 := below_ext E51 E51.size e56
         refine lw_vy (.string (bOf L)) (d := 57) rfl rfl (congrArg Value.bool (decide_eq_false (not_not_intro hb54))) (dv_move (T rfl rfl)) ?_
         refine lw_vy (.bool (decide ((((pTxt (rdZ ((L.take (fi 47 L)).take (fi 44 (L.take (fi 47 L))))) (rdZ ((L.take (fi 47 L)).drop (fi 44 (L.take (fi 47 L)) + 1))) (rdZ (L.drop (fi 47 L + 1))))) : List Int) ≠ L))) (d := 57) rfl rfl (congrArg Value.bool (decide_eq_false (not_not_intro hb54))) (dv_neS (L := (pTxt (rdZ ((L.take (fi 47 L)).take (fi 44 (L.take (fi 47 L))))) (rdZ ((L.take (fi 47 L)).drop (fi 44 (L.take (fi 47 L)) + 1))) (rdZ (L.drop (fi 47 L + 1))))) (M := L) (T rfl rfl) (T rfl rfl) ((okC_pTxt _ _ _)) ((hL))) ?_
         refine lw_v (.bool (decide ((((pTxt (rdZ ((L.take (fi 47 L)).take (fi 44 (L.take (fi 47 L))))) (rdZ ((L.take (fi 47 L)).drop (fi 44 (L.take (fi 47 L)) + 1))) (rdZ (L.drop (fi 47 L + 1))))) : List Int) ≠ L))) (dv_pick_f (T rfl (congrArg Value.bool (decide_eq_false (not_not_intro hb54)))) (T rfl rfl)) ?_
         refine lw_nil ?_
         by_cases hb58 : (((pTxt (rdZ ((L.take (fi 47 L)).take (fi 44 (L.take (fi 47 L))))) (rdZ ((L.take (fi 47 L)).drop (fi 44 (L.take (fi 47 L)) + 1))) (rdZ (L.drop (fi 47 L + 1))))) : List Int) ≠ L
         · refine rk_ct (T rfl (congrArg Value.bool (decide_eq_true hb58))) ?_
           refine rk_seq ?_
           refine rk_reg ?_
           refine lw_v (.agg #[.int .u64 0, .int .u64 0, .int .u64 0, .int .u64 0, .int .u64 0, .int .u64 0, .int .u64 0, .int .u64 0, .int .u64 0, .int .u64 0, .int .u64 0, .int .u64 0]) (dv_build (pv := []) (l := [.int .u64 0, .int .u64 0, .int .u64 0, .int .u64 0, .int .u64 0, .int .u64 0, .int .u64 0, .int .u64 0, .int .u64 0, .int .u64 0, .int .u64 0, .int .u64 0]) zc49 pl49 trivial rfl) ?_
           have H59 := (e56.blk (s49.blk (e45.blk (s40.blk (e36.blk (s32.blk (e28.blk (s24.blk (n19.ext.blk H21) (by omega))) (by omega))) (by omega))) (by omega)))
           refine lw_e (oe_store (v := .agg #[.int .u64 0, .int .u64 0, .int .u64 0, .int .u64 0, .int .u64 0, .int .u64 0, .int .u64 0, .int .u64 0, .int .u64 0, .int .u64 0, .int .u64 0, .int .u64 0]) (vs := [.int .u64 0, .int .u64 0, .int .u64 0, .int .u64 0, .int .u64 0, .int .u64 0, .int .u64 0, .int .u64 0, .int .u64 0, .int .u64 0, .int .u64 0, .int .u64 0]) (l := [.int .u64 0, .int .u64 0, .int .u64 0, .int .u64 0, .int .u64 0, .int .u64 0, .int .u64 0, .int .u64 0, .int .u64 0, .int .u64 0, .int .u64 0, .int .u64 0]) (T rfl rfl) (T rfl rfl) sz49 rfl rfl rfl H59 rfl ?_)
           intro w60 s61 H62
           have E63 := below_st E57 N4 s61
           refine lw_v (.bool false) (dv_assign C) ?_
           refine lw_nil ?_
           refine rk_ret Try.func41 (v := .tuple #[.agg #[.int .u64 0, .int .u64 0, .int .u64 0, .int .u64 0, .int .u64 0, .int .u64 0, .int .u64 0, .int .u64 0, .int .u64 0, .int .u64 0, .int .u64 0, .int .u64 0], .bool false]) (res2 Try.results41 (rv_cells (l := [.int .u64 0, .int .u64 0, .int .u64 0, .int .u64 0, .int .u64 0, .int .u64 0, .int .u64 0, .int .u64 0, .int .u64 0, .int .u64 0, .int .u64 0, .int .u64 0]) agt49 sz49 rfl rfl H62 rfl) (rv_tmp rfl rfl)) ⟨_, rfl, ?_⟩
           have hS : ¬ rpS L := fun hh => hb58 ((rp_i2 hh).2.2.2.1 hb43)
           exact ⟨(tu2 (ag12 (vi (wf3 hS)) (vi (wf2 hS)) (vi (wf1 hS)) (vi (wf0 hS)) (vi (wf3 hS)) (vi (wf2 hS)) (vi (wf1 hS)) (vi (wf0 hS)) (vi (wf3 hS)) (vi (wf2 hS)) (vi (wf1 hS)) (vi (wf0 hS))) (vf hS)), E63⟩
         · refine rk_cf (T rfl (congrArg Value.bool (decide_eq_false hb58))) ?_
           refine rk_skip ?_
           refine rk_seq ?_
           refine rk_reg ?_
           have H64 := (e56.blk H50)
           refine lw_v (.agg #[.int .u64 (wv3 (rdZ ((L.take (fi 47 L)).take (fi 44 (L.take (fi 47 L)))))), .int .u64 (wv2 (rdZ ((L.take (fi 47 L)).take (fi 44 (L.take (fi 47 L)))))), .int .u64 (wv1 (rdZ ((L.take (fi 47 L)).take (fi 44 (L.take (fi 47 L)))))), .int .u64 (wv0 (rdZ ((L.take (fi 47 L)).take (fi 44 (L.take (fi 47 L)))))), .int .u64 (wv3 (rdZ ((L.take (fi 47 L)).drop (fi 44 (L.take (fi 47 L)) + 1)))), .int .u64 (wv2 (rdZ ((L.take (fi 47 L)).drop (fi 44 (L.take (fi 47 L)) + 1)))), .int .u64 (wv1 (rdZ ((L.take (fi 47 L)).drop (fi 44 (L.take (fi 47 L)) + 1)))), .int .u64 (wv0 (rdZ ((L.take (fi 47 L)).drop (fi 44 (L.take (fi 47 L)) + 1)))), .int .u64 (wv3 (rdZ (L.drop (fi 47 L + 1)))), .int .u64 (wv2 (rdZ (L.drop (fi 47 L + 1)))), .int .u64 (wv1 (rdZ (L.drop (fi 47 L + 1)))), .int .u64 (wv0 (rdZ (L.drop (fi 47 L + 1))))]) (dv_loads (l := [.int .u64 (wv3 (rdZ ((L.take (fi 47 L)).take (fi 44 (L.take (fi 47 L)))))), .int .u64 (wv2 (rdZ ((L.take (fi 47 L)).take (fi 44 (L.take (fi 47 L)))))), .int .u64 (wv1 (rdZ ((L.take (fi 47 L)).take (fi 44 (L.take (fi 47 L)))))), .int .u64 (wv0 (rdZ ((L.take (fi 47 L)).take (fi 44 (L.take (fi 47 L)))))), .int .u64 (wv3 (rdZ ((L.take (fi 47 L)).drop (fi 44 (L.take (fi 47 L)) + 1)))), .int .u64 (wv2 (rdZ ((L.take (fi 47 L)).drop (fi 44 (L.take (fi 47 L)) + 1)))), .int .u64 (wv1 (rdZ ((L.take (fi 47 L)).drop (fi 44 (L.take (fi 47 L)) + 1)))), .int .u64 (wv0 (rdZ ((L.take (fi 47 L)).drop (fi 44 (L.take (fi 47 L)) + 1)))), .int .u64 (wv3 (rdZ (L.drop (fi 47 L + 1)))), .int .u64 (wv2 (rdZ (L.drop (fi 47 L + 1)))), .int .u64 (wv1 (rdZ (L.drop (fi 47 L + 1)))), .int .u64 (wv0 (rdZ (L.drop (fi 47 L + 1))))]) agt49 sz49 (T rfl rfl) H64 rfl) ?_
           have H65 := (e56.blk (s49.blk (e45.blk (s40.blk (e36.blk (s32.blk (e28.blk (s24.blk (n19.ext.blk H21) (by omega))) (by omega))) (by omega))) (by omega)))
           refine lw_e (oe_store (v := .agg #[.int .u64 (wv3 (rdZ ((L.take (fi 47 L)).take (fi 44 (L.take (fi 47 L)))))), .int .u64 (wv2 (rdZ ((L.take (fi 47 L)).take (fi 44 (L.take (fi 47 L)))))), .int .u64 (wv1 (rdZ ((L.take (fi 47 L)).take (fi 44 (L.take (fi 47 L)))))), .int .u64 (wv0 (rdZ ((L.take (fi 47 L)).take (fi 44 (L.take (fi 47 L)))))), .int .u64 (wv3 (rdZ ((L.take (fi 47 L)).drop (fi 44 (L.take (fi 47 L)) + 1)))), .int .u64 (wv2 (rdZ ((L.take (fi 47 L)).drop (fi 44 (L.take (fi 47 L)) + 1)))), .int .u64 (wv1 (rdZ ((L.take (fi 47 L)).drop (fi 44 (L.take (fi 47 L)) + 1)))), .int .u64 (wv0 (rdZ ((L.take (fi 47 L)).drop (fi 44 (L.take (fi 47 L)) + 1)))), .int .u64 (wv3 (rdZ (L.drop (fi 47 L + 1)))), .int .u64 (wv2 (rdZ (L.drop (fi 47 L + 1)))), .int .u64 (wv1 (rdZ (L.drop (fi 47 L + 1)))), .int .u64 (wv0 (rdZ (L.drop (fi 47 L + 1))))]) (vs := [.int .u64 (wv3 (rdZ ((L.take (fi 47 L)).take (fi 44 (L.take (fi 47 L)))))), .int .u64 (wv2 (rdZ ((L.take (fi 47 L)).take (fi 44 (L.take (fi 47 L)))))), .int .u64 (wv1 (rdZ ((L.take (fi 47 L)).take (fi 44 (L.take (fi 47 L)))))), .int .u64 (wv0 (rdZ ((L.take (fi 47 L)).take (fi 44 (L.take (fi 47 L)))))), .int .u64 (wv3 (rdZ ((L.take (fi 47 L)).drop (fi 44 (L.take (fi 47 L)) + 1)))), .int .u64 (wv2 (rdZ ((L.take (fi 47 L)).drop (fi 44 (L.take (fi 47 L)) + 1)))), .int .u64 (wv1 (rdZ ((L.take (fi 47 L)).drop (fi 44 (L.take (fi 47 L)) + 1)))), .int .u64 (wv0 (rdZ ((L.take (fi 47 L)).drop (fi 44 (L.take (fi 47 L)) + 1)))), .int .u64 (wv3 (rdZ (L.drop (fi 47 L + 1)))), .int .u64 (wv2 (rdZ (L.drop (fi 47 L + 1)))), .int .u64 (wv1 (rdZ (L.drop (fi 47 L + 1)))), .int .u64 (wv0 (rdZ (L.drop (fi 47 L + 1))))]) (l := [.int .u64 (wv3 (rdZ ((L.take (fi 47 L)).take (fi 44 (L.take (fi 47 L)))))), .int .u64 (wv2 (rdZ ((L.take (fi 47 L)).take (fi 44 (L.take (fi 47 L)))))), .int .u64 (wv1 (rdZ ((L.take (fi 47 L)).take (fi 44 (L.take (fi 47 L)))))), .int .u64 (wv0 (rdZ ((L.take (fi 47 L)).take (fi 44 (L.take (fi 47 L)))))), .int .u64 (wv3 (rdZ ((L.take (fi 47 L)).drop (fi 44 (L.take (fi 47 L)) + 1)))), .int .u64 (wv2 (rdZ ((L.take (fi 47 L)).drop (fi 44 (L.take (fi 47 L)) + 1)))), .int .u64 (wv1 (rdZ ((L.take (fi 47 L)).drop (fi 44 (L.take (fi 47 L)) + 1)))), .int .u64 (wv0 (rdZ ((L.take (fi 47 L)).drop (fi 44 (L.take (fi 47 L)) + 1)))), .int .u64 (wv3 (rdZ (L.drop (fi 47 L + 1)))), .int .u64 (wv2 (rdZ (L.drop (fi 47 L + 1)))), .int .u64 (wv1 (rdZ (L.drop (fi 47 L + 1)))), .int .u64 (wv0 (rdZ (L.drop (fi 47 L + 1))))]) (T rfl rfl) (T rfl rfl) sz49 rfl rfl rfl H65 rfl ?_)
           intro w66 s67 H68
           have E69 := below_st E57 N4 s67
           refine lw_v (.bool true) (dv_assign C) ?_
           refine lw_nil ?_
           refine rk_ret Try.func41 (v := .tuple #[.agg #[.int .u64 (wv3 (rdZ ((L.take (fi 47 L)).take (fi 44 (L.take (fi 47 L)))))), .int .u64 (wv2 (rdZ ((L.take (fi 47 L)).take (fi 44 (L.take (fi 47 L)))))), .int .u64 (wv1 (rdZ ((L.take (fi 47 L)).take (fi 44 (L.take (fi 47 L)))))), .int .u64 (wv0 (rdZ ((L.take (fi 47 L)).take (fi 44 (L.take (fi 47 L)))))), .int .u64 (wv3 (rdZ ((L.take (fi 47 L)).drop (fi 44 (L.take (fi 47 L)) + 1)))), .int .u64 (wv2 (rdZ ((L.take (fi 47 L)).drop (fi 44 (L.take (fi 47 L)) + 1)))), .int .u64 (wv1 (rdZ ((L.take (fi 47 L)).drop (fi 44 (L.take (fi 47 L)) + 1)))), .int .u64 (wv0 (rdZ ((L.take (fi 47 L)).drop (fi 44 (L.take (fi 47 L)) + 1)))), .int .u64 (wv3 (rdZ (L.drop (fi 47 L + 1)))), .int .u64 (wv2 (rdZ (L.drop (fi 47 L + 1)))), .int .u64 (wv1 (rdZ (L.drop (fi 47 L + 1)))), .int .u64 (wv0 (rdZ (L.drop (fi 47 L + 1))))], .bool true]) (res2 Try.results41 (rv_cells (l := [.int .u64 (wv3 (rdZ ((L.take (fi 47 L)).take (fi 44 (L.take (fi 47 L)))))), .int .u64 (wv2 (rdZ ((L.take (fi 47 L)).take (fi 44 (L.take (fi 47 L)))))), .int .u64 (wv1 (rdZ ((L.take (fi 47 L)).take (fi 44 (L.take (fi 47 L)))))), .int .u64 (wv0 (rdZ ((L.take (fi 47 L)).take (fi 44 (L.take (fi 47 L)))))), .int .u64 (wv3 (rdZ ((L.take (fi 47 L)).drop (fi 44 (L.take (fi 47 L)) + 1)))), .int .u64 (wv2 (rdZ ((L.take (fi 47 L)).drop (fi 44 (L.take (fi 47 L)) + 1)))), .int .u64 (wv1 (rdZ ((L.take (fi 47 L)).drop (fi 44 (L.take (fi 47 L)) + 1)))), .int .u64 (wv0 (rdZ ((L.take (fi 47 L)).drop (fi 44 (L.take (fi 47 L)) + 1)))), .int .u64 (wv3 (rdZ (L.drop (fi 47 L + 1)))), .int .u64 (wv2 (rdZ (L.drop (fi 47 L + 1)))), .int .u64 (wv1 (rdZ (L.drop (fi 47 L + 1)))), .int .u64 (wv0 (rdZ (L.drop (fi 47 L + 1))))]) agt49 sz49 rfl rfl H68 rfl) (rv_tmp rfl rfl)) ⟨_, rfl, ?_⟩
           have hR := rp_i1 (ne_i hb52 (by simp; omega)) (Decidable.not_not.1 hb58)
           exact ⟨(tu2 (ag12 (vi (congrArg wv3 ((pkz_t hR.1).trans hR.2.1).symm)) (vi (congrArg wv2 ((pkz_t hR.1).trans hR.2.1).symm)) (vi (congrArg wv1 ((pkz_t hR.1).trans hR.2.1).symm)) (vi (congrArg wv0 ((pkz_t hR.1).trans hR.2.1).symm)) (vi (congrArg wv3 ((pkz_t hR.1).trans hR.2.2.1).symm)) (vi (congrArg wv2 ((pkz_t hR.1).trans hR.2.2.1).symm)) (vi (congrArg wv1 ((pkz_t hR.1).trans hR.2.2.1).symm)) (vi (congrArg wv0 ((pkz_t hR.1).trans hR.2.2.1).symm)) (vi (congrArg wv3 ((pkz_t hR.1).trans hR.2.2.2).symm)) (vi (congrArg wv2 ((pkz_t hR.1).trans hR.2.2.2).symm)) (vi (congrArg wv1 ((pkz_t hR.1).trans hR.2.2.2).symm)) (vi (congrArg wv0 ((pkz_t hR.1).trans hR.2.2.2).symm))) (vt hR.1)), E69⟩
       · refine lw_no (d := 57) rfl rfl (congrArg Value.bool (decide_eq_true hb54)) ?_
         refine lw_no (d := 57) rfl rfl (congrArg Value.bool (decide_eq_true hb54)) ?_
         refine lw_no (d := 57) rfl rfl (congrArg Value.bool (decide_eq_true hb54)) ?_
         refine lw_no (d := 57) rfl rfl (congrArg Value.bool (decide_eq_true hb54)) ?_
         refine lw_v (.bool true) (dv_pick_t (T rfl (congrArg Value.bool (decide_eq_true hb54))) C) ?_
         refine lw_nil ?_
         refine rk_ct (T rfl rfl) ?_
         refine rk_seq ?_
         refine rk_reg ?_
         refine lw_v (.agg #[.int .u64 0, .int .u64 0, .int .u64 0, .int .u64 0, .int .u64 0, .int .u64 0, .int .u64 0, .int .u64 0, .int .u64 0, .int .u64 0, .int .u64 0, .int .u64 0]) (dv_build (pv := []) (l := [.int .u64 0, .int .u64 0, .int .u64 0, .int .u64 0, .int .u64 0, .int .u64 0, .int .u64 0, .int .u64 0, .int .u64 0, .int .u64 0, .int .u64 0, .int .u64 0]) zc49 pl49 trivial rfl) ?_
         have H70 := (s49.blk (e45.blk (s40.blk (e36.blk (s32.blk (e28.blk (s24.blk (n19.ext.blk H21) (by omega))) (by omega))) (by omega))) (by omega))
         refine lw_e (oe_store (v := .agg #[.int .u64 0, .int .u64 0, .int .u64 0, .int .u64 0, .int .u64 0, .int .u64 0, .int .u64 0, .int .u64 0, .int .u64 0, .int .u64 0, .int .u64 0, .int .u64 0]) (vs := [.int .u64 0, .int .u64 0, .int .u64 0, .int .u64 0, .int .u64 0, .int .u64 0, .int .u64 0, .int .u64 0, .int .u64 0, .int .u64 0, .int .u64 0, .int .u64 0]) (l := [.int .u64 0, .int .u64 0, .int .u64 0, .int .u64 0, .int .u64 0, .int .u64 0, .int .u64 0, .int .u64 0, .int .u64 0, .int .u64 0, .int .u64 0, .int .u64 0]) (T rfl rfl) (T rfl rfl) sz49 rfl rfl rfl H70 rfl ?_)
         intro w71 s72 H73
         have E74 := below_st E51 N4 s72
         refine lw_v (.bool false) (dv_assign C) ?_
         refine lw_nil ?_
         refine rk_ret Try.func41 (v := .tuple #[.agg #[.int .u64 0, .int .u64 0, .int .u64 0, .int .u64 0, .int .u64 0, .int .u64 0, .int .u64 0, .int .u64 0, .int .u64 0, .int .u64 0, .int .u64 0, .int .u64 0], .bool false]) (res2 Try.results41 (rv_cells (l := [.int .u64 0, .int .u64 0, .int .u64 0, .int .u64 0, .int .u64 0, .int .u64 0, .int .u64 0, .int .u64 0, .int .u64 0, .int .u64 0, .int .u64 0, .int .u64 0]) agt49 sz49 rfl rfl H73 rfl) (rv_tmp rfl rfl)) ⟨_, rfl, ?_⟩
         have hS : ¬ rpS L := fun hh => hb54 ((rp_i2 hh).2.2.1 hb43)
         exact ⟨(tu2 (ag12 (vi (wf3 hS)) (vi (wf2 hS)) (vi (wf1 hS)) (vi (wf0 hS)) (vi (wf3 hS)) (vi (wf2 hS)) (vi (wf1 hS)) (vi (wf0 hS)) (vi (wf3 hS)) (vi (wf2 hS)) (vi (wf1 hS)) (vi (wf0 hS))) (vf hS)), E74⟩
     · refine lw_no (d := 53) rfl rfl (congrArg Value.bool (decide_eq_true hb53)) ?_
       refine lw_no (d := 53) rfl rfl (congrArg Value.bool (decide_eq_true hb53)) ?_
       refine lw_v (.bool true) (dv_pick_t (T rfl (congrArg Value.bool (decide_eq_true hb53))) C) ?_
       refine lw_v (.bool true) (dv_move (T rfl rfl)) ?_
       refine lw_no (d := 57) rfl rfl (rfl) ?_
       refine lw_no (d := 57) rfl rfl (rfl) ?_
       refine lw_no (d := 57) rfl rfl (rfl) ?_
       refine lw_no (d := 57) rfl rfl (rfl) ?_
       refine lw_v (.bool true) (dv_pick_t (T rfl rfl) C) ?_
       refine lw_nil ?_
       refine rk_ct (T rfl rfl) ?_
       refine rk_seq ?_
       refine rk_reg ?_
       refine lw_v (.agg #[.int .u64 0, .int .u64 0, .int .u64 0, .int .u64 0, .int .u64 0, .int .u64 0, .int .u64 0, .int .u64 0, .int .u64 0, .int .u64 0, .int .u64 0, .int .u64 0]) (dv_build (pv := []) (l := [.int .u64 0, .int .u64 0, .int .u64 0, .int .u64 0, .int .u64 0, .int .u64 0, .int .u64 0, .int .u64 0, .int .u64 0, .int .u64 0, .int .u64 0, .int .u64 0]) zc49 pl49 trivial rfl) ?_
       have H75 := (s49.blk (e45.blk (s40.blk (e36.blk (s32.blk (e28.blk (s24.blk (n19.ext.blk H21) (by omega))) (by omega))) (by omega))) (by omega))
       refine lw_e (oe_store (v := .agg #[.int .u64 0, .int .u64 0, .int .u64 0, .int .u64 0, .int .u64 0, .int .u64 0, .int .u64 0, .int .u64 0, .int .u64 0, .int .u64 0, .int .u64 0, .int .u64 0]) (vs := [.int .u64 0, .int .u64 0, .int .u64 0, .int .u64 0, .int .u64 0, .int .u64 0, .int .u64 0, .int .u64 0, .int .u64 0, .int .u64 0, .int .u64 0, .int .u64 0]) (l := [.int .u64 0, .int .u64 0, .int .u64 0, .int .u64 0, .int .u64 0, .int .u64 0, .int .u64 0, .int .u64 0, .int .u64 0, .int .u64 0, .int .u64 0, .int .u64 0]) (T rfl rfl) (T rfl rfl) sz49 rfl rfl rfl H75 rfl ?_)
       intro w76 s77 H78
       have E79 := below_st E51 N4 s77
       refine lw_v (.bool false) (dv_assign C) ?_
       refine lw_nil ?_
       refine rk_ret Try.func41 (v := .tuple #[.agg #[.int .u64 0, .int .u64 0, .int .u64 0, .int .u64 0, .int .u64 0, .int .u64 0, .int .u64 0, .int .u64 0, .int .u64 0, .int .u64 0, .int .u64 0, .int .u64 0], .bool false]) (res2 Try.results41 (rv_cells (l := [.int .u64 0, .int .u64 0, .int .u64 0, .int .u64 0, .int .u64 0, .int .u64 0, .int .u64 0, .int .u64 0, .int .u64 0, .int .u64 0, .int .u64 0, .int .u64 0]) agt49 sz49 rfl rfl H78 rfl) (rv_tmp rfl rfl)) ⟨_, rfl, ?_⟩
       have hS : ¬ rpS L := fun hh => hb53 (rp_i2 hh).2.1
       exact ⟨(tu2 (ag12 (vi (wf3 hS)) (vi (wf2 hS)) (vi (wf1 hS)) (vi (wf0 hS)) (vi (wf3 hS)) (vi (wf2 hS)) (vi (wf1 hS)) (vi (wf0 hS)) (vi (wf3 hS)) (vi (wf2 hS)) (vi (wf1 hS)) (vi (wf0 hS))) (vf hS)), E79⟩
   · refine lw_no (d := 49) rfl rfl (congrArg Value.bool (decide_eq_true hb52)) ?_
     refine lw_no (d := 49) rfl rfl (congrArg Value.bool (decide_eq_true hb52)) ?_
     refine lw_v (.bool true) (dv_pick_t (T rfl (congrArg Value.bool (decide_eq_true hb52))) C) ?_
     refine lw_v (.bool true) (dv_move (T rfl rfl)) ?_
     refine lw_no (d := 53) rfl rfl (rfl) ?_
     refine lw_no (d := 53) rfl rfl (rfl) ?_
     refine lw_v (.bool true) (dv_pick_t (T rfl rfl) C) ?_
     refine lw_v (.bool true) (dv_move (T rfl rfl)) ?_
     refine lw_no (d := 57) rfl rfl (rfl) ?_
     refine lw_no (d := 57) rfl rfl (rfl) ?_
     refine lw_no (d := 57) rfl rfl (rfl) ?_
     refine lw_no (d := 57) rfl rfl (rfl) ?_
     refine lw_v (.bool true) (dv_pick_t (T rfl rfl) C) ?_
     refine lw_nil ?_
     refine rk_ct (T rfl rfl) ?_
     refine rk_seq ?_
     refine rk_reg ?_
     refine lw_v (.agg #[.int .u64 0, .int .u64 0, .int .u64 0, .int .u64 0, .int .u64 0, .int .u64 0, .int .u64 0, .int .u64 0, .int .u64 0, .int .u64 0, .int .u64 0, .int .u64 0]) (dv_build (pv := []) (l := [.int .u64 0, .int .u64 0, .int .u64 0, .int .u64 0, .int .u64 0, .int .u64 0, .int .u64 0, .int .u64 0, .int .u64 0, .int .u64 0, .int .u64 0, .int .u64 0]) zc49 pl49 trivial rfl) ?_
     have H80 := (s49.blk (e45.blk (s40.blk (e36.blk (s32.blk (e28.blk (s24.blk (n19.ext.blk H21) (by omega))) (by omega))) (by omega))) (by omega))
     refine lw_e (oe_store (v := .agg #[.int .u64 0, .int .u64 0, .int .u64 0, .int .u64 0, .int .u64 0, .int .u64 0, .int .u64 0, .int .u64 0, .int .u64 0, .int .u64 0, .int .u64 0, .int .u64 0]) (vs := [.int .u64 0, .int .u64 0, .int .u64 0, .int .u64 0, .int .u64 0, .int .u64 0, .int .u64 0, .int .u64 0, .int .u64 0, .int .u64 0, .int .u64 0, .int .u64 0]) (l := [.int .u64 0, .int .u64 0, .int .u64 0, .int .u64 0, .int .u64 0, .int .u64 0, .int .u64 0, .int .u64 0, .int .u64 0, .int .u64 0, .int .u64 0, .int .u64 0]) (T rfl rfl) (T rfl rfl) sz49 rfl rfl rfl H80 rfl ?_)
     intro w81 s82 H83
     have E84 := below_st E51 N4 s82
     refine lw_v (.bool false) (dv_assign C) ?_
     refine lw_nil ?_
     refine rk_ret Try.func41 (v := .tuple #[.agg #[.int .u64 0, .int .u64 0, .int .u64 0, .int .u64 0, .int .u64 0, .int .u64 0, .int .u64 0, .int .u64 0, .int .u64 0, .int .u64 0, .int .u64 0, .int .u64 0], .bool false]) (res2 Try.results41 (rv_cells (l := [.int .u64 0, .int .u64 0, .int .u64 0, .int .u64 0, .int .u64 0, .int .u64 0, .int .u64 0, .int .u64 0, .int .u64 0, .int .u64 0, .int .u64 0, .int .u64 0]) agt49 sz49 rfl rfl H83 rfl) (rv_tmp rfl rfl)) ⟨_, rfl, ?_⟩
     have hS : ¬ rpS L := fun hh => hb52 (rp_i2 hh).1
     exact ⟨(tu2 (ag12 (vi (wf3 hS)) (vi (wf2 hS)) (vi (wf1 hS)) (vi (wf0 hS)) (vi (wf3 hS)) (vi (wf2 hS)) (vi (wf1 hS)) (vi (wf0 hS)) (vi (wf3 hS)) (vi (wf2 hS)) (vi (wf1 hS)) (vi (wf0 hS))) (vf hS)), E84⟩
 · refine rk_cf (T rfl (congrArg Value.bool (decide_eq_false hb43))) ?_
   refine rk_skip ?_
   refine rk_seq ?_
   refine rk_seq ?_
   refine rk_reg ?_
   refine lw_v (.bool (decide (rdS ((L.take (fi 47 L)).take (fi 44 (L.take (fi 47 L))))))) (dv_move (T rfl rfl)) ?_
   refine lw_v (.bool (decide (¬ (rdS ((L.take (fi 47 L)).take (fi 44 (L.take (fi 47 L)))))))) (dv_notd (p := rdS ((L.take (fi 47 L)).take (fi 44 (L.take (fi 47 L))))) (T rfl rfl)) ?_
   refine lw_v (.bool (decide (¬ (rdS ((L.take (fi 47 L)).take (fi 44 (L.take (fi 47 L)))))))) (dv_move (T rfl rfl)) ?_
   by_cases hb85 : rdS ((L.take (fi 47 L)).take (fi 44 (L.take (fi 47 L))))
   · refine lw_vy (.bool (decide (rdS ((L.take (fi 47 L)).drop (fi 44 (L.take (fi 47 L)) + 1))))) (d := 49) rfl rfl (congrArg Value.bool (decide_eq_false (not_not_intro hb85))) (dv_move (T rfl rfl)) ?_
     refine lw_vy (.bool (decide (¬ (rdS ((L.take (fi 47 L)).drop (fi 44 (L.take (fi 47 L)) + 1)))))) (d := 49) rfl rfl (congrArg Value.bool (decide_eq_false (not_not_intro hb85))) (dv_notd (p := rdS ((L.take (fi 47 L)).drop (fi 44 (L.take (fi 47 L)) + 1))) (T rfl rfl)) ?_
     refine lw_v (.bool (decide (¬ (rdS ((L.take (fi 47 L)).drop (fi 44 (L.take (fi 47 L)) + 1)))))) (dv_pick_f (T rfl (congrArg Value.bool (decide_eq_false (not_not_intro hb85)))) (T rfl rfl)) ?_
     refine lw_v (.bool (decide (¬ (rdS ((L.take (fi 47 L)).drop (fi 44 (L.take (fi 47 L)) + 1)))))) (dv_move (T rfl rfl)) ?_
     by_cases hb86 : rdS ((L.take (fi 47 L)).drop (fi 44 (L.take (fi 47 L)) + 1))
     · refine lw_vy (.bool true) (d := 53) rfl rfl (congrArg Value.bool (decide_eq_false (not_not_intro hb86))) (dv_move (T rfl rfl)) ?_
       refine lw_vy (.bool false) (d := 53) rfl rfl (congrArg Value.bool (decide_eq_false (not_not_intro hb86))) (dv_not (b := true) (T rfl rfl)) ?_
       refine lw_v (.bool false) (dv_pick_f (T rfl (congrArg Value.bool (decide_eq_false (not_not_intro hb86)))) (T rfl rfl)) ?_
       refine lw_v (.bool false) (dv_move (T rfl rfl)) ?_
       refine lw_vy (.agg #[.int .u64 (wv3 (rdZ ((L.take (fi 47 L)).take (fi 44 (L.take (fi 47 L)))))), .int .u64 (wv2 (rdZ ((L.take (fi 47 L)).take (fi 44 (L.take (fi 47 L)))))), .int .u64 (wv1 (rdZ ((L.take (fi 47 L)).take (fi 44 (L.take (fi 47 L)))))), .int .u64 (wv0 (rdZ ((L.take (fi 47 L)).take (fi 44 (L.take (fi 47 L)))))), .int .u64 (wv3 (rdZ ((L.take (fi 47 L)).drop (fi 44 (L.take (fi 47 L)) + 1)))), .int .u64 (wv2 (rdZ ((L.take (fi 47 L)).drop (fi 44 (L.take (fi 47 L)) + 1)))), .int .u64 (wv1 (rdZ ((L.take (fi 47 L)).drop (fi 44 (L.take (fi 47 L)) + 1)))), .int .u64 (wv0 (rdZ ((L.take (fi 47 L)).drop (fi 44 (L.take (fi 47 L)) + 1)))), .int .u64 (wv3 (1 : Int)), .int .u64 (wv2 (1 : Int)), .int .u64 (wv1 (1 : Int)), .int .u64 (wv0 (1 : Int))]) (d := 57) rfl rfl (rfl) (dv_loads (l := [.int .u64 (wv3 (rdZ ((L.take (fi 47 L)).take (fi 44 (L.take (fi 47 L)))))), .int .u64 (wv2 (rdZ ((L.take (fi 47 L)).take (fi 44 (L.take (fi 47 L)))))), .int .u64 (wv1 (rdZ ((L.take (fi 47 L)).take (fi 44 (L.take (fi 47 L)))))), .int .u64 (wv0 (rdZ ((L.take (fi 47 L)).take (fi 44 (L.take (fi 47 L)))))), .int .u64 (wv3 (rdZ ((L.take (fi 47 L)).drop (fi 44 (L.take (fi 47 L)) + 1)))), .int .u64 (wv2 (rdZ ((L.take (fi 47 L)).drop (fi 44 (L.take (fi 47 L)) + 1)))), .int .u64 (wv1 (rdZ ((L.take (fi 47 L)).drop (fi 44 (L.take (fi 47 L)) + 1)))), .int .u64 (wv0 (rdZ ((L.take (fi 47 L)).drop (fi 44 (L.take (fi 47 L)) + 1)))), .int .u64 (wv3 (1 : Int)), .int .u64 (wv2 (1 : Int)), .int .u64 (wv1 (1 : Int)), .int .u64 (wv0 (1 : Int))]) agt49 sz49 (T rfl rfl) H41 rfl) ?_
       refine lw_ey (d := 57) rfl rfl (rfl) (oe_callf (vs := [.agg #[.int .u64 (wv3 (rdZ ((L.take (fi 47 L)).take (fi 44 (L.take (fi 47 L)))))), .int .u64 (wv2 (rdZ ((L.take (fi 47 L)).take (fi 44 (L.take (fi 47 L)))))), .int .u64 (wv1 (rdZ ((L.take (fi 47 L)).take (fi 44 (L.take (fi 47 L)))))), .int .u64 (wv0 (rdZ ((L.take (fi 47 L)).take (fi 44 (L.take (fi 47 L)))))), .int .u64 (wv3 (rdZ ((L.take (fi 47 L)).drop (fi 44 (L.take (fi 47 L)) + 1)))), .int .u64 (wv2 (rdZ ((L.take (fi 47 L)).drop (fi 44 (L.take (fi 47 L)) + 1)))), .int .u64 (wv1 (rdZ ((L.take (fi 47 L)).drop (fi 44 (L.take (fi 47 L)) + 1)))), .int .u64 (wv0 (rdZ ((L.take (fi 47 L)).drop (fi 44 (L.take (fi 47 L)) + 1)))), .int .u64 (wv3 (1 : Int)), .int .u64 (wv2 (1 : Int)), .int .u64 (wv1 (1 : Int)), .int .u64 (wv0 (1 : Int))]]) co74 (ar1 (T rfl rfl)) (iPointText_ok (x := rdZ ((L.take (fi 47 L)).take (fi 44 (L.take (fi 47 L))))) (y := rdZ ((L.take (fi 47 L)).drop (fi 44 (L.take (fi 47 L)) + 1))) (u := 1) (rdZ_f _) (rdZ_f _) (⟨by decide, by decide⟩ : fits 1) ) ?_)
       rintro _ w87 ⟨rfl, e88⟩
       have E89 := below_ext E42 E42.size e88
       refine lw_vy (.string (bOf L)) (d := 57) rfl rfl (rfl) (dv_move (T rfl rfl)) ?_
       refine lw_vy (.bool (decide ((((pTxt (rdZ ((L.take (fi 47 L)).take (fi 44 (L.take (fi 47 L))))) (rdZ ((L.take (fi 47 L)).drop (fi 44 (L.take (fi 47 L)) + 1))) (1 : Int))) : List Int) ≠ L))) (d := 57) rfl rfl (rfl) (dv_neS (L := (pTxt (rdZ ((L.take (fi 47 L)).take (fi 44 (L.take (fi 47 L))))) (rdZ ((L.take (fi 47 L)).drop (fi 44 (L.take (fi 47 L)) + 1))) (1 : Int))) (M := L) (T rfl rfl) (T rfl rfl) ((okC_pTxt _ _ _)) ((hL))) ?_
       refine lw_v (.bool (decide ((((pTxt (rdZ ((L.take (fi 47 L)).take (fi 44 (L.take (fi 47 L))))) (rdZ ((L.take (fi 47 L)).drop (fi 44 (L.take (fi 47 L)) + 1))) (1 : Int))) : List Int) ≠ L))) (dv_pick_f (T rfl rfl) (T rfl rfl)) ?_
       refine lw_nil ?_
       by_cases hb90 : (((pTxt (rdZ ((L.take (fi 47 L)).take (fi 44 (L.take (fi 47 L))))) (rdZ ((L.take (fi 47 L)).drop (fi 44 (L.take (fi 47 L)) + 1))) (1 : Int))) : List Int) ≠ L
       · refine rk_ct (T rfl (congrArg Value.bool (decide_eq_true hb90))) ?_
         refine rk_seq ?_
         refine rk_reg ?_
         refine lw_v (.agg #[.int .u64 0, .int .u64 0, .int .u64 0, .int .u64 0, .int .u64 0, .int .u64 0, .int .u64 0, .int .u64 0, .int .u64 0, .int .u64 0, .int .u64 0, .int .u64 0]) (dv_build (pv := []) (l := [.int .u64 0, .int .u64 0, .int .u64 0, .int .u64 0, .int .u64 0, .int .u64 0, .int .u64 0, .int .u64 0, .int .u64 0, .int .u64 0, .int .u64 0, .int .u64 0]) zc49 pl49 trivial rfl) ?_
         have H91 := (e88.blk (s40.blk (e36.blk (s32.blk (e28.blk (s24.blk (n19.ext.blk H21) (by omega))) (by omega))) (by omega)))
         refine lw_e (oe_store (v := .agg #[.int .u64 0, .int .u64 0, .int .u64 0, .int .u64 0, .int .u64 0, .int .u64 0, .int .u64 0, .int .u64 0, .int .u64 0, .int .u64 0, .int .u64 0, .int .u64 0]) (vs := [.int .u64 0, .int .u64 0, .int .u64 0, .int .u64 0, .int .u64 0, .int .u64 0, .int .u64 0, .int .u64 0, .int .u64 0, .int .u64 0, .int .u64 0, .int .u64 0]) (l := [.int .u64 0, .int .u64 0, .int .u64 0, .int .u64 0, .int .u64 0, .int .u64 0, .int .u64 0, .int .u64 0, .int .u64 0, .int .u64 0, .int .u64 0, .int .u64 0]) (T rfl rfl) (T rfl rfl) sz49 rfl rfl rfl H91 rfl ?_)
         intro w92 s93 H94
         have E95 := below_st E89 N4 s93
         refine lw_v (.bool false) (dv_assign C) ?_
         refine lw_nil ?_
         refine rk_ret Try.func41 (v := .tuple #[.agg #[.int .u64 0, .int .u64 0, .int .u64 0, .int .u64 0, .int .u64 0, .int .u64 0, .int .u64 0, .int .u64 0, .int .u64 0, .int .u64 0, .int .u64 0, .int .u64 0], .bool false]) (res2 Try.results41 (rv_cells (l := [.int .u64 0, .int .u64 0, .int .u64 0, .int .u64 0, .int .u64 0, .int .u64 0, .int .u64 0, .int .u64 0, .int .u64 0, .int .u64 0, .int .u64 0, .int .u64 0]) agt49 sz49 rfl rfl H94 rfl) (rv_tmp rfl rfl)) ⟨_, rfl, ?_⟩
         have hS : ¬ rpS L := fun hh => hb90 ((rp_i2 hh).2.2.2.2 hb43)
         exact ⟨(tu2 (ag12 (vi (wf3 hS)) (vi (wf2 hS)) (vi (wf1 hS)) (vi (wf0 hS)) (vi (wf3 hS)) (vi (wf2 hS)) (vi (wf1 hS)) (vi (wf0 hS)) (vi (wf3 hS)) (vi (wf2 hS)) (vi (wf1 hS)) (vi (wf0 hS))) (vf hS)), E95⟩
       · refine rk_cf (T rfl (congrArg Value.bool (decide_eq_false hb90))) ?_
         refine rk_skip ?_
         refine rk_seq ?_
         refine rk_reg ?_
         have H96 := (e88.blk H41)
         refine lw_v (.agg #[.int .u64 (wv3 (rdZ ((L.take (fi 47 L)).take (fi 44 (L.take (fi 47 L)))))), .int .u64 (wv2 (rdZ ((L.take (fi 47 L)).take (fi 44 (L.take (fi 47 L)))))), .int .u64 (wv1 (rdZ ((L.take (fi 47 L)).take (fi 44 (L.take (fi 47 L)))))), .int .u64 (wv0 (rdZ ((L.take (fi 47 L)).take (fi 44 (L.take (fi 47 L)))))), .int .u64 (wv3 (rdZ ((L.take (fi 47 L)).drop (fi 44 (L.take (fi 47 L)) + 1)))), .int .u64 (wv2 (rdZ ((L.take (fi 47 L)).drop (fi 44 (L.take (fi 47 L)) + 1)))), .int .u64 (wv1 (rdZ ((L.take (fi 47 L)).drop (fi 44 (L.take (fi 47 L)) + 1)))), .int .u64 (wv0 (rdZ ((L.take (fi 47 L)).drop (fi 44 (L.take (fi 47 L)) + 1)))), .int .u64 (wv3 (1 : Int)), .int .u64 (wv2 (1 : Int)), .int .u64 (wv1 (1 : Int)), .int .u64 (wv0 (1 : Int))]) (dv_loads (l := [.int .u64 (wv3 (rdZ ((L.take (fi 47 L)).take (fi 44 (L.take (fi 47 L)))))), .int .u64 (wv2 (rdZ ((L.take (fi 47 L)).take (fi 44 (L.take (fi 47 L)))))), .int .u64 (wv1 (rdZ ((L.take (fi 47 L)).take (fi 44 (L.take (fi 47 L)))))), .int .u64 (wv0 (rdZ ((L.take (fi 47 L)).take (fi 44 (L.take (fi 47 L)))))), .int .u64 (wv3 (rdZ ((L.take (fi 47 L)).drop (fi 44 (L.take (fi 47 L)) + 1)))), .int .u64 (wv2 (rdZ ((L.take (fi 47 L)).drop (fi 44 (L.take (fi 47 L)) + 1)))), .int .u64 (wv1 (rdZ ((L.take (fi 47 L)).drop (fi 44 (L.take (fi 47 L)) + 1)))), .int .u64 (wv0 (rdZ ((L.take (fi 47 L)).drop (fi 44 (L.take (fi 47 L)) + 1)))), .int .u64 (wv3 (1 : Int)), .int .u64 (wv2 (1 : Int)), .int .u64 (wv1 (1 : Int)), .int .u64 (wv0 (1 : Int))]) agt49 sz49 (T rfl rfl) H96 rfl) ?_
         have H97 := (e88.blk (s40.blk (e36.blk (s32.blk (e28.blk (s24.blk (n19.ext.blk H21) (by omega))) (by omega))) (by omega)))
         refine lw_e (oe_store (v := .agg #[.int .u64 (wv3 (rdZ ((L.take (fi 47 L)).take (fi 44 (L.take (fi 47 L)))))), .int .u64 (wv2 (rdZ ((L.take (fi 47 L)).take (fi 44 (L.take (fi 47 L)))))), .int .u64 (wv1 (rdZ ((L.take (fi 47 L)).take (fi 44 (L.take (fi 47 L)))))), .int .u64 (wv0 (rdZ ((L.take (fi 47 L)).take (fi 44 (L.take (fi 47 L)))))), .int .u64 (wv3 (rdZ ((L.take (fi 47 L)).drop (fi 44 (L.take (fi 47 L)) + 1)))), .int .u64 (wv2 (rdZ ((L.take (fi 47 L)).drop (fi 44 (L.take (fi 47 L)) + 1)))), .int .u64 (wv1 (rdZ ((L.take (fi 47 L)).drop (fi 44 (L.take (fi 47 L)) + 1)))), .int .u64 (wv0 (rdZ ((L.take (fi 47 L)).drop (fi 44 (L.take (fi 47 L)) + 1)))), .int .u64 (wv3 (1 : Int)), .int .u64 (wv2 (1 : Int)), .int .u64 (wv1 (1 : Int)), .int .u64 (wv0 (1 : Int))]) (vs := [.int .u64 (wv3 (rdZ ((L.take (fi 47 L)).take (fi 44 (L.take (fi 47 L)))))), .int .u64 (wv2 (rdZ ((L.take (fi 47 L)).take (fi 44 (L.take (fi 47 L)))))), .int .u64 (wv1 (rdZ ((L.take (fi 47 L)).take (fi 44 (L.take (fi 47 L)))))), .int .u64 (wv0 (rdZ ((L.take (fi 47 L)).take (fi 44 (L.take (fi 47 L)))))), .int .u64 (wv3 (rdZ ((L.take (fi 47 L)).drop (fi 44 (L.take (fi 47 L)) + 1)))), .int .u64 (wv2 (rdZ ((L.take (fi 47 L)).drop (fi 44 (L.take (fi 47 L)) + 1)))), .int .u64 (wv1 (rdZ ((L.take (fi 47 L)).drop (fi 44 (L.take (fi 47 L)) + 1)))), .int .u64 (wv0 (rdZ ((L.take (fi 47 L)).drop (fi 44 (L.take (fi 47 L)) + 1)))), .int .u64 (wv3 (1 : Int)), .int .u64 (wv2 (1 : Int)), .int .u64 (wv1 (1 : Int)), .int .u64 (wv0 (1 : Int))]) (l := [.int .u64 (wv3 (rdZ ((L.take (fi 47 L)).take (fi 44 (L.take (fi 47 L)))))), .int .u64 (wv2 (rdZ ((L.take (fi 47 L)).take (fi 44 (L.take (fi 47 L)))))), .int .u64 (wv1 (rdZ ((L.take (fi 47 L)).take (fi 44 (L.take (fi 47 L)))))), .int .u64 (wv0 (rdZ ((L.take (fi 47 L)).take (fi 44 (L.take (fi 47 L)))))), .int .u64 (wv3 (rdZ ((L.take (fi 47 L)).drop (fi 44 (L.take (fi 47 L)) + 1)))), .int .u64 (wv2 (rdZ ((L.take (fi 47 L)).drop (fi 44 (L.take (fi 47 L)) + 1)))), .int .u64 (wv1 (rdZ ((L.take (fi 47 L)).drop (fi 44 (L.take (fi 47 L)) + 1)))), .int .u64 (wv0 (rdZ ((L.take (fi 47 L)).drop (fi 44 (L.take (fi 47 L)) + 1)))), .int .u64 (wv3 (1 : Int)), .int .u64 (wv2 (1 : Int)), .int .u64 (wv1 (1 : Int)), .int .u64 (wv0 (1 : Int))]) (T rfl rfl) (T rfl rfl) sz49 rfl rfl rfl H97 rfl ?_)
         intro w98 s99 H100
         have E101 := below_st E89 N4 s99
         refine lw_v (.bool true) (dv_assign C) ?_
         refine lw_nil ?_
         refine rk_ret Try.func41 (v := .tuple #[.agg #[.int .u64 (wv3 (rdZ ((L.take (fi 47 L)).take (fi 44 (L.take (fi 47 L)))))), .int .u64 (wv2 (rdZ ((L.take (fi 47 L)).take (fi 44 (L.take (fi 47 L)))))), .int .u64 (wv1 (rdZ ((L.take (fi 47 L)).take (fi 44 (L.take (fi 47 L)))))), .int .u64 (wv0 (rdZ ((L.take (fi 47 L)).take (fi 44 (L.take (fi 47 L)))))), .int .u64 (wv3 (rdZ ((L.take (fi 47 L)).drop (fi 44 (L.take (fi 47 L)) + 1)))), .int .u64 (wv2 (rdZ ((L.take (fi 47 L)).drop (fi 44 (L.take (fi 47 L)) + 1)))), .int .u64 (wv1 (rdZ ((L.take (fi 47 L)).drop (fi 44 (L.take (fi 47 L)) + 1)))), .int .u64 (wv0 (rdZ ((L.take (fi 47 L)).drop (fi 44 (L.take (fi 47 L)) + 1)))), .int .u64 (wv3 (1 : Int)), .int .u64 (wv2 (1 : Int)), .int .u64 (wv1 (1 : Int)), .int .u64 (wv0 (1 : Int))], .bool true]) (res2 Try.results41 (rv_cells (l := [.int .u64 (wv3 (rdZ ((L.take (fi 47 L)).take (fi 44 (L.take (fi 47 L)))))), .int .u64 (wv2 (rdZ ((L.take (fi 47 L)).take (fi 44 (L.take (fi 47 L)))))), .int .u64 (wv1 (rdZ ((L.take (fi 47 L)).take (fi 44 (L.take (fi 47 L)))))), .int .u64 (wv0 (rdZ ((L.take (fi 47 L)).take (fi 44 (L.take (fi 47 L)))))), .int .u64 (wv3 (rdZ ((L.take (fi 47 L)).drop (fi 44 (L.take (fi 47 L)) + 1)))), .int .u64 (wv2 (rdZ ((L.take (fi 47 L)).drop (fi 44 (L.take (fi 47 L)) + 1)))), .int .u64 (wv1 (rdZ ((L.take (fi 47 L)).drop (fi 44 (L.take (fi 47 L)) + 1)))), .int .u64 (wv0 (rdZ ((L.take (fi 47 L)).drop (fi 44 (L.take (fi 47 L)) + 1)))), .int .u64 (wv3 (1 : Int)), .int .u64 (wv2 (1 : Int)), .int .u64 (wv1 (1 : Int)), .int .u64 (wv0 (1 : Int))]) agt49 sz49 rfl rfl H100 rfl) (rv_tmp rfl rfl)) ⟨_, rfl, ?_⟩
         have hR := rp_i1 (ne_i hb85 (by simp; omega)) (Decidable.not_not.1 hb90)
         exact ⟨(tu2 (ag12 (vi (congrArg wv3 ((pkz_t hR.1).trans hR.2.1).symm)) (vi (congrArg wv2 ((pkz_t hR.1).trans hR.2.1).symm)) (vi (congrArg wv1 ((pkz_t hR.1).trans hR.2.1).symm)) (vi (congrArg wv0 ((pkz_t hR.1).trans hR.2.1).symm)) (vi (congrArg wv3 ((pkz_t hR.1).trans hR.2.2.1).symm)) (vi (congrArg wv2 ((pkz_t hR.1).trans hR.2.2.1).symm)) (vi (congrArg wv1 ((pkz_t hR.1).trans hR.2.2.1).symm)) (vi (congrArg wv0 ((pkz_t hR.1).trans hR.2.2.1).symm)) (vi (congrArg wv3 ((pkz_t hR.1).trans hR.2.2.2).symm)) (vi (congrArg wv2 ((pkz_t hR.1).trans hR.2.2.2).symm)) (vi (congrArg wv1 ((pkz_t hR.1).trans hR.2.2.2).symm)) (vi (congrArg wv0 ((pkz_t hR.1).trans hR.2.2.2).symm))) (vt hR.1)), E101⟩
     · refine lw_no (d := 53) rfl rfl (congrArg Value.bool (decide_eq_true hb86)) ?_
       refine lw_no (d := 53) rfl rfl (congrArg Value.bool (decide_eq_true hb86)) ?_
       refine lw_v (.bool true) (dv_pick_t (T rfl (congrArg Value.bool (decide_eq_true hb86))) C) ?_
       refine lw_v (.bool true) (dv_move (T rfl rfl)) ?_
       refine lw_no (d := 57) rfl rfl (rfl) ?_
       refine lw_no (d := 57) rfl rfl (rfl) ?_
       refine lw_no (d := 57) rfl rfl (rfl) ?_
       refine lw_no (d := 57) rfl rfl (rfl) ?_
       refine lw_v (.bool true) (dv_pick_t (T rfl rfl) C) ?_
       refine lw_nil ?_
       refine rk_ct (T rfl rfl) ?_
       refine rk_seq ?_
       refine rk_reg ?_
       refine lw_v (.agg #[.int .u64 0, .int .u64 0, .int .u64 0, .int .u64 0, .int .u64 0, .int .u64 0, .int .u64 0, .int .u64 0, .int .u64 0, .int .u64 0, .int .u64 0, .int .u64 0]) (dv_build (pv := []) (l := [.int .u64 0, .int .u64 0, .int .u64 0, .int .u64 0, .int .u64 0, .int .u64 0, .int .u64 0, .int .u64 0, .int .u64 0, .int .u64 0, .int .u64 0, .int .u64 0]) zc49 pl49 trivial rfl) ?_
       have H102 := (s40.blk (e36.blk (s32.blk (e28.blk (s24.blk (n19.ext.blk H21) (by omega))) (by omega))) (by omega))
       refine lw_e (oe_store (v := .agg #[.int .u64 0, .int .u64 0, .int .u64 0, .int .u64 0, .int .u64 0, .int .u64 0, .int .u64 0, .int .u64 0, .int .u64 0, .int .u64 0, .int .u64 0, .int .u64 0]) (vs := [.int .u64 0, .int .u64 0, .int .u64 0, .int .u64 0, .int .u64 0, .int .u64 0, .int .u64 0, .int .u64 0, .int .u64 0, .int .u64 0, .int .u64 0, .int .u64 0]) (l := [.int .u64 0, .int .u64 0, .int .u64 0, .int .u64 0, .int .u64 0, .int .u64 0, .int .u64 0, .int .u64 0, .int .u64 0, .int .u64 0, .int .u64 0, .int .u64 0]) (T rfl rfl) (T rfl rfl) sz49 rfl rfl rfl H102 rfl ?_)
       intro w103 s104 H105
       have E106 := below_st E42 N4 s104
       refine lw_v (.bool false) (dv_assign C) ?_
       refine lw_nil ?_
       refine rk_ret Try.func41 (v := .tuple #[.agg #[.int .u64 0, .int .u64 0, .int .u64 0, .int .u64 0, .int .u64 0, .int .u64 0, .int .u64 0, .int .u64 0, .int .u64 0, .int .u64 0, .int .u64 0, .int .u64 0], .bool false]) (res2 Try.results41 (rv_cells (l := [.int .u64 0, .int .u64 0, .int .u64 0, .int .u64 0, .int .u64 0, .int .u64 0, .int .u64 0, .int .u64 0, .int .u64 0, .int .u64 0, .int .u64 0, .int .u64 0]) agt49 sz49 rfl rfl H105 rfl) (rv_tmp rfl rfl)) ⟨_, rfl, ?_⟩
       have hS : ¬ rpS L := fun hh => hb86 (rp_i2 hh).2.1
       exact ⟨(tu2 (ag12 (vi (wf3 hS)) (vi (wf2 hS)) (vi (wf1 hS)) (vi (wf0 hS)) (vi (wf3 hS)) (vi (wf2 hS)) (vi (wf1 hS)) (vi (wf0 hS)) (vi (wf3 hS)) (vi (wf2 hS)) (vi (wf1 hS)) (vi (wf0 hS))) (vf hS)), E106⟩
   · refine lw_no (d := 49) rfl rfl (congrArg Value.bool (decide_eq_true hb85)) ?_
     refine lw_no (d := 49) rfl rfl (congrArg Value.bool (decide_eq_true hb85)) ?_
     refine lw_v (.bool true) (dv_pick_t (T rfl (congrArg Value.bool (decide_eq_true hb85))) C) ?_
     refine lw_v (.bool true) (dv_move (T rfl rfl)) ?_
     refine lw_no (d := 53) rfl rfl (rfl) ?_
     refine lw_no (d := 53) rfl rfl (rfl) ?_
     refine lw_v (.bool true) (dv_pick_t (T rfl rfl) C) ?_
     refine lw_v (.bool true) (dv_move (T rfl rfl)) ?_
     refine lw_no (d := 57) rfl rfl (rfl) ?_
     refine lw_no (d := 57) rfl rfl (rfl) ?_
     refine lw_no (d := 57) rfl rfl (rfl) ?_
     refine lw_no (d := 57) rfl rfl (rfl) ?_
     refine lw_v (.bool true) (dv_pick_t (T rfl rfl) C) ?_
     refine lw_nil ?_
     refine rk_ct (T rfl rfl) ?_
     refine rk_seq ?_
     refine rk_reg ?_
     refine lw_v (.agg #[.int .u64 0, .int .u64 0, .int .u64 0, .int .u64 0, .int .u64 0, .int .u64 0, .int .u64 0, .int .u64 0, .int .u64 0, .int .u64 0, .int .u64 0, .int .u64 0]) (dv_build (pv := []) (l := [.int .u64 0, .int .u64 0, .int .u64 0, .int .u64 0, .int .u64 0, .int .u64 0, .int .u64 0, .int .u64 0, .int .u64 0, .int .u64 0, .int .u64 0, .int .u64 0]) zc49 pl49 trivial rfl) ?_
     have H107 := (s40.blk (e36.blk (s32.blk (e28.blk (s24.blk (n19.ext.blk H21) (by omega))) (by omega))) (by omega))
     refine lw_e (oe_store (v := .agg #[.int .u64 0, .int .u64 0, .int .u64 0, .int .u64 0, .int .u64 0, .int .u64 0, .int .u64 0, .int .u64 0, .int .u64 0, .int .u64 0, .int .u64 0, .int .u64 0]) (vs := [.int .u64 0, .int .u64 0, .int .u64 0, .int .u64 0, .int .u64 0, .int .u64 0, .int .u64 0, .int .u64 0, .int .u64 0, .int .u64 0, .int .u64 0, .int .u64 0]) (l := [.int .u64 0, .int .u64 0, .int .u64 0, .int .u64 0, .int .u64 0, .int .u64 0, .int .u64 0, .int .u64 0, .int .u64 0, .int .u64 0, .int .u64 0, .int .u64 0]) (T rfl rfl) (T rfl rfl) sz49 rfl rfl rfl H107 rfl ?_)
     intro w108 s109 H110
     have E111 := below_st E42 N4 s109
     refine lw_v (.bool false) (dv_assign C) ?_
     refine lw_nil ?_
     refine rk_ret Try.func41 (v := .tuple #[.agg #[.int .u64 0, .int .u64 0, .int .u64 0, .int .u64 0, .int .u64 0, .int .u64 0, .int .u64 0, .int .u64 0, .int .u64 0, .int .u64 0, .int .u64 0, .int .u64 0], .bool false]) (res2 Try.results41 (rv_cells (l := [.int .u64 0, .int .u64 0, .int .u64 0, .int .u64 0, .int .u64 0, .int .u64 0, .int .u64 0, .int .u64 0, .int .u64 0, .int .u64 0, .int .u64 0, .int .u64 0]) agt49 sz49 rfl rfl H110 rfl) (rv_tmp rfl rfl)) ⟨_, rfl, ?_⟩
     have hS : ¬ rpS L := fun hh => hb85 (rp_i2 hh).1
     exact ⟨(tu2 (ag12 (vi (wf3 hS)) (vi (wf2 hS)) (vi (wf1 hS)) (vi (wf0 hS)) (vi (wf3 hS)) (vi (wf2 hS)) (vi (wf1 hS)) (vi (wf0 hS)) (vi (wf3 hS)) (vi (wf2 hS)) (vi (wf1 hS)) (vi (wf0 hS))) (vf hS)), E111⟩
set_option maxHeartbeats 1000000 in
theorem sReadPoint_ok {w : World} {L : List Int} (hL : okW 256 L) (hl : L.length ≤ 1048576) : Ct Try.prog 40 [.string (bOf L)] w fun v w1 => v = .tuple #[.agg #[.int .u64 (wv3 (pkz (rpS L) (rpX L))), .int .u64 (wv2 (pkz (rpS L) (rpX L))), .int .u64 (wv1 (pkz (rpS L) (rpX L))), .int .u64 (wv0 (pkz (rpS L) (rpX L))), .int .u64 (wv3 (pkz (rpS L) (rpY L))), .int .u64 (wv2 (pkz (rpS L) (rpY L))), .int .u64 (wv1 (pkz (rpS L) (rpY L))), .int .u64 (wv0 (pkz (rpS L) (rpY L))), .int .u64 (wv3 (pkz (rpS L) (rpU L))), .int .u64 (wv2 (pkz (rpS L) (rpU L))), .int .u64 (wv1 (pkz (rpS L) (rpU L))), .int .u64 (wv0 (pkz (rpS L) (rpU L)))], .bool (decide (rpS L))] ∧ Ext w w1 := by
 refine ct_run (n := 113) Try.func40 rfl Try.ntmps40 rfl ?_
 have E0 : Below w.heap.size w w := Below.refl _ _
 refine rk_seq ?_
 refine rk_reg ?_
 refine lw_e (oe_alloc ze49 ?_)
 intro b1 w2 n3
 have N4 : w.heap.size ≤ b1 := n3.eq ▸ E0.size
 have E5 := below_ext E0 E0.size n3.ext
 refine lw_v (.bool false) (dv_assign C) ?_
 refine lw_nil ?_
 refine rk_seq ?_
 refine rk_seq ?_
 refine rk_reg ?_
 refine lw_v (.string (bOf L)) (dv_move (T rfl rfl)) ?_
 refine lw_v (.int .i64 ((L.length : Int))) (dv_lenS (L := L) ut9 (T rfl rfl)) ?_
 refine lw_v (.bool (decide (80 < ((L.length : Int))))) (dv_gtr (a := (L.length : Int)) (b := 80) (T rfl rfl) C) ?_
 refine lw_nil ?_
 by_cases hb6 : 80 < ((L.length : Int))
 · refine rk_ct (T rfl (congrArg Value.bool (decide_eq_true hb6))) ?_
   refine rk_seq ?_
   refine rk_reg ?_
   refine lw_v (.agg #[.int .u64 0, .int .u64 0, .int .u64 0, .int .u64 0, .int .u64 0, .int .u64 0, .int .u64 0, .int .u64 0, .int .u64 0, .int .u64 0, .int .u64 0, .int .u64 0]) (dv_build (pv := []) (l := [.int .u64 0, .int .u64 0, .int .u64 0, .int .u64 0, .int .u64 0, .int .u64 0, .int .u64 0, .int .u64 0, .int .u64 0, .int .u64 0, .int .u64 0, .int .u64 0]) zc49 pl49 trivial rfl) ?_
   refine lw_e (oe_store (v := .agg #[.int .u64 0, .int .u64 0, .int .u64 0, .int .u64 0, .int .u64 0, .int .u64 0, .int .u64 0, .int .u64 0, .int .u64 0, .int .u64 0, .int .u64 0, .int .u64 0]) (vs := [.int .u64 0, .int .u64 0, .int .u64 0, .int .u64 0, .int .u64 0, .int .u64 0, .int .u64 0, .int .u64 0, .int .u64 0, .int .u64 0, .int .u64 0, .int .u64 0]) (l := [.int .u64 0, .int .u64 0, .int .u64 0, .int .u64 0, .int .u64 0, .int .u64 0, .int .u64 0, .int .u64 0, .int .u64 0, .int .u64 0, .int .u64 0, .int .u64 0]) (T rfl rfl) (T rfl rfl) sz49 rfl rfl rfl n3.blk rfl ?_)
   intro w7 s8 H9
   have E10 := below_st E5 N4 s8
   refine lw_v (.bool false) (dv_assign C) ?_
   refine lw_nil ?_
   refine rk_ret Try.func40 (v := .tuple #[.agg #[.int .u64 0, .int .u64 0, .int .u64 0, .int .u64 0, .int .u64 0, .int .u64 0, .int .u64 0, .int .u64 0, .int .u64 0, .int .u64 0, .int .u64 0, .int .u64 0], .bool false]) (res2 Try.results40 (rv_cells (l := [.int .u64 0, .int .u64 0, .int .u64 0, .int .u64 0, .int .u64 0, .int .u64 0, .int .u64 0, .int .u64 0, .int .u64 0, .int .u64 0, .int .u64 0, .int .u64 0]) agt49 sz49 rfl rfl H9 rfl) (rv_tmp rfl rfl)) ⟨_, rfl, ?_⟩
   have hS : ¬ rpS L := fun hh => by have h80 := (rp_spec hh).1; omega
   exact ⟨(tu2 (ag12 (vi (wf3 hS)) (vi (wf2 hS)) (vi (wf1 hS)) (vi (wf0 hS)) (vi (wf3 hS)) (vi (wf2 hS)) (vi (wf1 hS)) (vi (wf0 hS)) (vi (wf3 hS)) (vi (wf2 hS)) (vi (wf1 hS)) (vi (wf0 hS))) (vf hS)), E10⟩
 · refine rk_cf (T rfl (congrArg Value.bool (decide_eq_false hb6))) ?_
   refine rk_skip ?_
   refine rk_seq ?_
   refine rk_reg ?_
   refine lw_e (oe_buildSlice (pv := [(0, .string (bOf []))]) (init := [.string ⟨#[]⟩]) (l := [.string (bOf [])]) us83 sz9 rfl rfl zc9 (by kernel_rfl) ⟨rfl, C, trivial⟩ rfl ?_)
   intro b11 w12 n13
   have N14 : w.heap.size ≤ b11 := n13.eq ▸ E5.size
   have : b1 < b11 := n13.eq ▸ lt_of_blk n3.blk
   have E15 := below_ext E5 E5.size n13.ext
   refine lw_v (.slice (some ⟨b11, 0, none⟩) 1 1) (dv_assign (T rfl rfl)) ?_
   refine lw_nil ?_
   refine rk_seq ?_
   refine rk_reg ?_
   refine lw_v (.string (bOf [])) (dv_assign C) ?_
   refine lw_nil ?_
   refine rk_seq ?_
   refine rk_seq ?_
   refine rk_reg ?_
   refine lw_v (.int .i64 0) (dv_assign C) ?_
   refine lw_nil ?_
   refine rk_block ?_
   have H16 := (n13.ext.blk n3.blk)
   refine rk_loop (fun dm_ fr wl => ∃ (i : Nat) (Ad : Option Addr) (cp : Nat) (PS : List (List Int)) (MS : List Int), dm_ = L.length - i ∧ fr 0 = .string (bOf L) ∧ fr 2 = .pointer (some ⟨b1, 0, none⟩) ∧ fr 3 = .bool false ∧ fr 4 = .slice Ad (PS.length) cp ∧ fr 5 = .string (bOf MS) ∧ fr 6 = .int .i64 ((i : Int)) ∧ Below w.heap.size w wl ∧ wl.heap[b1]? = some (.cells #[.int .u64 0, .int .u64 0, .int .u64 0, .int .u64 0, .int .u64 0, .int .u64 0, .int .u64 0, .int .u64 0, .int .u64 0, .int .u64 0, .int .u64 0, .int .u64 0] 49) ∧ Ors wl b11 9 Ad cp PS ∧ (i ≤ L.length) ∧ (spl (L.take i) = (PS, MS)) ∧ (spQ i PS MS)) (L.length - 0) ⟨0, (some ⟨b11, 0, none⟩), 1, [[]], [], rfl, rfl, rfl, rfl, (congrArg (fun n_ => Value.slice _ n_ _) (by simp)), rfl, (vi (by omega)), E15, H16, (Ors.full (L := [[]]) n13.blk rfl (by decide)), (Nat.zero_le _), rfl, spQ0⟩ ?_
   intro d21 fr20 w17 hI18 ih19
   obtain ⟨i, Ad, cp, PS, MS, hd31, f22, f23, f24, f25, f26, f27, E28, H29, h30, hi, hs, hq⟩ := hI18
   have hq1 := hq.1; have hq5 := hq.2.2.2.2
   refine rk_seq ?_
   refine rk_seq ?_
   refine rk_reg ?_
   refine lw_v (.int .i64 ((i : Int))) (dv_move (T rfl f27)) ?_
   refine lw_v (.string (bOf L)) (dv_move (T rfl f22)) ?_
   refine lw_v (.int .i64 ((L.length : Int))) (dv_lenS (L := L) ut9 (T rfl rfl)) ?_
   refine lw_v (.bool (decide (((i : Int)) < ((L.length : Int))))) (dv_lss (a := (i : Int)) (b := (L.length : Int)) (T rfl rfl) (T rfl rfl)) ?_
   refine lw_nil ?_
   by_cases hb32 : ((i : Int)) < ((L.length : Int))
   · refine rk_ct (T rfl (congrArg Value.bool (decide_eq_true hb32))) ?_
     refine rk_skip ?_
     refine rk_seq ?_
     refine rk_block ?_
     refine rk_seq ?_
     refine rk_reg ?_
     refine lw_v (.string (bOf L)) (dv_move (T rfl f22)) ?_
     refine lw_v (.int .i64 ((i : Int))) (dv_move (T rfl f27)) ?_
     have bg33 := okW.getD (hL) (by decide) i
     refine lw_v (.int .u8 (L.getD i 0)) (dv_indexS (L := L) (i := i) (j := (i : Int)) ut9 (T rfl rfl) (T rfl rfl) (hL) (by omega) (by first | omega | (simp; done) | (simp; omega))) ?_
     refine lw_v (.bool (decide ((L.getD i 0) = 44))) (dv_eql (a := L.getD i 0) (b := 44) (T rfl rfl) C) ?_
     refine lw_v (.bool (decide ((L.getD i 0) = 44))) (dv_move (T rfl rfl)) ?_
     by_cases hb34 : (L.getD i 0) = 44
     · refine lw_no (d := 29) rfl rfl (congrArg Value.bool (decide_eq_true hb34)) ?_
       refine lw_no (d := 29) rfl rfl (congrArg Value.bool (decide_eq_true hb34)) ?_
       refine lw_no (d := 29) rfl rfl (congrArg Value.bool (decide_eq_true hb34)) ?_
       refine lw_no (d := 29) rfl rfl (congrArg Value.bool (decide_eq_true hb34)) ?_
       refine lw_v (.bool true) (dv_pick_t (T rfl (congrArg Value.bool (decide_eq_true hb34))) C) ?_
       refine lw_nil ?_
       refine rk_ct (T rfl rfl) ?_
       refine rk_seq ?_
       refine rk_reg ?_
       refine lw_v (.string (bOf MS)) (dv_move (T rfl f26)) ?_
       refine lw_v (.string (bOf L)) (dv_move (T rfl f22)) ?_
       refine lw_v (.int .i64 ((i : Int))) (dv_move (T rfl f27)) ?_
       refine lw_v (.int .i64 ((i : Int))) (dv_move (T rfl f27)) ?_
       refine lw_v (.int .i64 (((i : Int)) + 1)) (dv_add (a := (i : Int)) (b := 1) (z := ((i : Int)) + 1) (T rfl rfl) C (wr_i64 (by omega) (by omega))) ?_
       refine lw_v (.string (bOf ((L.take (((i) + 1))).drop i))) (dv_sliceSb (L := L) (i := i) (i' := ((i) + 1)) (j := (i : Int)) (j' := ((i : Int)) + 1) ut9 (T rfl rfl) (T rfl rfl) (T rfl rfl) (by omega) (by omega) (by first | omega | (simp; done) | (simp; omega)) (by first | omega | (simp; done) | (simp; omega))) ?_
       refine lw_v (.string (bOf (MS ++ ((L.take (((i) + 1))).drop i)))) (dv_addS (L := MS) (M := ((L.take (((i) + 1))).drop i)) (T rfl rfl) (T rfl rfl) (by first | omega | exact Nat.le_trans (rows_get hr _).2 (by decide) | exact Nat.le_trans (rows_get hr2 _).2 (by decide) | (have h1_ := (hq.get (PS.length - 1)).2; rw [one_slice (by omega)]; simp only [List.length_cons, List.length_nil]; omega) | (simp; omega))) ?_
       refine lw_v (.string (bOf (MS ++ ((L.take (((i) + 1))).drop i)))) (dv_assign (T rfl rfl)) ?_
       refine lw_nil ?_
       refine rk_reg ?_
       refine lw_v (.slice Ad (PS.length) cp) (dv_move (T rfl f25)) ?_
       refine lw_e (oe_buildSlice (pv := [(0, .string (bOf []))]) (init := [.string ⟨#[]⟩]) (l := [.string (bOf [])]) us83 sz9 rfl rfl zc9 (by kernel_rfl) ⟨rfl, C, trivial⟩ rfl ?_)
       intro b35 w36 n37
       have N38 : w.heap.size ≤ b35 := n37.eq ▸ E28.size
       have : b1 < b35 := n37.eq ▸ lt_of_blk H29
       have E39 := below_ext E28 E28.size n37.ext
       have h40 := (h30.ext n37.ext)
       refine lw_e (oe_appendS (base := b11) (L := PS) (M := []) us83 in9 (T rfl rfl) (T rfl rfl) h40 n37.blk (by first | omega | (simp; done) | (simp; omega)) (by first | omega | (simp; done) | (simp; omega)) ?_)
       intro Ad41 c42 w43 hO44 x45 bt46
       have E47 := below_bl E39 N14 x45
       refine lw_v (.slice Ad41 ((PS ++ [[]]).length) c42) (dv_assign (T rfl rfl)) ?_
       refine lw_nil ?_
       refine rk_inBlock ?_
       refine rk_reg ?_
       refine lw_v (.int .i64 ((i : Int))) (dv_move (T rfl f27)) ?_
       refine lw_v (.int .i64 (((i : Int)) + 1)) (dv_add (a := (i : Int)) (b := 1) (z := ((i : Int)) + 1) (T rfl rfl) C (wr_i64 (by omega) (by omega))) ?_
       refine lw_v (.int .i64 (((i : Int)) + 1)) (dv_assign (T rfl rfl)) ?_
       refine lw_nil ?_
       obtain ⟨hs48, hq49⟩ := sp_sep (i := i) (by omega) hL hs hq (by first | exact Or.inl (by assumption) | exact Or.inr (by assumption))
       have H50 := (bl_blk x45 (n37.ext.blk H29) (by omega))
       exact ih19 (L.length - ((i + 1))) _ _ (by rw [hd31]; omega) ⟨(i + 1), Ad41, c42, (PS ++ [[]]), ((MS ++ ((L.take (((i) + 1))).drop i))), rfl, f22, f23, f24, (congrArg (fun n_ => Value.slice _ n_ _) (by simp)), rfl, (vi (by omega)), E47, H50, hO44, (by omega), hs48, hq49⟩
     · refine lw_vy (.string (bOf L)) (d := 29) rfl rfl (congrArg Value.bool (decide_eq_false hb34)) (dv_move (T rfl f22)) ?_
       refine lw_vy (.int .i64 ((i : Int))) (d := 29) rfl rfl (congrArg Value.bool (decide_eq_false hb34)) (dv_move (T rfl f27)) ?_
       have bg51 := okW.getD (hL) (by decide) i
       refine lw_vy (.int .u8 (L.getD i 0)) (d := 29) rfl rfl (congrArg Value.bool (decide_eq_false hb34)) (dv_indexS (L := L) (i := i) (j := (i : Int)) ut9 (T rfl rfl) (T rfl rfl) (hL) (by omega) (by first | omega | (simp; done) | (simp; omega))) ?_
       refine lw_vy (.bool (decide ((L.getD i 0) = 47))) (d := 29) rfl rfl (congrArg Value.bool (decide_eq_false hb34)) (dv_eql (a := L.getD i 0) (b := 47) (T rfl rfl) C) ?_
       refine lw_v (.bool (decide ((L.getD i 0) = 47))) (dv_pick_f (T rfl (congrArg Value.bool (decide_eq_false hb34))) (T rfl rfl)) ?_
       refine lw_nil ?_
       by_cases hb52 : (L.getD i 0) = 47
       · refine rk_ct (T rfl (congrArg Value.bool (decide_eq_true hb52))) ?_
         refine rk_seq ?_
         refine rk_reg ?_
         refine lw_v (.string (bOf MS)) (dv_move (T rfl f26)) ?_
         refine lw_v (.string (bOf L)) (dv_move (T rfl f22)) ?_
         refine lw_v (.int .i64 ((i : Int))) (dv_move (T rfl f27)) ?_
         refine lw_v (.int .i64 ((i : Int))) (dv_move (T rfl f27)) ?_
         refine lw_v (.int .i64 (((i : Int)) + 1)) (dv_add (a := (i : Int)) (b := 1) (z := ((i : Int)) + 1) (T rfl rfl) C (wr_i64 (by omega) (by omega))) ?_
         refine lw_v (.string (bOf ((L.take (((i) + 1))).drop i))) (dv_sliceSb (L := L) (i := i) (i' := ((i) + 1)) (j := (i : Int)) (j' := ((i : Int)) + 1) ut9 (T rfl rfl) (T rfl rfl) (T rfl rfl) (by omega) (by omega) (by first | omega | (simp; done) | (simp; omega)) (by first | omega | (simp; done) | (simp; omega))) ?_
         refine lw_v (.string (bOf (MS ++ ((L.take (((i) + 1))).drop i)))) (dv_addS (L := MS) (M := ((L.take (((i) + 1))).drop i)) (T rfl rfl) (T rfl rfl) (by first | omega | exact Nat.le_trans (rows_get hr _).2 (by decide) | exact Nat.le_trans (rows_get hr2 _).2 (by decide) | (have h1_ := (hq.get (PS.length - 1)).2; rw [one_slice (by omega)]; simp only [List.length_cons, List.length_nil]; omega) | (simp; omega))) ?_
         refine lw_v (.string (bOf (MS ++ ((L.take (((i) + 1))).drop i)))) (dv_assign (T rfl rfl)) ?_
         refine lw_nil ?_
         refine rk_reg ?_
         refine lw_v (.slice Ad (PS.length) cp) (dv_move (T rfl f25)) ?_
         refine lw_e (oe_buildSlice (pv := [(0, .string (bOf []))]) (init := [.string ⟨#[]⟩]) (l := [.string (bOf [])]) us83 sz9 rfl rfl zc9 (by kernel_rfl) ⟨rfl, C, trivial⟩ rfl ?_)
         intro b53 w54 n55
         have N56 : w.heap.size ≤ b53 := n55.eq ▸ E28.size
         have : b1 < b53 := n55.eq ▸ lt_of_blk H29
         have E57 := below_ext E28 E28.size n55.ext
         have h58 := (h30.ext n55.ext)
         refine lw_e (oe_appendS (base := b11) (L := PS) (M := []) us83 in9 (T rfl rfl) (T rfl rfl) h58 n55.blk (by first | omega | (simp; done) | (simp; omega)) (by first | omega | (simp; done) | (simp; omega)) ?_)
         intro Ad59 c60 w61 hO62 x63 bt64
         have E65 := below_bl E57 N14 x63
         refine lw_v (.slice Ad59 ((PS ++ [[]]).length) c60) (dv_assign (T rfl rfl)) ?_
         refine lw_nil ?_
         refine rk_inBlock ?_
         refine rk_reg ?_
         refine lw_v (.int .i64 ((i : Int))) (dv_move (T rfl f27)) ?_
         refine lw_v (.int .i64 (((i : Int)) + 1)) (dv_add (a := (i : Int)) (b := 1) (z := ((i : Int)) + 1) (T rfl rfl) C (wr_i64 (by omega) (by omega))) ?_
         refine lw_v (.int .i64 (((i : Int)) + 1)) (dv_assign (T rfl rfl)) ?_
         refine lw_nil ?_
         obtain ⟨hs66, hq67⟩ := sp_sep (i := i) (by omega) hL hs hq (by first | exact Or.inl (by assumption) | exact Or.inr (by assumption))
         have H68 := (bl_blk x63 (n55.ext.blk H29) (by omega))
         exact ih19 (L.length - ((i + 1))) _ _ (by rw [hd31]; omega) ⟨(i + 1), Ad59, c60, (PS ++ [[]]), ((MS ++ ((L.take (((i) + 1))).drop i))), rfl, f22, f23, f24, (congrArg (fun n_ => Value.slice _ n_ _) (by simp)), rfl, (vi (by omega)), E65, H68, hO62, (by omega), hs66, hq67⟩
       · refine rk_cf (T rfl (congrArg Value.bool (decide_eq_false hb52))) ?_
         refine rk_any (fun w => Ors w b11 9 Ad cp PS) [17] mo ?_
         intro w69 d70
         have E71 := below_ext E28 E28.size d70.ext
         have h72 := (h30.ext d70.ext)
         refine aw_pure 0 (.slice Ad (PS.length) cp) rfl (by kernel_rfl) .none h72 (fun _ => dv_move (T rfl f25)) ?_
         refine aw_pure 1 (.slice Ad (PS.length) cp) rfl (by kernel_rfl) .none h72 (fun _ => dv_move (T rfl f25)) ?_
         refine aw_pure 2 (.int .i64 ((PS.length : Int))) rfl (by kernel_rfl) .none h72 (fun _ => dv_len (ad := Ad) (l := PS.length) (c := cp) us83 (T rfl rfl)) ?_
         refine aw_pure 3 (.int .i64 (((PS.length : Int)) - 1)) rfl (by kernel_rfl) .none h72 (fun _ => dv_sub (a := (PS.length : Int)) (b := 1) (z := ((PS.length : Int)) - 1) (T rfl rfl) C (wr_i64 (by omega) (by omega))) ?_
         refine aw_pure 4 (.slice Ad (PS.length) cp) rfl (by kernel_rfl) .none h72 (fun _ => dv_move (T rfl f25)) ?_
         refine aw_pure 5 (.slice Ad (PS.length) cp) rfl (by kernel_rfl) .none h72 (fun _ => dv_move (T rfl f25)) ?_
         refine aw_pure 6 (.int .i64 ((PS.length : Int))) rfl (by kernel_rfl) .none h72 (fun _ => dv_len (ad := Ad) (l := PS.length) (c := cp) us83 (T rfl rfl)) ?_
         refine aw_pure 7 (.int .i64 (((PS.length : Int)) - 1)) rfl (by kernel_rfl) .none h72 (fun _ => dv_sub (a := (PS.length : Int)) (b := 1) (z := ((PS.length : Int)) - 1) (T rfl rfl) C (wr_i64 (by omega) (by omega))) ?_
         obtain ⟨g73, o74, rfl⟩ := Ors.at h72 (by first | omega | (simp; done) | (simp; omega))
         refine aw_pure 8 (.pointer (some ⟨g73, o74 + ((PS.length) - 1), none⟩)) rfl (by kernel_rfl) .none h72 (fun _ => dv_indexW (g := g73) (o := o74) (l := PS.length) (c := cp) (i := ((PS.length) - 1)) (j := ((PS.length : Int)) - 1) us83 sz9 (T rfl rfl) (T rfl rfl) (by omega) (by first | omega | (simp; done) | (simp; omega))) ?_
         refine aw_pure 10 (.string (bOf L)) rfl (by kernel_rfl) .none h72 (fun _ => dv_move (T rfl f22)) ?_
         refine aw_pure 11 (.int .i64 ((i : Int))) rfl (by kernel_rfl) .none h72 (fun _ => dv_move (T rfl f27)) ?_
         refine aw_pure 12 (.int .i64 ((i : Int))) rfl (by kernel_rfl) .none h72 (fun _ => dv_move (T rfl f27)) ?_
         refine aw_pure 13 (.int .i64 (((i : Int)) + 1)) rfl (by kernel_rfl) .none h72 (fun _ => dv_add (a := (i : Int)) (b := 1) (z := ((i : Int)) + 1) (T rfl rfl) C (wr_i64 (by omega) (by omega))) ?_
         refine aw_pure 14 (.string (bOf ((L.take (((i) + 1))).drop i))) rfl (by kernel_rfl) .none h72 (fun _ => dv_sliceSb (L := L) (i := i) (i' := ((i) + 1)) (j := (i : Int)) (j' := ((i : Int)) + 1) ut9 (T rfl rfl) (T rfl rfl) (T rfl rfl) (by omega) (by omega) (by first | omega | (simp; done) | (simp; omega)) (by first | omega | (simp; done) | (simp; omega))) ?_
         refine aw_one 9 rfl (by kernel_rfl) .none (DV.oe (dv_load agt9 (T rfl rfl) (Ors.cell h72 (by first | omega | (simp; done) | (simp; omega)))) ?_)
         refine ⟨.inr h72, ?_⟩
         refine aw_pure 15 (.string (bOf ((PS.getD (((PS.length) - 1)) []) ++ ((L.take (((i) + 1))).drop i)))) rfl (by kernel_rfl) .none h72 (fun _ => dv_addS (L := (PS.getD (((PS.length) - 1)) [])) (M := ((L.take (((i) + 1))).drop i)) (T rfl rfl) (T rfl rfl) (by first | omega | exact Nat.le_trans (rows_get hr _).2 (by decide) | exact Nat.le_trans (rows_get hr2 _).2 (by decide) | (have h1_ := (hq.get (PS.length - 1)).2; rw [one_slice (by omega)]; simp only [List.length_cons, List.length_nil]; omega) | (simp; omega))) ?_
         refine aw_pure 16 (.pointer (some ⟨g73, o74 + ((PS.length) - 1), none⟩)) rfl (by kernel_rfl) .none h72 (fun _ => dv_indexW (g := g73) (o := o74) (l := PS.length) (c := cp) (i := ((PS.length) - 1)) (j := ((PS.length : Int)) - 1) us83 sz9 (T rfl rfl) (T rfl rfl) (by omega) (by first | omega | (simp; done) | (simp; omega))) ?_
         refine aw_one 17 rfl (by kernel_rfl) .none (oe_storeOs (base := b11) (L := PS) (M := ((PS.getD (((PS.length) - 1)) []) ++ ((L.take (((i) + 1))).drop i))) (g := g73) (o := o74) (i := ((PS.length) - 1)) sz9 (T rfl rfl) (T rfl rfl) h72 (by first | omega | (simp; done) | (simp; omega)) ?_)
         intro w75 hO76 x77
         have E78 := below_bl E71 N14 x77
         refine ⟨.inl rfl, ?_⟩
         refine aw_done (by kernel_rfl) ?_
         refine rk_inBlock ?_
         refine rk_reg ?_
         refine lw_v (.int .i64 ((i : Int))) (dv_move (T rfl f27)) ?_
         refine lw_v (.int .i64 (((i : Int)) + 1)) (dv_add (a := (i : Int)) (b := 1) (z := ((i : Int)) + 1) (T rfl rfl) C (wr_i64 (by omega) (by omega))) ?_
         refine lw_v (.int .i64 (((i : Int)) + 1)) (dv_assign (T rfl rfl)) ?_
         refine lw_nil ?_
         obtain ⟨hs79, hq80⟩ := sp_no (i := i) (by omega) hL hs hq (fun hh_ => hh_.elim (by assumption) (by assumption))
         have H81 := (bl_blk x77 (d70.ext.blk H29) (by omega))
         exact ih19 (L.length - ((i + 1))) _ _ (by rw [hd31]; omega) ⟨(i + 1), (some ⟨g73, o74, none⟩), cp, (PS.set (((PS.length) - 1)) (((PS.getD (((PS.length) - 1)) []) ++ ((L.take (((i) + 1))).drop i)))), MS, rfl, f22, f23, f24, (f25.trans (congrArg (fun n_ => Value.slice _ n_ _) (by simp))), f26, (vi (by omega)), E78, H81, hO76, (by omega), hs79, hq80⟩
   · refine rk_cf (T rfl (congrArg Value.bool (decide_eq_false hb32))) ?_
     refine rk_exit rfl ?_
     refine rk_seq ?_
     refine rk_seq ?_
     have hs2 : spl L = (PS, MS) := by have h1_ := hs; rw [List.take_of_length_le (by omega)] at h1_; exact h1_
     have hr := rows_w hq.2.2.1 (m := 1000) (by omega)
     have hr2 := rows_app (M := [49]) hr ⟨okC_lit _ (by decide), by decide⟩
     refine rk_reg ?_
     refine lw_v (.string (bOf MS)) (dv_move (T rfl f26)) ?_
     refine lw_v (.bool (decide ((MS : List Int) = ([44])))) (dv_eqS (L := MS) (M := [44]) (T rfl rfl) C ((hq.2.2.2.1)) ((okC_lit [44] (by decide)))) ?_
     refine lw_nil ?_
     by_cases hb82 : (MS : List Int) = ([44])
     · have hPl : PS.length = 2 ∧ MS.length = 1 := by have h1_ := hq.1; rw [hb82] at h1_ ⊢; exact ⟨by simpa using h1_, rfl⟩
       have hPl1 := hPl.1; have hPl2 := hPl.2
       refine rk_ct (T rfl (congrArg Value.bool (decide_eq_true hb82))) ?_
       refine rk_reg ?_
       refine lw_v (.slice Ad (PS.length) cp) (dv_move (T rfl f25)) ?_
       refine lw_e (oe_buildSlice (pv := [(0, .string (bOf [49]))]) (init := [.string ⟨#[]⟩]) (l := [.string (bOf [49])]) us83 sz9 rfl rfl zc9 (by kernel_rfl) ⟨rfl, C, trivial⟩ rfl ?_)
       intro b83 w84 n85
       have N86 : w.heap.size ≤ b83 := n85.eq ▸ E28.size
       have : b1 < b83 := n85.eq ▸ lt_of_blk H29
       have E87 := below_ext E28 E28.size n85.ext
       have h88 := (h30.ext n85.ext)
       refine lw_e (oe_appendS (base := b11) (L := PS) (M := [49]) us83 in9 (T rfl rfl) (T rfl rfl) h88 n85.blk (by first | omega | (simp; done) | (simp; omega)) (by first | omega | (simp; done) | (simp; omega)) ?_)
       intro Ad89 c90 w91 hO92 x93 bt94
       have E95 := below_bl E87 N14 x93
       generalize hPT : (PS ++ [[49]]) = PT at hO92 hr2 ⊢
       have hPTl : PT.length = PS.length + 1 := by rw [← hPT]; simp
       refine lw_v (.slice Ad89 (PT.length) c90) (dv_assign (T rfl rfl)) ?_
       refine lw_nil ?_
       refine rk_seq ?_
       refine rk_reg ?_
       refine lw_v (.slice Ad89 (PT.length) c90) (dv_move (T rfl rfl)) ?_
       obtain ⟨g96, o97, rfl⟩ := Ors.at hO92 (by first | omega | (simp; done) | (simp; omega))
       refine lw_v (.pointer (some ⟨g96, o97 + 0, none⟩)) (dv_indexW (g := g96) (o := o97) (l := PT.length) (c := c90) (i := 0) (j := 0) us83 sz9 (T rfl rfl) C (by omega) (by first | omega | (simp; done) | (simp; omega))) ?_
       refine lw_v (.string (bOf (PT.getD 0 []))) (dv_load agt9 (T rfl rfl) (Ors.cell hO92 (by first | omega | (simp; done) | (simp; omega)))) ?_
       refine lw_e (oe_callf (vs := [.string (bOf (PT.getD 0 []))]) co23 (ar1 (T rfl rfl)) (sReadWide_ok (rows_get hr2 0).1 (by first | omega | exact Nat.le_trans (rows_get hr _).2 (by decide) | exact Nat.le_trans (rows_get hr2 _).2 (by decide) | (have h1_ := (hq.get (PS.length - 1)).2; rw [one_slice (by omega)]; simp only [List.length_cons, List.length_nil]; omega) | (simp; omega))) ?_)
       rintro _ w98 ⟨rfl, e99⟩
       have E100 := below_ext E95 E95.size e99
       refine lw_v (.tuple #[.agg #[.int .u64 (wv3 (rdZ (PT.getD 0 []))), .int .u64 (wv2 (rdZ (PT.getD 0 []))), .int .u64 (wv1 (rdZ (PT.getD 0 []))), .int .u64 (wv0 (rdZ (PT.getD 0 [])))], .bool (decide (rdS (PT.getD 0 [])))]) (dv_move (T rfl rfl)) ?_
       refine lw_v (.agg #[.int .u64 (wv3 (rdZ (PT.getD 0 []))), .int .u64 (wv2 (rdZ (PT.getD 0 []))), .int .u64 (wv1 (rdZ (PT.getD 0 []))), .int .u64 (wv0 (rdZ (PT.getD 0 [])))]) (dv_extract (vs := #[.agg #[.int .u64 (wv3 (rdZ (PT.getD 0 []))), .int .u64 (wv2 (rdZ (PT.getD 0 []))), .int .u64 (wv1 (rdZ (PT.getD 0 []))), .int .u64 (wv0 (rdZ (PT.getD 0 [])))], .bool (decide (rdS (PT.getD 0 [])))]) (T rfl rfl) rfl) ?_
       refine lw_v (.bool (decide (rdS (PT.getD 0 [])))) (dv_extract (vs := #[.agg #[.int .u64 (wv3 (rdZ (PT.getD 0 []))), .int .u64 (wv2 (rdZ (PT.getD 0 []))), .int .u64 (wv1 (rdZ (PT.getD 0 []))), .int .u64 (wv0 (rdZ (PT.getD 0 [])))], .bool (decide (rdS (PT.getD 0 [])))]) (T rfl rfl) rfl) ?_
       refine lw_e (oe_alloc ze26 ?_)
       intro b101 w102 n103
       have N104 : w.heap.size ≤ b101 := n103.eq ▸ E100.size
       have H105 := (e99.blk (bl_blk x93 (n85.ext.blk H29) (by omega)))
       have : b1 < b101 := n103.eq ▸ lt_of_blk H105
       have E106 := below_ext E100 E100.size n103.ext
       refine lw_e (oe_store (v := .agg #[.int .u64 (wv3 (rdZ (PT.getD 0 []))), .int .u64 (wv2 (rdZ (PT.getD 0 []))), .int .u64 (wv1 (rdZ (PT.getD 0 []))), .int .u64 (wv0 (rdZ (PT.getD 0 [])))]) (vs := [.int .u64 (wv3 (rdZ (PT.getD 0 []))), .int .u64 (wv2 (rdZ (PT.getD 0 []))), .int .u64 (wv1 (rdZ (PT.getD 0 []))), .int .u64 (wv0 (rdZ (PT.getD 0 [])))]) (l := [.int .u64 (wv3 (rdZ (PT.getD 0 []))), .int .u64 (wv2 (rdZ (PT.getD 0 []))), .int .u64 (wv1 (rdZ (PT.getD 0 []))), .int .u64 (wv0 (rdZ (PT.getD 0 [])))]) (T rfl rfl) (T rfl rfl) sz26 rfl rfl rfl n103.blk rfl ?_)
       intro w107 s108 H109
       have E110 := below_st E106 N104 s108
       refine lw_v (.bool (decide (rdS (PT.getD 0 [])))) (dv_assign (T rfl rfl)) ?_
       refine lw_nil ?_
       refine rk_seq ?_
       refine rk_reg ?_
       refine lw_v (.slice (some ⟨g96, o97, none⟩) (PT.length) c90) (dv_move (T rfl rfl)) ?_
       refine lw_v (.pointer (some ⟨g96, o97 + 1, none⟩)) (dv_indexW (g := g96) (o := o97) (l := PT.length) (c := c90) (i := 1) (j := 1) us83 sz9 (T rfl rfl) C (by omega) (by first | omega | (simp; done) | (simp; omega))) ?_
       have h111 := (((hO92.ext e99).ext n103.ext).st s108 n103.blk (by decide))
       refine lw_v (.string (bOf (PT.getD 1 []))) (dv_load agt9 (T rfl rfl) (Ors.cell h111 (by first | omega | (simp; done) | (simp; omega)))) ?_
       refine lw_e (oe_callf (vs := [.string (bOf (PT.getD 1 []))]) co23 (ar1 (T rfl rfl)) (sReadWide_ok (rows_get hr2 1).1 (by first | omega | exact Nat.le_trans (rows_get hr _).2 (by decide) | exact Nat.le_trans (rows_get hr2 _).2 (by decide) | (have h1_ := (hq.get (PS.length - 1)).2; rw [one_slice (by omega)]; simp only [List.length_cons, List.length_nil]; omega) | (simp; omega))) ?_)
       rintro _ w112 ⟨rfl, e113⟩
       have E114 := below_ext E110 E110.size e113
       refine lw_v (.tuple #[.agg #[.int .u64 (wv3 (rdZ (PT.getD 1 []))), .int .u64 (wv2 (rdZ (PT.getD 1 []))), .int .u64 (wv1 (rdZ (PT.getD 1 []))), .int .u64 (wv0 (rdZ (PT.getD 1 [])))], .bool (decide (rdS (PT.getD 1 [])))]) (dv_move (T rfl rfl)) ?_
       refine lw_v (.agg #[.int .u64 (wv3 (rdZ (PT.getD 1 []))), .int .u64 (wv2 (rdZ (PT.getD 1 []))), .int .u64 (wv1 (rdZ (PT.getD 1 []))), .int .u64 (wv0 (rdZ (PT.getD 1 [])))]) (dv_extract (vs := #[.agg #[.int .u64 (wv3 (rdZ (PT.getD 1 []))), .int .u64 (wv2 (rdZ (PT.getD 1 []))), .int .u64 (wv1 (rdZ (PT.getD 1 []))), .int .u64 (wv0 (rdZ (PT.getD 1 [])))], .bool (decide (rdS (PT.getD 1 [])))]) (T rfl rfl) rfl) ?_
       refine lw_v (.bool (decide (rdS (PT.getD 1 [])))) (dv_extract (vs := #[.agg #[.int .u64 (wv3 (rdZ (PT.getD 1 []))), .int .u64 (wv2 (rdZ (PT.getD 1 []))), .int .u64 (wv1 (rdZ (PT.getD 1 []))), .int .u64 (wv0 (rdZ (PT.getD 1 [])))], .bool (decide (rdS (PT.getD 1 [])))]) (T rfl rfl) rfl) ?_
       refine lw_e (oe_alloc ze26 ?_)
       intro b115 w116 n117
       have N118 : w.heap.size ≤ b115 := n117.eq ▸ E114.size
       have H119 := (e113.blk H109)
       have : b101 < b115 := n117.eq ▸ lt_of_blk H119
       have E120 := below_ext E114 E114.size n117.ext
       refine lw_e (oe_store (v := .agg #[.int .u64 (wv3 (rdZ (PT.getD 1 []))), .int .u64 (wv2 (rdZ (PT.getD 1 []))), .int .u64 (wv1 (rdZ (PT.getD 1 []))), .int .u64 (wv0 (rdZ (PT.getD 1 [])))]) (vs := [.int .u64 (wv3 (rdZ (PT.getD 1 []))), .int .u64 (wv2 (rdZ (PT.getD 1 []))), .int .u64 (wv1 (rdZ (PT.getD 1 []))), .int .u64 (wv0 (rdZ (PT.getD 1 [])))]) (l := [.int .u64 (wv3 (rdZ (PT.getD 1 []))), .int .u64 (wv2 (rdZ (PT.getD 1 []))), .int .u64 (wv1 (rdZ (PT.getD 1 []))), .int .u64 (wv0 (rdZ (PT.getD 1 [])))]) (T rfl rfl) (T rfl rfl) sz26 rfl rfl rfl n117.blk rfl ?_)
       intro w121 s122 H123
       have E124 := below_st E120 N118 s122
       refine lw_v (.bool (decide (rdS (PT.getD 1 [])))) (dv_assign (T rfl rfl)) ?_
       refine lw_nil ?_
       refine rk_seq ?_
       refine rk_reg ?_
       refine lw_v (.slice (some ⟨g96, o97, none⟩) (PT.length) c90) (dv_move (T rfl rfl)) ?_
       refine lw_v (.pointer (some ⟨g96, o97 + 2, none⟩)) (dv_indexW (g := g96) (o := o97) (l := PT.length) (c := c90) (i := 2) (j := 2) us83 sz9 (T rfl rfl) C (by omega) (by first | omega | (simp; done) | (simp; omega))) ?_
       have h125 := (((h111.ext e113).ext n117.ext).st s122 n117.blk (by decide))
       refine lw_v (.string (bOf (PT.getD 2 []))) (dv_load agt9 (T rfl rfl) (Ors.cell h125 (by first | omega | (simp; done) | (simp; omega)))) ?_
       refine lw_e (oe_callf (vs := [.string (bOf (PT.getD 2 []))]) co23 (ar1 (T rfl rfl)) (sReadWide_ok (rows_get hr2 2).1 (by first | omega | exact Nat.le_trans (rows_get hr _).2 (by decide) | exact Nat.le_trans (rows_get hr2 _).2 (by decide) | (have h1_ := (hq.get (PS.length - 1)).2; rw [one_slice (by omega)]; simp only [List.length_cons, List.length_nil]; omega) | (simp; omega))) ?_)
       rintro _ w126 ⟨rfl, e127⟩
       have E128 := below_ext E124 E124.size e127
       refine lw_v (.tuple #[.agg #[.int .u64 (wv3 (rdZ (PT.getD 2 []))), .int .u64 (wv2 (rdZ (PT.getD 2 []))), .int .u64 (wv1 (rdZ (PT.getD 2 []))), .int .u64 (wv0 (rdZ (PT.getD 2 [])))], .bool (decide (rdS (PT.getD 2 [])))]) (dv_move (T rfl rfl)) ?_
       refine lw_v (.agg #[.int .u64 (wv3 (rdZ (PT.getD 2 []))), .int .u64 (wv2 (rdZ (PT.getD 2 []))), .int .u64 (wv1 (rdZ (PT.getD 2 []))), .int .u64 (wv0 (rdZ (PT.getD 2 [])))]) (dv_extract (vs := #[.agg #[.int .u64 (wv3 (rdZ (PT.getD 2 []))), .int .u64 (wv2 (rdZ (PT.getD 2 []))), .int .u64 (wv1 (rdZ (PT.getD 2 []))), .int .u64 (wv0 (rdZ (PT.getD 2 [])))], .bool (decide (rdS (PT.getD 2 [])))]) (T rfl rfl) rfl) ?_
       refine lw_v (.bool (decide (rdS (PT.getD 2 [])))) (dv_extract (vs := #[.agg #[.int .u64 (wv3 (rdZ (PT.getD 2 []))), .int .u64 (wv2 (rdZ (PT.getD 2 []))), .int .u64 (wv1 (rdZ (PT.getD 2 []))), .int .u64 (wv0 (rdZ (PT.getD 2 [])))], .bool (decide (rdS (PT.getD 2 [])))]) (T rfl rfl) rfl) ?_
       refine lw_e (oe_alloc ze26 ?_)
       intro b129 w130 n131
       have N132 : w.heap.size ≤ b129 := n131.eq ▸ E128.size
       have H133 := (e127.blk H123)
       have : b115 < b129 := n131.eq ▸ lt_of_blk H133
       have E134 := below_ext E128 E128.size n131.ext
       refine lw_e (oe_store (v := .agg #[.int .u64 (wv3 (rdZ (PT.getD 2 []))), .int .u64 (wv2 (rdZ (PT.getD 2 []))), .int .u64 (wv1 (rdZ (PT.getD 2 []))), .int .u64 (wv0 (rdZ (PT.getD 2 [])))]) (vs := [.int .u64 (wv3 (rdZ (PT.getD 2 []))), .int .u64 (wv2 (rdZ (PT.getD 2 []))), .int .u64 (wv1 (rdZ (PT.getD 2 []))), .int .u64 (wv0 (rdZ (PT.getD 2 [])))]) (l := [.int .u64 (wv3 (rdZ (PT.getD 2 []))), .int .u64 (wv2 (rdZ (PT.getD 2 []))), .int .u64 (wv1 (rdZ (PT.getD 2 []))), .int .u64 (wv0 (rdZ (PT.getD 2 [])))]) (T rfl rfl) (T rfl rfl) sz26 rfl rfl rfl n131.blk rfl ?_)
       intro w135 s136 H137
       have E138 := below_st E134 N132 s136
       refine lw_v (.bool (decide (rdS (PT.getD 2 [])))) (dv_assign (T rfl rfl)) ?_
       refine lw_nil ?_
       refine rk_seq ?_
       refine rk_reg ?_
       have H139 := (s136.blk (n131.ext.blk (e127.blk (s122.blk (n117.ext.blk H119) (by omega)))) (by omega))
       refine lw_v (.agg #[.int .u64 (wv3 (rdZ (PT.getD 0 []))), .int .u64 (wv2 (rdZ (PT.getD 0 []))), .int .u64 (wv1 (rdZ (PT.getD 0 []))), .int .u64 (wv0 (rdZ (PT.getD 0 [])))]) (dv_loads (l := [.int .u64 (wv3 (rdZ (PT.getD 0 []))), .int .u64 (wv2 (rdZ (PT.getD 0 []))), .int .u64 (wv1 (rdZ (PT.getD 0 []))), .int .u64 (wv0 (rdZ (PT.getD 0 [])))]) agt26 sz26 (T rfl rfl) H139 rfl) ?_
       have H140 := (s136.blk (n131.ext.blk H133) (by omega))
       refine lw_v (.agg #[.int .u64 (wv3 (rdZ (PT.getD 1 []))), .int .u64 (wv2 (rdZ (PT.getD 1 []))), .int .u64 (wv1 (rdZ (PT.getD 1 []))), .int .u64 (wv0 (rdZ (PT.getD 1 [])))]) (dv_loads (l := [.int .u64 (wv3 (rdZ (PT.getD 1 []))), .int .u64 (wv2 (rdZ (PT.getD 1 []))), .int .u64 (wv1 (rdZ (PT.getD 1 []))), .int .u64 (wv0 (rdZ (PT.getD 1 [])))]) agt26 sz26 (T rfl rfl) H140 rfl) ?_
       refine lw_v (.agg #[.int .u64 (wv3 (rdZ (PT.getD 2 []))), .int .u64 (wv2 (rdZ (PT.getD 2 []))), .int .u64 (wv1 (rdZ (PT.getD 2 []))), .int .u64 (wv0 (rdZ (PT.getD 2 [])))]) (dv_loads (l := [.int .u64 (wv3 (rdZ (PT.getD 2 []))), .int .u64 (wv2 (rdZ (PT.getD 2 []))), .int .u64 (wv1 (rdZ (PT.getD 2 []))), .int .u64 (wv0 (rdZ (PT.getD 2 [])))]) agt26 sz26 (T rfl rfl) H137 rfl) ?_
       refine lw_v (.agg #[.int .u64 (wv3 (rdZ (PT.getD 0 []))), .int .u64 (wv2 (rdZ (PT.getD 0 []))), .int .u64 (wv1 (rdZ (PT.getD 0 []))), .int .u64 (wv0 (rdZ (PT.getD 0 []))), .int .u64 (wv3 (rdZ (PT.getD 1 []))), .int .u64 (wv2 (rdZ (PT.getD 1 []))), .int .u64 (wv1 (rdZ (PT.getD 1 []))), .int .u64 (wv0 (rdZ (PT.getD 1 []))), .int .u64 (wv3 (rdZ (PT.getD 2 []))), .int .u64 (wv2 (rdZ (PT.getD 2 []))), .int .u64 (wv1 (rdZ (PT.getD 2 []))), .int .u64 (wv0 (rdZ (PT.getD 2 [])))]) (dv_build (pv := [(0, .agg #[.int .u64 (wv3 (rdZ (PT.getD 0 []))), .int .u64 (wv2 (rdZ (PT.getD 0 []))), .int .u64 (wv1 (rdZ (PT.getD 0 []))), .int .u64 (wv0 (rdZ (PT.getD 0 [])))]), (1, .agg #[.int .u64 (wv3 (rdZ (PT.getD 1 []))), .int .u64 (wv2 (rdZ (PT.getD 1 []))), .int .u64 (wv1 (rdZ (PT.getD 1 []))), .int .u64 (wv0 (rdZ (PT.getD 1 [])))]), (2, .agg #[.int .u64 (wv3 (rdZ (PT.getD 2 []))), .int .u64 (wv2 (rdZ (PT.getD 2 []))), .int .u64 (wv1 (rdZ (PT.getD 2 []))), .int .u64 (wv0 (rdZ (PT.getD 2 [])))])]) (l := [.int .u64 (wv3 (rdZ (PT.getD 0 []))), .int .u64 (wv2 (rdZ (PT.getD 0 []))), .int .u64 (wv1 (rdZ (PT.getD 0 []))), .int .u64 (wv0 (rdZ (PT.getD 0 []))), .int .u64 (wv3 (rdZ (PT.getD 1 []))), .int .u64 (wv2 (rdZ (PT.getD 1 []))), .int .u64 (wv1 (rdZ (PT.getD 1 []))), .int .u64 (wv0 (rdZ (PT.getD 1 []))), .int .u64 (wv3 (rdZ (PT.getD 2 []))), .int .u64 (wv2 (rdZ (PT.getD 2 []))), .int .u64 (wv1 (rdZ (PT.getD 2 []))), .int .u64 (wv0 (rdZ (PT.getD 2 [])))]) zc49 pl49 ⟨rfl, (T rfl rfl), ⟨rfl, (T rfl rfl), ⟨rfl, (T rfl rfl), trivial⟩⟩⟩ rfl) ?_
       refine lw_e (oe_alloc ze49 ?_)
       intro b141 w142 n143
       have N144 : w.heap.size ≤ b141 := n143.eq ▸ E138.size
       have : b129 < b141 := n143.eq ▸ lt_of_blk H137
       have E145 := below_ext E138 E138.size n143.ext
       refine lw_e (oe_store (v := .agg #[.int .u64 (wv3 (rdZ (PT.getD 0 []))), .int .u64 (wv2 (rdZ (PT.getD 0 []))), .int .u64 (wv1 (rdZ (PT.getD 0 []))), .int .u64 (wv0 (rdZ (PT.getD 0 []))), .int .u64 (wv3 (rdZ (PT.getD 1 []))), .int .u64 (wv2 (rdZ (PT.getD 1 []))), .int .u64 (wv1 (rdZ (PT.getD 1 []))), .int .u64 (wv0 (rdZ (PT.getD 1 []))), .int .u64 (wv3 (rdZ (PT.getD 2 []))), .int .u64 (wv2 (rdZ (PT.getD 2 []))), .int .u64 (wv1 (rdZ (PT.getD 2 []))), .int .u64 (wv0 (rdZ (PT.getD 2 [])))]) (vs := [.int .u64 (wv3 (rdZ (PT.getD 0 []))), .int .u64 (wv2 (rdZ (PT.getD 0 []))), .int .u64 (wv1 (rdZ (PT.getD 0 []))), .int .u64 (wv0 (rdZ (PT.getD 0 []))), .int .u64 (wv3 (rdZ (PT.getD 1 []))), .int .u64 (wv2 (rdZ (PT.getD 1 []))), .int .u64 (wv1 (rdZ (PT.getD 1 []))), .int .u64 (wv0 (rdZ (PT.getD 1 []))), .int .u64 (wv3 (rdZ (PT.getD 2 []))), .int .u64 (wv2 (rdZ (PT.getD 2 []))), .int .u64 (wv1 (rdZ (PT.getD 2 []))), .int .u64 (wv0 (rdZ (PT.getD 2 [])))]) (l := [.int .u64 (wv3 (rdZ (PT.getD 0 []))), .int .u64 (wv2 (rdZ (PT.getD 0 []))), .int .u64 (wv1 (rdZ (PT.getD 0 []))), .int .u64 (wv0 (rdZ (PT.getD 0 []))), .int .u64 (wv3 (rdZ (PT.getD 1 []))), .int .u64 (wv2 (rdZ (PT.getD 1 []))), .int .u64 (wv1 (rdZ (PT.getD 1 []))), .int .u64 (wv0 (rdZ (PT.getD 1 []))), .int .u64 (wv3 (rdZ (PT.getD 2 []))), .int .u64 (wv2 (rdZ (PT.getD 2 []))), .int .u64 (wv1 (rdZ (PT.getD 2 []))), .int .u64 (wv0 (rdZ (PT.getD 2 [])))]) (T rfl rfl) (T rfl rfl) sz49 rfl rfl rfl n143.blk rfl ?_)
       intro w146 s147 H148
       have E149 := below_st E145 N144 s147
       refine lw_nil ?_
       refine rk_seq ?_
       refine rk_seq ?_
       refine rk_reg ?_
       refine lw_v (.bool (decide (rdS (PT.getD 0 [])))) (dv_move (T rfl rfl)) ?_
       refine lw_v (.bool (decide (¬ (rdS (PT.getD 0 []))))) (dv_notd (p := rdS (PT.getD 0 [])) (T rfl rfl)) ?_
       refine lw_v (.bool (decide (¬ (rdS (PT.getD 0 []))))) (dv_move (T rfl rfl)) ?_
       by_cases hb150 : rdS (PT.getD 0 [])
       · refine lw_vy (.bool (decide (rdS (PT.getD 1 [])))) (d := 97) rfl rfl (congrArg Value.bool (decide_eq_false (not_not_intro hb150))) (dv_move (T rfl rfl)) ?_
         refine lw_vy (.bool (decide (¬ (rdS (PT.getD 1 []))))) (d := 97) rfl rfl (congrArg Value.bool (decide_eq_false (not_not_intro hb150))) (dv_notd (p := rdS (PT.getD 1 [])) (T rfl rfl)) ?_
         refine lw_v (.bool (decide (¬ (rdS (PT.getD 1 []))))) (dv_pick_f (T rfl (congrArg Value.bool (decide_eq_false (not_not_intro hb150)))) (T rfl rfl)) ?_
         refine lw_v (.bool (decide (¬ (rdS (PT.getD 1 []))))) (dv_move (T rfl rfl)) ?_
         by_cases hb151 : rdS (PT.getD 1 [])
         · refine lw_vy (.bool (decide (rdS (PT.getD 2 [])))) (d := 101) rfl rfl (congrArg Value.bool (decide_eq_false (not_not_intro hb151))) (dv_move (T rfl rfl)) ?_
           refine lw_vy (.bool (decide (¬ (rdS (PT.getD 2 []))))) (d := 101) rfl rfl (congrArg Value.bool (decide_eq_false (not_not_intro hb151))) (dv_notd (p := rdS (PT.getD 2 [])) (T rfl rfl)) ?_
           refine lw_v (.bool (decide (¬ (rdS (PT.getD 2 []))))) (dv_pick_f (T rfl (congrArg Value.bool (decide_eq_false (not_not_intro hb151)))) (T rfl rfl)) ?_
           refine lw_v (.bool (decide (¬ (rdS (PT.getD 2 []))))) (dv_move (T rfl rfl)) ?_
           by_cases hb152 : rdS (PT.getD 2 [])
           · refine lw_vy (.agg #[.int .u64 (wv3 (rdZ (PT.getD 0 []))), .int .u64 (wv2 (rdZ (PT.getD 0 []))), .int .u64 (wv1 (rdZ (PT.getD 0 []))), .int .u64 (wv0 (rdZ (PT.getD 0 []))), .int .u64 (wv3 (rdZ (PT.getD 1 []))), .int .u64 (wv2 (rdZ (PT.getD 1 []))), .int .u64 (wv1 (rdZ (PT.getD 1 []))), .int .u64 (wv0 (rdZ (PT.getD 1 []))), .int .u64 (wv3 (rdZ (PT.getD 2 []))), .int .u64 (wv2 (rdZ (PT.getD 2 []))), .int .u64 (wv1 (rdZ (PT.getD 2 []))), .int .u64 (wv0 (rdZ (PT.getD 2 [])))]) (d := 105) rfl rfl (congrArg Value.bool (decide_eq_false (not_not_intro hb152))) (dv_loads (l := [.int .u64 (wv3 (rdZ (PT.getD 0 []))), .int .u64 (wv2 (rdZ (PT.getD 0 []))), .int .u64 (wv1 (rdZ (PT.getD 0 []))), .int .u64 (wv0 (rdZ (PT.getD 0 []))), .int .u64 (wv3 (rdZ (PT.getD 1 []))), .int .u64 (wv2 (rdZ (PT.getD 1 []))), .int .u64 (wv1 (rdZ (PT.getD 1 []))), .int .u64 (wv0 (rdZ (PT.getD 1 []))), .int .u64 (wv3 (rdZ (PT.getD 2 []))), .int .u64 (wv2 (rdZ (PT.getD 2 []))), .int .u64 (wv1 (rdZ (PT.getD 2 []))), .int .u64 (wv0 (rdZ (PT.getD 2 [])))]) agt49 sz49 (T rfl rfl) H148 rfl) ?_
             refine lw_ey (d := 105) rfl rfl (congrArg Value.bool (decide_eq_false (not_not_intro hb152))) (oe_callf (vs := [.agg #[.int .u64 (wv3 (rdZ (PT.getD 0 []))), .int .u64 (wv2 (rdZ (PT.getD 0 []))), .int .u64 (wv1 (rdZ (PT.getD 0 []))), .int .u64 (wv0 (rdZ (PT.getD 0 []))), .int .u64 (wv3 (rdZ (PT.getD 1 []))), .int .u64 (wv2 (rdZ (PT.getD 1 []))), .int .u64 (wv1 (rdZ (PT.getD 1 []))), .int .u64 (wv0 (rdZ (PT.getD 1 []))), .int .u64 (wv3 (rdZ (PT.getD 2 []))), .int .u64 (wv2 (rdZ (PT.getD 2 []))), .int .u64 (wv1 (rdZ (PT.getD 2 []))), .int .u64 (wv0 (rdZ (PT.getD 2 [])))]]) co73 (ar1 (T rfl rfl)) (sPointText_ok (x := rdZ (PT.getD 0 [])) (y := rdZ (PT.getD 1 [])) (u := rdZ (PT.getD 2 [])) (rdZ_f _) (rdZ_f _) (rdZ_f _) ) ?_)
             rintro _ w153 ⟨rfl, e154⟩
             have E155 := below_ext E149 E149.size e154
             refine lw_vy (.string (bOf L)) (d := 105) rfl rfl (congrArg Value.bool (decide_eq_false (not_not_intro hb152))) (dv_move (T rfl f22)) ?_
             refine lw_vy (.bool (decide ((((pTxt (rdZ (PT.getD 0 [])) (rdZ (PT.getD 1 [])) (rdZ (PT.getD 2 [])))) : List Int) ≠ L))) (d := 105) rfl rfl (congrArg Value.bool (decide_eq_false (not_not_intro hb152))) (dv_neS (L := (pTxt (rdZ (PT.getD 0 [])) (rdZ (PT.getD 1 [])) (rdZ (PT.getD 2 [])))) (M := L) (T rfl rfl) (T rfl rfl) ((okC_pTxt _ _ _)) ((hL))) ?_
             refine lw_v (.bool (decide ((((pTxt (rdZ (PT.getD 0 [])) (rdZ (PT.getD 1 [])) (rdZ (PT.getD 2 [])))) : List Int) ≠ L))) (dv_pick_f (T rfl (congrArg Value.bool (decide_eq_false (not_not_intro hb152)))) (T rfl rfl)) ?_
             refine lw_nil ?_
             by_cases hb156 : (((pTxt (rdZ (PT.getD 0 [])) (rdZ (PT.getD 1 [])) (rdZ (PT.getD 2 [])))) : List Int) ≠ L
             · refine rk_ct (T rfl (congrArg Value.bool (decide_eq_true hb156))) ?_
               refine rk_seq ?_
               refine rk_reg ?_
               refine lw_v (.agg #[.int .u64 0, .int .u64 0, .int .u64 0, .int .u64 0, .int .u64 0, .int .u64 0, .int .u64 0, .int .u64 0, .int .u64 0, .int .u64 0, .int .u64 0, .int .u64 0]) (dv_build (pv := []) (l := [.int .u64 0, .int .u64 0, .int .u64 0, .int .u64 0, .int .u64 0, .int .u64 0, .int .u64 0, .int .u64 0, .int .u64 0, .int .u64 0, .int .u64 0, .int .u64 0]) zc49 pl49 trivial rfl) ?_
               have H157 := (e154.blk (s147.blk (n143.ext.blk (s136.blk (n131.ext.blk (e127.blk (s122.blk (n117.ext.blk (e113.blk (s108.blk (n103.ext.blk H105) (by omega)))) (by omega)))) (by omega))) (by omega)))
               refine lw_e (oe_store (v := .agg #[.int .u64 0, .int .u64 0, .int .u64 0, .int .u64 0, .int .u64 0, .int .u64 0, .int .u64 0, .int .u64 0, .int .u64 0, .int .u64 0, .int .u64 0, .int .u64 0]) (vs := [.int .u64 0, .int .u64 0, .int .u64 0, .int .u64 0, .int .u64 0, .int .u64 0, .int .u64 0, .int .u64 0, .int .u64 0, .int .u64 0, .int .u64 0, .int .u64 0]) (l := [.int .u64 0, .int .u64 0, .int .u64 0, .int .u64 0, .int .u64 0, .int .u64 0, .int .u64 0, .int .u64 0, .int .u64 0, .int .u64 0, .int .u64 0, .int .u64 0]) (T rfl f23) (T rfl rfl) sz49 rfl rfl rfl H157 rfl ?_)
               intro w158 s159 H160
               have E161 := below_st E155 N4 s159
               refine lw_v (.bool false) (dv_assign C) ?_
               refine lw_nil ?_
               refine rk_ret Try.func40 (v := .tuple #[.agg #[.int .u64 0, .int .u64 0, .int .u64 0, .int .u64 0, .int .u64 0, .int .u64 0, .int .u64 0, .int .u64 0, .int .u64 0, .int .u64 0, .int .u64 0, .int .u64 0], .bool false]) (res2 Try.results40 (rv_cells (l := [.int .u64 0, .int .u64 0, .int .u64 0, .int .u64 0, .int .u64 0, .int .u64 0, .int .u64 0, .int .u64 0, .int .u64 0, .int .u64 0, .int .u64 0, .int .u64 0]) agt49 sz49 rfl f23 H160 rfl) (rv_tmp rfl rfl)) ⟨_, rfl, ?_⟩
               have hS : ¬ rpS L := fun hh => hb156 (rp_s4 hh hs2 hb82 hPT).2.2.2
               exact ⟨(tu2 (ag12 (vi (wf3 hS)) (vi (wf2 hS)) (vi (wf1 hS)) (vi (wf0 hS)) (vi (wf3 hS)) (vi (wf2 hS)) (vi (wf1 hS)) (vi (wf0 hS)) (vi (wf3 hS)) (vi (wf2 hS)) (vi (wf1 hS)) (vi (wf0 hS))) (vf hS)), E161⟩
             · refine rk_cf (T rfl (congrArg Value.bool (decide_eq_false hb156))) ?_
               refine rk_skip ?_
               refine rk_seq ?_
               refine rk_reg ?_
               have H162 := (e154.blk H148)
               refine lw_v (.agg #[.int .u64 (wv3 (rdZ (PT.getD 0 []))), .int .u64 (wv2 (rdZ (PT.getD 0 []))), .int .u64 (wv1 (rdZ (PT.getD 0 []))), .int .u64 (wv0 (rdZ (PT.getD 0 []))), .int .u64 (wv3 (rdZ (PT.getD 1 []))), .int .u64 (wv2 (rdZ (PT.getD 1 []))), .int .u64 (wv1 (rdZ (PT.getD 1 []))), .int .u64 (wv0 (rdZ (PT.getD 1 []))), .int .u64 (wv3 (rdZ (PT.getD 2 []))), .int .u64 (wv2 (rdZ (PT.getD 2 []))), .int .u64 (wv1 (rdZ (PT.getD 2 []))), .int .u64 (wv0 (rdZ (PT.getD 2 [])))]) (dv_loads (l := [.int .u64 (wv3 (rdZ (PT.getD 0 []))), .int .u64 (wv2 (rdZ (PT.getD 0 []))), .int .u64 (wv1 (rdZ (PT.getD 0 []))), .int .u64 (wv0 (rdZ (PT.getD 0 []))), .int .u64 (wv3 (rdZ (PT.getD 1 []))), .int .u64 (wv2 (rdZ (PT.getD 1 []))), .int .u64 (wv1 (rdZ (PT.getD 1 []))), .int .u64 (wv0 (rdZ (PT.getD 1 []))), .int .u64 (wv3 (rdZ (PT.getD 2 []))), .int .u64 (wv2 (rdZ (PT.getD 2 []))), .int .u64 (wv1 (rdZ (PT.getD 2 []))), .int .u64 (wv0 (rdZ (PT.getD 2 [])))]) agt49 sz49 (T rfl rfl) H162 rfl) ?_
               have H163 := (e154.blk (s147.blk (n143.ext.blk (s136.blk (n131.ext.blk (e127.blk (s122.blk (n117.ext.blk (e113.blk (s108.blk (n103.ext.blk H105) (by omega)))) (by omega)))) (by omega))) (by omega)))
               refine lw_e (oe_store (v := .agg #[.int .u64 (wv3 (rdZ (PT.getD 0 []))), .int .u64 (wv2 (rdZ (PT.getD 0 []))), .int .u64 (wv1 (rdZ (PT.getD 0 []))), .int .u64 (wv0 (rdZ (PT.getD 0 []))), .int .u64 (wv3 (rdZ (PT.getD 1 []))), .int .u64 (wv2 (rdZ (PT.getD 1 []))), .int .u64 (wv1 (rdZ (PT.getD 1 []))), .int .u64 (wv0 (rdZ (PT.getD 1 []))), .int .u64 (wv3 (rdZ (PT.getD 2 []))), .int .u64 (wv2 (rdZ (PT.getD 2 []))), .int .u64 (wv1 (rdZ (PT.getD 2 []))), .int .u64 (wv0 (rdZ (PT.getD 2 [])))]) (vs := [.int .u64 (wv3 (rdZ (PT.getD 0 []))), .int .u64 (wv2 (rdZ (PT.getD 0 []))), .int .u64 (wv1 (rdZ (PT.getD 0 []))), .int .u64 (wv0 (rdZ (PT.getD 0 []))), .int .u64 (wv3 (rdZ (PT.getD 1 []))), .int .u64 (wv2 (rdZ (PT.getD 1 []))), .int .u64 (wv1 (rdZ (PT.getD 1 []))), .int .u64 (wv0 (rdZ (PT.getD 1 []))), .int .u64 (wv3 (rdZ (PT.getD 2 []))), .int .u64 (wv2 (rdZ (PT.getD 2 []))), .int .u64 (wv1 (rdZ (PT.getD 2 []))), .int .u64 (wv0 (rdZ (PT.getD 2 [])))]) (l := [.int .u64 (wv3 (rdZ (PT.getD 0 []))), .int .u64 (wv2 (rdZ (PT.getD 0 []))), .int .u64 (wv1 (rdZ (PT.getD 0 []))), .int .u64 (wv0 (rdZ (PT.getD 0 []))), .int .u64 (wv3 (rdZ (PT.getD 1 []))), .int .u64 (wv2 (rdZ (PT.getD 1 []))), .int .u64 (wv1 (rdZ (PT.getD 1 []))), .int .u64 (wv0 (rdZ (PT.getD 1 []))), .int .u64 (wv3 (rdZ (PT.getD 2 []))), .int .u64 (wv2 (rdZ (PT.getD 2 []))), .int .u64 (wv1 (rdZ (PT.getD 2 []))), .int .u64 (wv0 (rdZ (PT.getD 2 [])))]) (T rfl f23) (T rfl rfl) sz49 rfl rfl rfl H163 rfl ?_)
               intro w164 s165 H166
               have E167 := below_st E155 N4 s165
               refine lw_v (.bool true) (dv_assign C) ?_
               refine lw_nil ?_
               refine rk_ret Try.func40 (v := .tuple #[.agg #[.int .u64 (wv3 (rdZ (PT.getD 0 []))), .int .u64 (wv2 (rdZ (PT.getD 0 []))), .int .u64 (wv1 (rdZ (PT.getD 0 []))), .int .u64 (wv0 (rdZ (PT.getD 0 []))), .int .u64 (wv3 (rdZ (PT.getD 1 []))), .int .u64 (wv2 (rdZ (PT.getD 1 []))), .int .u64 (wv1 (rdZ (PT.getD 1 []))), .int .u64 (wv0 (rdZ (PT.getD 1 []))), .int .u64 (wv3 (rdZ (PT.getD 2 []))), .int .u64 (wv2 (rdZ (PT.getD 2 []))), .int .u64 (wv1 (rdZ (PT.getD 2 []))), .int .u64 (wv0 (rdZ (PT.getD 2 [])))], .bool true]) (res2 Try.results40 (rv_cells (l := [.int .u64 (wv3 (rdZ (PT.getD 0 []))), .int .u64 (wv2 (rdZ (PT.getD 0 []))), .int .u64 (wv1 (rdZ (PT.getD 0 []))), .int .u64 (wv0 (rdZ (PT.getD 0 []))), .int .u64 (wv3 (rdZ (PT.getD 1 []))), .int .u64 (wv2 (rdZ (PT.getD 1 []))), .int .u64 (wv1 (rdZ (PT.getD 1 []))), .int .u64 (wv0 (rdZ (PT.getD 1 []))), .int .u64 (wv3 (rdZ (PT.getD 2 []))), .int .u64 (wv2 (rdZ (PT.getD 2 []))), .int .u64 (wv1 (rdZ (PT.getD 2 []))), .int .u64 (wv0 (rdZ (PT.getD 2 [])))]) agt49 sz49 rfl f23 H166 rfl) (rv_tmp rfl rfl)) ⟨_, rfl, ?_⟩
               have hR := rp_i1 (ne_s hs2 (by omega)) (Decidable.not_not.1 hb156)
               exact ⟨(tu2 (ag12 (vi (congrArg wv3 ((pkz_t hR.1).trans hR.2.1).symm)) (vi (congrArg wv2 ((pkz_t hR.1).trans hR.2.1).symm)) (vi (congrArg wv1 ((pkz_t hR.1).trans hR.2.1).symm)) (vi (congrArg wv0 ((pkz_t hR.1).trans hR.2.1).symm)) (vi (congrArg wv3 ((pkz_t hR.1).trans hR.2.2.1).symm)) (vi (congrArg wv2 ((pkz_t hR.1).trans hR.2.2.1).symm)) (vi (congrArg wv1 ((pkz_t hR.1).trans hR.2.2.1).symm)) (vi (congrArg wv0 ((pkz_t hR.1).trans hR.2.2.1).symm)) (vi (congrArg wv3 ((pkz_t hR.1).trans hR.2.2.2).symm)) (vi (congrArg wv2 ((pkz_t hR.1).trans hR.2.2.2).symm)) (vi (congrArg wv1 ((pkz_t hR.1).trans hR.2.2.2).symm)) (vi (congrArg wv0 ((pkz_t hR.1).trans hR.2.2.2).symm))) (vt hR.1)), E167⟩
           · refine lw_no (d := 105) rfl rfl (congrArg Value.bool (decide_eq_true hb152)) ?_
             refine lw_no (d := 105) rfl rfl (congrArg Value.bool (decide_eq_true hb152)) ?_
             refine lw_no (d := 105) rfl rfl (congrArg Value.bool (decide_eq_true hb152)) ?_
             refine lw_no (d := 105) rfl rfl (congrArg Value.bool (decide_eq_true hb152)) ?_
             refine lw_v (.bool true) (dv_pick_t (T rfl (congrArg Value.bool (decide_eq_true hb152))) C) ?_
             refine lw_nil ?_
             refine rk_ct (T rfl rfl) ?_
             refine rk_seq ?_
             refine rk_reg ?_
             refine lw_v (.agg #[.int .u64 0, .int .u64 0, .int .u64 0, .int .u64 0, .int .u64 0, .int .u64 0, .int .u64 0, .int .u64 0, .int .u64 0, .int .u64 0, .int .u64 0, .int .u64 0]) (dv_build (pv := []) (l := [.int .u64 0, .int .u64 0, .int .u64 0, .int .u64 0, .int .u64 0, .int .u64 0, .int .u64 0, .int .u64 0, .int .u64 0, .int .u64 0, .int .u64 0, .int .u64 0]) zc49 pl49 trivial rfl) ?_
             have H168 := (s147.blk (n143.ext.blk (s136.blk (n131.ext.blk (e127.blk (s122.blk (n117.ext.blk (e113.blk (s108.blk (n103.ext.blk H105) (by omega)))) (by omega)))) (by omega))) (by omega))
             refine lw_e (oe_store (v := .agg #[.int .u64 0, .int .u64 0, .int .u64 0, .int .u64 0, .int .u64 0, .int .u64 0, .int .u64 0, .int .u64 0, .int .u64 0, .int .u64 0, .int .u64 0, .int .u64 0]) (vs := [.int .u64 0, .int .u64 0, .int .u64 0, .int .u64 0, .int .u64 0, .int .u64 0, .int .u64 0, .int .u64 0, .int .u64 0, .int .u64 0, .int .u64 0, .int .u64 0]) (l := [.int .u64 0, .int .u64 0, .int .u64 0, .int .u64 0, .int .u64 0, .int .u64 0, .int .u64 0, .int .u64 0, .int .u64 0, .int .u64 0, .int .u64 0, .int .u64 0]) (T rfl f23) (T rfl rfl) sz49 rfl rfl rfl H168 rfl ?_)
             intro w169 s170 H171
             have E172 := below_st E149 N4 s170
             refine lw_v (.bool false) (dv_assign C) ?_
             refine lw_nil ?_
             refine rk_ret Try.func40 (v := .tuple #[.agg #[.int .u64 0, .int .u64 0, .int .u64 0, .int .u64 0, .int .u64 0, .int .u64 0, .int .u64 0, .int .u64 0, .int .u64 0, .int .u64 0, .int .u64 0, .int .u64 0], .bool false]) (res2 Try.results40 (rv_cells (l := [.int .u64 0, .int .u64 0, .int .u64 0, .int .u64 0, .int .u64 0, .int .u64 0, .int .u64 0, .int .u64 0, .int .u64 0, .int .u64 0, .int .u64 0, .int .u64 0]) agt49 sz49 rfl f23 H171 rfl) (rv_tmp rfl rfl)) ⟨_, rfl, ?_⟩
             have hS : ¬ rpS L := fun hh => hb152 (rp_s4 hh hs2 hb82 hPT).2.2.1
             exact ⟨(tu2 (ag12 (vi (wf3 hS)) (vi (wf2 hS)) (vi (wf1 hS)) (vi (wf0 hS)) (vi (wf3 hS)) (vi (wf2 hS)) (vi (wf1 hS)) (vi (wf0 hS)) (vi (wf3 hS)) (vi (wf2 hS)) (vi (wf1 hS)) (vi (wf0 hS))) (vf hS)), E172⟩
         · refine lw_no (d := 101) rfl rfl (congrArg Value.bool (decide_eq_true hb151)) ?_
           refine lw_no (d := 101) rfl rfl (congrArg Value.bool (decide_eq_true hb151)) ?_
           refine lw_v (.bool true) (dv_pick_t (T rfl (congrArg Value.bool (decide_eq_true hb151))) C) ?_
           refine lw_v (.bool true) (dv_move (T rfl rfl)) ?_
           refine lw_no (d := 105) rfl rfl (rfl) ?_
           refine lw_no (d := 105) rfl rfl (rfl) ?_
           refine lw_no (d := 105) rfl rfl (rfl) ?_
           refine lw_no (d := 105) rfl rfl (rfl) ?_
           refine lw_v (.bool true) (dv_pick_t (T rfl rfl) C) ?_
           refine lw_nil ?_
           refine rk_ct (T rfl rfl) ?_
           refine rk_seq ?_
           refine rk_reg ?_
           refine lw_v (.agg #[.int .u64 0, .int .u64 0, .int .u64 0, .int .u64 0, .int .u64 0, .int .u64 0, .int .u64 0, .int .u64 0, .int .u64 0, .int .u64 0, .int .u64 0, .int .u64 0]) (dv_build (pv := []) (l := [.int .u64 0, .int .u64 0, .int .u64 0, .int .u64 0, .int .u64 0, .int .u64 0, .int .u64 0, .int .u64 0, .int .u64 0, .int .u64 0, .int .u64 0, .int .u64 0]) zc49 pl49 trivial rfl) ?_
           have H173 := (s147.blk (n143.ext.blk (s136.blk (n131.ext.blk (e127.blk (s122.blk (n117.ext.blk (e113.blk (s108.blk (n103.ext.blk H105) (by omega)))) (by omega)))) (by omega))) (by omega))
           refine lw_e (oe_store (v := .agg #[.int .u64 0, .int .u64 0, .int .u64 0, .int .u64 0, .int .u64 0, .int .u64 0, .int .u64 0, .int .u64 0, .int .u64 0, .int .u64 0, .int .u64 0, .int .u64 0]) (vs := [.int .u64 0, .int .u64 0, .int .u64 0, .int .u64 0, .int .u64 0, .int .u64 0, .int .u64 0, .int .u64 0, .int .u64 0, .int .u64 0, .int .u64 0, .int .u64 0]) (l := [.int .u64 0, .int .u64 0, .int .u64 0, .int .u64 0, .int .u64 0, .int .u64 0, .int .u64 0, .int .u64 0, .int .u64 0, .int .u64 0, .int .u64 0, .int .u64 0]) (T rfl f23) (T rfl rfl) sz49 rfl rfl rfl H173 rfl ?_)
           intro w174 s175 H176
           have E177 := below_st E149 N4 s175
           refine lw_v (.bool false) (dv_assign C) ?_
           refine lw_nil ?_
           refine rk_ret Try.func40 (v := .tuple #[.agg #[.int .u64 0, .int .u64 0, .int .u64 0, .int .u64 0, .int .u64 0, .int .u64 0, .int .u64 0, .int .u64 0, .int .u64 0, .int .u64 0, .int .u64 0, .int .u64 0], .bool false]) (res2 Try.results40 (rv_cells (l := [.int .u64 0, .int .u64 0, .int .u64 0, .int .u64 0, .int .u64 0, .int .u64 0, .int .u64 0, .int .u64 0, .int .u64 0, .int .u64 0, .int .u64 0, .int .u64 0]) agt49 sz49 rfl f23 H176 rfl) (rv_tmp rfl rfl)) ⟨_, rfl, ?_⟩
           have hS : ¬ rpS L := fun hh => hb151 (rp_s4 hh hs2 hb82 hPT).2.1
           exact ⟨(tu2 (ag12 (vi (wf3 hS)) (vi (wf2 hS)) (vi (wf1 hS)) (vi (wf0 hS)) (vi (wf3 hS)) (vi (wf2 hS)) (vi (wf1 hS)) (vi (wf0 hS)) (vi (wf3 hS)) (vi (wf2 hS)) (vi (wf1 hS)) (vi (wf0 hS))) (vf hS)), E177⟩
       · refine lw_no (d := 97) rfl rfl (congrArg Value.bool (decide_eq_true hb150)) ?_
         refine lw_no (d := 97) rfl rfl (congrArg Value.bool (decide_eq_true hb150)) ?_
         refine lw_v (.bool true) (dv_pick_t (T rfl (congrArg Value.bool (decide_eq_true hb150))) C) ?_
         refine lw_v (.bool true) (dv_move (T rfl rfl)) ?_
         refine lw_no (d := 101) rfl rfl (rfl) ?_
         refine lw_no (d := 101) rfl rfl (rfl) ?_
         refine lw_v (.bool true) (dv_pick_t (T rfl rfl) C) ?_
         refine lw_v (.bool true) (dv_move (T rfl rfl)) ?_
         refine lw_no (d := 105) rfl rfl (rfl) ?_
         refine lw_no (d := 105) rfl rfl (rfl) ?_
         refine lw_no (d := 105) rfl rfl (rfl) ?_
         refine lw_no (d := 105) rfl rfl (rfl) ?_
         refine lw_v (.bool true) (dv_pick_t (T rfl rfl) C) ?_
         refine lw_nil ?_
         refine rk_ct (T rfl rfl) ?_
         refine rk_seq ?_
         refine rk_reg ?_
         refine lw_v (.agg #[.int .u64 0, .int .u64 0, .int .u64 0, .int .u64 0, .int .u64 0, .int .u64 0, .int .u64 0, .int .u64 0, .int .u64 0, .int .u64 0, .int .u64 0, .int .u64 0]) (dv_build (pv := []) (l := [.int .u64 0, .int .u64 0, .int .u64 0, .int .u64 0, .int .u64 0, .int .u64 0, .int .u64 0, .int .u64 0, .int .u64 0, .int .u64 0, .int .u64 0, .int .u64 0]) zc49 pl49 trivial rfl) ?_
         have H178 := (s147.blk (n143.ext.blk (s136.blk (n131.ext.blk (e127.blk (s122.blk (n117.ext.blk (e113.blk (s108.blk (n103.ext.blk H105) (by omega)))) (by omega)))) (by omega))) (by omega))
         refine lw_e (oe_store (v := .agg #[.int .u64 0, .int .u64 0, .int .u64 0, .int .u64 0, .int .u64 0, .int .u64 0, .int .u64 0, .int .u64 0, .int .u64 0, .int .u64 0, .int .u64 0, .int .u64 0]) (vs := [.int .u64 0, .int .u64 0, .int .u64 0, .int .u64 0, .int .u64 0, .int .u64 0, .int .u64 0, .int .u64 0, .int .u64 0, .int .u64 0, .int .u64 0, .int .u64 0]) (l := [.int .u64 0, .int .u64 0, .int .u64 0, .int .u64 0, .int .u64 0, .int .u64 0, .int .u64 0, .int .u64 0, .int .u64 0, .int .u64 0, .int .u64 0, .int .u64 0]) (T rfl f23) (T rfl rfl) sz49 rfl rfl rfl H178 rfl ?_)
         intro w179 s180 H181
         have E182 := below_st E149 N4 s180
         refine lw_v (.bool false) (dv_assign C) ?_
         refine lw_nil ?_
         refine rk_ret Try.func40 (v := .tuple #[.agg #[.int .u64 0, .int .u64 0, .int .u64 0, .int .u64 0, .int .u64 0, .int .u64 0, .int .u64 0, .int .u64 0, .int .u64 0, .int .u64 0, .int .u64 0, .int .u64 0], .bool false]) (res2 Try.results40 (rv_cells (l := [.int .u64 0, .int .u64 0, .int .u64 0, .int .u64 0, .int .u64 0, .int .u64 0, .int .u64 0, .int .u64 0, .int .u64 0, .int .u64 0, .int .u64 0, .int .u64 0]) agt49 sz49 rfl f23 H181 rfl) (rv_tmp rfl rfl)) ⟨_, rfl, ?_⟩
         have hS : ¬ rpS L := fun hh => hb150 (rp_s4 hh hs2 hb82 hPT).1
         exact ⟨(tu2 (ag12 (vi (wf3 hS)) (vi (wf2 hS)) (vi (wf1 hS)) (vi (wf0 hS)) (vi (wf3 hS)) (vi (wf2 hS)) (vi (wf1 hS)) (vi (wf0 hS)) (vi (wf3 hS)) (vi (wf2 hS)) (vi (wf1 hS)) (vi (wf0 hS))) (vf hS)), E182⟩
     · refine rk_cf (T rfl (congrArg Value.bool (decide_eq_false hb82))) ?_
       refine rk_seq ?_
       refine rk_reg ?_
       refine lw_v (.string (bOf MS)) (dv_move (T rfl f26)) ?_
       refine lw_v (.bool (decide ((MS : List Int) ≠ ([44, 47])))) (dv_neS (L := MS) (M := [44, 47]) (T rfl rfl) C ((hq.2.2.2.1)) ((okC_lit [44, 47] (by decide)))) ?_
       refine lw_nil ?_
       by_cases hb183 : (MS : List Int) ≠ ([44, 47])
       · refine rk_ct (T rfl (congrArg Value.bool (decide_eq_true hb183))) ?_
         refine rk_seq ?_
         refine rk_reg ?_
         refine lw_v (.agg #[.int .u64 0, .int .u64 0, .int .u64 0, .int .u64 0, .int .u64 0, .int .u64 0, .int .u64 0, .int .u64 0, .int .u64 0, .int .u64 0, .int .u64 0, .int .u64 0]) (dv_build (pv := []) (l := [.int .u64 0, .int .u64 0, .int .u64 0, .int .u64 0, .int .u64 0, .int .u64 0, .int .u64 0, .int .u64 0, .int .u64 0, .int .u64 0, .int .u64 0, .int .u64 0]) zc49 pl49 trivial rfl) ?_
         refine lw_e (oe_store (v := .agg #[.int .u64 0, .int .u64 0, .int .u64 0, .int .u64 0, .int .u64 0, .int .u64 0, .int .u64 0, .int .u64 0, .int .u64 0, .int .u64 0, .int .u64 0, .int .u64 0]) (vs := [.int .u64 0, .int .u64 0, .int .u64 0, .int .u64 0, .int .u64 0, .int .u64 0, .int .u64 0, .int .u64 0, .int .u64 0, .int .u64 0, .int .u64 0, .int .u64 0]) (l := [.int .u64 0, .int .u64 0, .int .u64 0, .int .u64 0, .int .u64 0, .int .u64 0, .int .u64 0, .int .u64 0, .int .u64 0, .int .u64 0, .int .u64 0, .int .u64 0]) (T rfl f23) (T rfl rfl) sz49 rfl rfl rfl H29 rfl ?_)
         intro w184 s185 H186
         have E187 := below_st E28 N4 s185
         refine lw_v (.bool false) (dv_assign C) ?_
         refine lw_nil ?_
         refine rk_ret Try.func40 (v := .tuple #[.agg #[.int .u64 0, .int .u64 0, .int .u64 0, .int .u64 0, .int .u64 0, .int .u64 0, .int .u64 0, .int .u64 0, .int .u64 0, .int .u64 0, .int .u64 0, .int .u64 0], .bool false]) (res2 Try.results40 (rv_cells (l := [.int .u64 0, .int .u64 0, .int .u64 0, .int .u64 0, .int .u64 0, .int .u64 0, .int .u64 0, .int .u64 0, .int .u64 0, .int .u64 0, .int .u64 0, .int .u64 0]) agt49 sz49 rfl f23 H186 rfl) (rv_tmp rfl rfl)) ⟨_, rfl, ?_⟩
         have hS : ¬ rpS L := rp_s0 hs2 hb82 hb183
         exact ⟨(tu2 (ag12 (vi (wf3 hS)) (vi (wf2 hS)) (vi (wf1 hS)) (vi (wf0 hS)) (vi (wf3 hS)) (vi (wf2 hS)) (vi (wf1 hS)) (vi (wf0 hS)) (vi (wf3 hS)) (vi (wf2 hS)) (vi (wf1 hS)) (vi (wf0 hS))) (vf hS)), E187⟩
       · have hPl : PS.length = 3 ∧ MS.length = 2 := by have h1_ := hq.1; rw [Decidable.not_not.1 hb183] at h1_ ⊢; exact ⟨by simpa using h1_, rfl⟩
         have hPl1 := hPl.1; have hPl2 := hPl.2
         refine rk_cf (T rfl (congrArg Value.bool (decide_eq_false hb183))) ?_
         refine rk_skip ?_
         refine rk_seq ?_
         refine rk_reg ?_
         refine lw_v (.slice Ad (PS.length) cp) (dv_move (T rfl f25)) ?_
         obtain ⟨g188, o189, rfl⟩ := Ors.at h30 (by first | omega | (simp; done) | (simp; omega))
         refine lw_v (.pointer (some ⟨g188, o189 + 0, none⟩)) (dv_indexW (g := g188) (o := o189) (l := PS.length) (c := cp) (i := 0) (j := 0) us83 sz9 (T rfl rfl) C (by omega) (by first | omega | (simp; done) | (simp; omega))) ?_
         refine lw_v (.string (bOf (PS.getD 0 []))) (dv_load agt9 (T rfl rfl) (Ors.cell h30 (by first | omega | (simp; done) | (simp; omega)))) ?_
         refine lw_e (oe_callf (vs := [.string (bOf (PS.getD 0 []))]) co23 (ar1 (T rfl rfl)) (sReadWide_ok (rows_get hr 0).1 (by first | omega | exact Nat.le_trans (rows_get hr _).2 (by decide) | exact Nat.le_trans (rows_get hr2 _).2 (by decide) | (have h1_ := (hq.get (PS.length - 1)).2; rw [one_slice (by omega)]; simp only [List.length_cons, List.length_nil]; omega) | (simp; omega))) ?_)
         rintro _ w190 ⟨rfl, e191⟩
         have E192 := below_ext E28 E28.size e191
         refine lw_v (.tuple #[.agg #[.int .u64 (wv3 (rdZ (PS.getD 0 []))), .int .u64 (wv2 (rdZ (PS.getD 0 []))), .int .u64 (wv1 (rdZ (PS.getD 0 []))), .int .u64 (wv0 (rdZ (PS.getD 0 [])))], .bool (decide (rdS (PS.getD 0 [])))]) (dv_move (T rfl rfl)) ?_
         refine lw_v (.agg #[.int .u64 (wv3 (rdZ (PS.getD 0 []))), .int .u64 (wv2 (rdZ (PS.getD 0 []))), .int .u64 (wv1 (rdZ (PS.getD 0 []))), .int .u64 (wv0 (rdZ (PS.getD 0 [])))]) (dv_extract (vs := #[.agg #[.int .u64 (wv3 (rdZ (PS.getD 0 []))), .int .u64 (wv2 (rdZ (PS.getD 0 []))), .int .u64 (wv1 (rdZ (PS.getD 0 []))), .int .u64 (wv0 (rdZ (PS.getD 0 [])))], .bool (decide (rdS (PS.getD 0 [])))]) (T rfl rfl) rfl) ?_
         refine lw_v (.bool (decide (rdS (PS.getD 0 [])))) (dv_extract (vs := #[.agg #[.int .u64 (wv3 (rdZ (PS.getD 0 []))), .int .u64 (wv2 (rdZ (PS.getD 0 []))), .int .u64 (wv1 (rdZ (PS.getD 0 []))), .int .u64 (wv0 (rdZ (PS.getD 0 [])))], .bool (decide (rdS (PS.getD 0 [])))]) (T rfl rfl) rfl) ?_
         refine lw_e (oe_alloc ze26 ?_)
         intro b193 w194 n195
         have N196 : w.heap.size ≤ b193 := n195.eq ▸ E192.size
         have H197 := (e191.blk H29)
         have : b1 < b193 := n195.eq ▸ lt_of_blk H197
         have E198 := below_ext E192 E192.size n195.ext
         refine lw_e (oe_store (v := .agg #[.int .u64 (wv3 (rdZ (PS.getD 0 []))), .int .u64 (wv2 (rdZ (PS.getD 0 []))), .int .u64 (wv1 (rdZ (PS.getD 0 []))), .int .u64 (wv0 (rdZ (PS.getD 0 [])))]) (vs := [.int .u64 (wv3 (rdZ (PS.getD 0 []))), .int .u64 (wv2 (rdZ (PS.getD 0 []))), .int .u64 (wv1 (rdZ (PS.getD 0 []))), .int .u64 (wv0 (rdZ (PS.getD 0 [])))]) (l := [.int .u64 (wv3 (rdZ (PS.getD 0 []))), .int .u64 (wv2 (rdZ (PS.getD 0 []))), .int .u64 (wv1 (rdZ (PS.getD 0 []))), .int .u64 (wv0 (rdZ (PS.getD 0 [])))]) (T rfl rfl) (T rfl rfl) sz26 rfl rfl rfl n195.blk rfl ?_)
         intro w199 s200 H201
         have E202 := below_st E198 N196 s200
         refine lw_v (.bool (decide (rdS (PS.getD 0 [])))) (dv_assign (T rfl rfl)) ?_
         refine lw_nil ?_
         refine rk_seq ?_
         refine rk_reg ?_
         refine lw_v (.slice (some ⟨g188, o189, none⟩) (PS.length) cp) (dv_move (T rfl f25)) ?_
         refine lw_v (.pointer (some ⟨g188, o189 + 1, none⟩)) (dv_indexW (g := g188) (o := o189) (l := PS.length) (c := cp) (i := 1) (j := 1) us83 sz9 (T rfl rfl) C (by omega) (by first | omega | (simp; done) | (simp; omega))) ?_
         have h203 := (((h30.ext e191).ext n195.ext).st s200 n195.blk (by decide))
         refine lw_v (.string (bOf (PS.getD 1 []))) (dv_load agt9 (T rfl rfl) (Ors.cell h203 (by first | omega | (simp; done) | (simp; omega)))) ?_
         refine lw_e (oe_callf (vs := [.string (bOf (PS.getD 1 []))]) co23 (ar1 (T rfl rfl)) (sReadWide_ok (rows_get hr 1).1 (by first | omega | exact Nat.le_trans (rows_get hr _).2 (by decide) | exact Nat.le_trans (rows_get hr2 _).2 (by decide) | (have h1_ := (hq.get (PS.length - 1)).2; rw [one_slice (by omega)]; simp only [List.length_cons, List.length_nil]; omega) | (simp; omega))) ?_)
         rintro _ w204 ⟨rfl, e205⟩
         have E206 := below_ext E202 E202.size e205
         refine lw_v (.tuple #[.agg #[.int .u64 (wv3 (rdZ (PS.getD 1 []))), .int .u64 (wv2 (rdZ (PS.getD 1 []))), .int .u64 (wv1 (rdZ (PS.getD 1 []))), .int .u64 (wv0 (rdZ (PS.getD 1 [])))], .bool (decide (rdS (PS.getD 1 [])))]) (dv_move (T rfl rfl)) ?_
         refine lw_v (.agg #[.int .u64 (wv3 (rdZ (PS.getD 1 []))), .int .u64 (wv2 (rdZ (PS.getD 1 []))), .int .u64 (wv1 (rdZ (PS.getD 1 []))), .int .u64 (wv0 (rdZ (PS.getD 1 [])))]) (dv_extract (vs := #[.agg #[.int .u64 (wv3 (rdZ (PS.getD 1 []))), .int .u64 (wv2 (rdZ (PS.getD 1 []))), .int .u64 (wv1 (rdZ (PS.getD 1 []))), .int .u64 (wv0 (rdZ (PS.getD 1 [])))], .bool (decide (rdS (PS.getD 1 [])))]) (T rfl rfl) rfl) ?_
         refine lw_v (.bool (decide (rdS (PS.getD 1 [])))) (dv_extract (vs := #[.agg #[.int .u64 (wv3 (rdZ (PS.getD 1 []))), .int .u64 (wv2 (rdZ (PS.getD 1 []))), .int .u64 (wv1 (rdZ (PS.getD 1 []))), .int .u64 (wv0 (rdZ (PS.getD 1 [])))], .bool (decide (rdS (PS.getD 1 [])))]) (T rfl rfl) rfl) ?_
         refine lw_e (oe_alloc ze26 ?_)
         intro b207 w208 n209
         have N210 : w.heap.size ≤ b207 := n209.eq ▸ E206.size
         have H211 := (e205.blk H201)
         have : b193 < b207 := n209.eq ▸ lt_of_blk H211
         have E212 := below_ext E206 E206.size n209.ext
         refine lw_e (oe_store (v := .agg #[.int .u64 (wv3 (rdZ (PS.getD 1 []))), .int .u64 (wv2 (rdZ (PS.getD 1 []))), .int .u64 (wv1 (rdZ (PS.getD 1 []))), .int .u64 (wv0 (rdZ (PS.getD 1 [])))]) (vs := [.int .u64 (wv3 (rdZ (PS.getD 1 []))), .int .u64 (wv2 (rdZ (PS.getD 1 []))), .int .u64 (wv1 (rdZ (PS.getD 1 []))), .int .u64 (wv0 (rdZ (PS.getD 1 [])))]) (l := [.int .u64 (wv3 (rdZ (PS.getD 1 []))), .int .u64 (wv2 (rdZ (PS.getD 1 []))), .int .u64 (wv1 (rdZ (PS.getD 1 []))), .int .u64 (wv0 (rdZ (PS.getD 1 [])))]) (T rfl rfl) (T rfl rfl) sz26 rfl rfl rfl n209.blk rfl ?_)
         intro w213 s214 H215
         have E216 := below_st E212 N210 s214
         refine lw_v (.bool (decide (rdS (PS.getD 1 [])))) (dv_assign (T rfl rfl)) ?_
         refine lw_nil ?_
         refine rk_seq ?_
         refine rk_reg ?_
         refine lw_v (.slice (some ⟨g188, o189, none⟩) (PS.length) cp) (dv_move (T rfl f25)) ?_
         refine lw_v (.pointer (some ⟨g188, o189 + 2, none⟩)) (dv_indexW (g := g188) (o := o189) (l := PS.length) (c := cp) (i := 2) (j := 2) us83 sz9 (T rfl rfl) C (by omega) (by first | omega | (simp; done) | (simp; omega))) ?_
         have h217 := (((h203.ext e205).ext n209.ext).st s214 n209.blk (by decide))
         refine lw_v (.string (bOf (PS.getD 2 []))) (dv_load agt9 (T rfl rfl) (Ors.cell h217 (by first | omega | (simp; done) | (simp; omega)))) ?_
         refine lw_e (oe_callf (vs := [.string (bOf (PS.getD 2 []))]) co23 (ar1 (T rfl rfl)) (sReadWide_ok (rows_get hr 2).1 (by first | omega | exact Nat.le_trans (rows_get hr _).2 (by decide) | exact Nat.le_trans (rows_get hr2 _).2 (by decide) | (have h1_ := (hq.get (PS.length - 1)).2; rw [one_slice (by omega)]; simp only [List.length_cons, List.length_nil]; omega) | (simp; omega))) ?_)
         rintro _ w218 ⟨rfl, e219⟩
         have E220 := below_ext E216 E216.size e219
         refine lw_v (.tuple #[.agg #[.int .u64 (wv3 (rdZ (PS.getD 2 []))), .int .u64 (wv2 (rdZ (PS.getD 2 []))), .int .u64 (wv1 (rdZ (PS.getD 2 []))), .int .u64 (wv0 (rdZ (PS.getD 2 [])))], .bool (decide (rdS (PS.getD 2 [])))]) (dv_move (T rfl rfl)) ?_
         refine lw_v (.agg #[.int .u64 (wv3 (rdZ (PS.getD 2 []))), .int .u64 (wv2 (rdZ (PS.getD 2 []))), .int .u64 (wv1 (rdZ (PS.getD 2 []))), .int .u64 (wv0 (rdZ (PS.getD 2 [])))]) (dv_extract (vs := #[.agg #[.int .u64 (wv3 (rdZ (PS.getD 2 []))), .int .u64 (wv2 (rdZ (PS.getD 2 []))), .int .u64 (wv1 (rdZ (PS.getD 2 []))), .int .u64 (wv0 (rdZ (PS.getD 2 [])))], .bool (decide (rdS (PS.getD 2 [])))]) (T rfl rfl) rfl) ?_
         refine lw_v (.bool (decide (rdS (PS.getD 2 [])))) (dv_extract (vs := #[.agg #[.int .u64 (wv3 (rdZ (PS.getD 2 []))), .int .u64 (wv2 (rdZ (PS.getD 2 []))), .int .u64 (wv1 (rdZ (PS.getD 2 []))), .int .u64 (wv0 (rdZ (PS.getD 2 [])))], .bool (decide (rdS (PS.getD 2 [])))]) (T rfl rfl) rfl) ?_
         refine lw_e (oe_alloc ze26 ?_)
         intro b221 w222 n223
         have N224 : w.heap.size ≤ b221 := n223.eq ▸ E220.size
         have H225 := (e219.blk H215)
         have : b207 < b221 := n223.eq ▸ lt_of_blk H225
         have E226 := below_ext E220 E220.size n223.ext
         refine lw_e (oe_store (v := .agg #[.int .u64 (wv3 (rdZ (PS.getD 2 []))), .int .u64 (wv2 (rdZ (PS.getD 2 []))), .int .u64 (wv1 (rdZ (PS.getD 2 []))), .int .u64 (wv0 (rdZ (PS.getD 2 [])))]) (vs := [.int .u64 (wv3 (rdZ (PS.getD 2 []))), .int .u64 (wv2 (rdZ (PS.getD 2 []))), .int .u64 (wv1 (rdZ (PS.getD 2 []))), .int .u64 (wv0 (rdZ (PS.getD 2 [])))]) (l := [.int .u64 (wv3 (rdZ (PS.getD 2 []))), .int .u64 (wv2 (rdZ (PS.getD 2 []))), .int .u64 (wv1 (rdZ (PS.getD 2 []))), .int .u64 (wv0 (rdZ (PS.getD 2 [])))]) (T rfl rfl) (T rfl rfl) sz26 rfl rfl rfl n223.blk rfl ?_)
         intro w227 s228 H229
         have E230 := below_st E226 N224 s228
         refine lw_v (.bool (decide (rdS (PS.getD 2 [])))) (dv_assign (T rfl rfl)) ?_
         refine lw_nil ?_
         refine rk_seq ?_
         refine rk_reg ?_
         have H231 := (s228.blk (n223.ext.blk (e219.blk (s214.blk (n209.ext.blk H211) (by omega)))) (by omega))
         refine lw_v (.agg #[.int .u64 (wv3 (rdZ (PS.getD 0 []))), .int .u64 (wv2 (rdZ (PS.getD 0 []))), .int .u64 (wv1 (rdZ (PS.getD 0 []))), .int .u64 (wv0 (rdZ (PS.getD 0 [])))]) (dv_loads (l := [.int .u64 (wv3 (rdZ (PS.getD 0 []))), .int .u64 (wv2 (rdZ (PS.getD 0 []))), .int .u64 (wv1 (rdZ (PS.getD 0 []))), .int .u64 (wv0 (rdZ (PS.getD 0 [])))]) agt26 sz26 (T rfl rfl) H231 rfl) ?_
         have H232 := (s228.blk (n223.ext.blk H225) (by omega))
         refine lw_v (.agg #[.int .u64 (wv3 (rdZ (PS.getD 1 []))), .int .u64 (wv2 (rdZ (PS.getD 1 []))), .int .u64 (wv1 (rdZ (PS.getD 1 []))), .int .u64 (wv0 (rdZ (PS.getD 1 [])))]) (dv_loads (l := [.int .u64 (wv3 (rdZ (PS.getD 1 []))), .int .u64 (wv2 (rdZ (PS.getD 1 []))), .int .u64 (wv1 (rdZ (PS.getD 1 []))), .int .u64 (wv0 (rdZ (PS.getD 1 [])))]) agt26 sz26 (T rfl rfl) H232 rfl) ?_
         refine lw_v (.agg #[.int .u64 (wv3 (rdZ (PS.getD 2 []))), .int .u64 (wv2 (rdZ (PS.getD 2 []))), .int .u64 (wv1 (rdZ (PS.getD 2 []))), .int .u64 (wv0 (rdZ (PS.getD 2 [])))]) (dv_loads (l := [.int .u64 (wv3 (rdZ (PS.getD 2 []))), .int .u64 (wv2 (rdZ (PS.getD 2 []))), .int .u64 (wv1 (rdZ (PS.getD 2 []))), .int .u64 (wv0 (rdZ (PS.getD 2 [])))]) agt26 sz26 (T rfl rfl) H229 rfl) ?_
         refine lw_v (.agg #[.int .u64 (wv3 (rdZ (PS.getD 0 []))), .int .u64 (wv2 (rdZ (PS.getD 0 []))), .int .u64 (wv1 (rdZ (PS.getD 0 []))), .int .u64 (wv0 (rdZ (PS.getD 0 []))), .int .u64 (wv3 (rdZ (PS.getD 1 []))), .int .u64 (wv2 (rdZ (PS.getD 1 []))), .int .u64 (wv1 (rdZ (PS.getD 1 []))), .int .u64 (wv0 (rdZ (PS.getD 1 []))), .int .u64 (wv3 (rdZ (PS.getD 2 []))), .int .u64 (wv2 (rdZ (PS.getD 2 []))), .int .u64 (wv1 (rdZ (PS.getD 2 []))), .int .u64 (wv0 (rdZ (PS.getD 2 [])))]) (dv_build (pv := [(0, .agg #[.int .u64 (wv3 (rdZ (PS.getD 0 []))), .int .u64 (wv2 (rdZ (PS.getD 0 []))), .int .u64 (wv1 (rdZ (PS.getD 0 []))), .int .u64 (wv0 (rdZ (PS.getD 0 [])))]), (1, .agg #[.int .u64 (wv3 (rdZ (PS.getD 1 []))), .int .u64 (wv2 (rdZ (PS.getD 1 []))), .int .u64 (wv1 (rdZ (PS.getD 1 []))), .int .u64 (wv0 (rdZ (PS.getD 1 [])))]), (2, .agg #[.int .u64 (wv3 (rdZ (PS.getD 2 []))), .int .u64 (wv2 (rdZ (PS.getD 2 []))), .int .u64 (wv1 (rdZ (PS.getD 2 []))), .int .u64 (wv0 (rdZ (PS.getD 2 [])))])]) (l := [.int .u64 (wv3 (rdZ (PS.getD 0 []))), .int .u64 (wv2 (rdZ (PS.getD 0 []))), .int .u64 (wv1 (rdZ (PS.getD 0 []))), .int .u64 (wv0 (rdZ (PS.getD 0 []))), .int .u64 (wv3 (rdZ (PS.getD 1 []))), .int .u64 (wv2 (rdZ (PS.getD 1 []))), .int .u64 (wv1 (rdZ (PS.getD 1 []))), .int .u64 (wv0 (rdZ (PS.getD 1 []))), .int .u64 (wv3 (rdZ (PS.getD 2 []))), .int .u64 (wv2 (rdZ (PS.getD 2 []))), .int .u64 (wv1 (rdZ (PS.getD 2 []))), .int .u64 (wv0 (rdZ (PS.getD 2 [])))]) zc49 pl49 ⟨rfl, (T rfl rfl), ⟨rfl, (T rfl rfl), ⟨rfl, (T rfl rfl), trivial⟩⟩⟩ rfl) ?_
         refine lw_e (oe_alloc ze49 ?_)
         intro b233 w234 n235
         have N236 : w.heap.size ≤ b233 := n235.eq ▸ E230.size
         have : b221 < b233 := n235.eq ▸ lt_of_blk H229
         have E237 := below_ext E230 E230.size n235.ext
         refine lw_e (oe_store (v := .agg #[.int .u64 (wv3 (rdZ (PS.getD 0 []))), .int .u64 (wv2 (rdZ (PS.getD 0 []))), .int .u64 (wv1 (rdZ (PS.getD 0 []))), .int .u64 (wv0 (rdZ (PS.getD 0 []))), .int .u64 (wv3 (rdZ (PS.getD 1 []))), .int .u64 (wv2 (rdZ (PS.getD 1 []))), .int .u64 (wv1 (rdZ (PS.getD 1 []))), .int .u64 (wv0 (rdZ (PS.getD 1 []))), .int .u64 (wv3 (rdZ (PS.getD 2 []))), .int .u64 (wv2 (rdZ (PS.getD 2 []))), .int .u64 (wv1 (rdZ (PS.getD 2 []))), .int .u64 (wv0 (rdZ (PS.getD 2 [])))]) (vs := [.int .u64 (wv3 (rdZ (PS.getD 0 []))), .int .u64 (wv2 (rdZ (PS.getD 0 []))), .int .u64 (wv1 (rdZ (PS.getD 0 []))), .int .u64 (wv0 (rdZ (PS.getD 0 []))), .int .u64 (wv3 (rdZ (PS.getD 1 []))), .int .u64 (wv2 (rdZ (PS.getD 1 []))), .int .u64 (wv1 (rdZ (PS.getD 1 []))), .int .u64 (wv0 (rdZ (PS.getD 1 []))), .int .u64 (wv3 (rdZ (PS.getD 2 []))), .int .u64 (wv2 (rdZ (PS.getD 2 []))), .int .u64 (wv1 (rdZ (PS.getD 2 []))), .int .u64 (wv0 (rdZ (PS.getD 2 [])))]) (l := [.int .u64 (wv3 (rdZ (PS.getD 0 []))), .int .u64 (wv2 (rdZ (PS.getD 0 []))), .int .u64 (wv1 (rdZ (PS.getD 0 []))), .int .u64 (wv0 (rdZ (PS.getD 0 []))), .int .u64 (wv3 (rdZ (PS.getD 1 []))), .int .u64 (wv2 (rdZ (PS.getD 1 []))), .int .u64 (wv1 (rdZ (PS.getD 1 []))), .int .u64 (wv0 (rdZ (PS.getD 1 []))), .int .u64 (wv3 (rdZ (PS.getD 2 []))), .int .u64 (wv2 (rdZ (PS.getD 2 []))), .int .u64 (wv1 (rdZ (PS.getD 2 []))), .int .u64 (wv0 (rdZ (PS.getD 2 [])))]) (T rfl rfl) (T rfl rfl) sz49 rfl rfl rfl n235.blk rfl ?_)
         intro w238 s239 H240
         have E241 := below_st E237 N236 s239
         refine lw_nil ?_
         refine rk_seq ?_
         refine rk_seq ?_
         refine rk_reg ?_
         refine lw_v (.bool (decide (rdS (PS.getD 0 [])))) (dv_move (T rfl rfl)) ?_
         refine lw_v (.bool (decide (¬ (rdS (PS.getD 0 []))))) (dv_notd (p := rdS (PS.getD 0 [])) (T rfl rfl)) ?_
         refine lw_v (.bool (decide (¬ (rdS (PS.getD 0 []))))) (dv_move (T rfl rfl)) ?_
         by_cases hb242 : rdS (PS.getD 0 [])
         · refine lw_vy (.bool (decide (rdS (PS.getD 1 [])))) (d := 97) rfl rfl (congrArg Value.bool (decide_eq_false (not_not_intro hb242))) (dv_move (T rfl rfl)) ?_
           refine lw_vy (.bool (decide (¬ (rdS (PS.getD 1 []))))) (d := 97) rfl rfl (congrArg Value.bool (decide_eq_false (not_not_intro hb242))) (dv_notd (p := rdS (PS.getD 1 [])) (T rfl rfl)) ?_
           refine lw_v (.bool (decide (¬ (rdS (PS.getD 1 []))))) (dv_pick_f (T rfl (congrArg Value.bool (decide_eq_false (not_not_intro hb242)))) (T rfl rfl)) ?_
           refine lw_v (.bool (decide (¬ (rdS (PS.getD 1 []))))) (dv_move (T rfl rfl)) ?_
           by_cases hb243 : rdS (PS.getD 1 [])
           · refine lw_vy (.bool (decide (rdS (PS.getD 2 [])))) (d := 101) rfl rfl (congrArg Value.bool (decide_eq_false (not_not_intro hb243))) (dv_move (T rfl rfl)) ?_
             refine lw_vy (.bool (decide (¬ (rdS (PS.getD 2 []))))) (d := 101) rfl rfl (congrArg Value.bool (decide_eq_false (not_not_intro hb243))) (dv_notd (p := rdS (PS.getD 2 [])) (T rfl rfl)) ?_
             refine lw_v (.bool (decide (¬ (rdS (PS.getD 2 []))))) (dv_pick_f (T rfl (congrArg Value.bool (decide_eq_false (not_not_intro hb243)))) (T rfl rfl)) ?_
             refine lw_v (.bool (decide (¬ (rdS (PS.getD 2 []))))) (dv_move (T rfl rfl)) ?_
             by_cases hb244 : rdS (PS.getD 2 [])
             · refine lw_vy (.agg #[.int .u64 (wv3 (rdZ (PS.getD 0 []))), .int .u64 (wv2 (rdZ (PS.getD 0 []))), .int .u64 (wv1 (rdZ (PS.getD 0 []))), .int .u64 (wv0 (rdZ (PS.getD 0 []))), .int .u64 (wv3 (rdZ (PS.getD 1 []))), .int .u64 (wv2 (rdZ (PS.getD 1 []))), .int .u64 (wv1 (rdZ (PS.getD 1 []))), .int .u64 (wv0 (rdZ (PS.getD 1 []))), .int .u64 (wv3 (rdZ (PS.getD 2 []))), .int .u64 (wv2 (rdZ (PS.getD 2 []))), .int .u64 (wv1 (rdZ (PS.getD 2 []))), .int .u64 (wv0 (rdZ (PS.getD 2 [])))]) (d := 105) rfl rfl (congrArg Value.bool (decide_eq_false (not_not_intro hb244))) (dv_loads (l := [.int .u64 (wv3 (rdZ (PS.getD 0 []))), .int .u64 (wv2 (rdZ (PS.getD 0 []))), .int .u64 (wv1 (rdZ (PS.getD 0 []))), .int .u64 (wv0 (rdZ (PS.getD 0 []))), .int .u64 (wv3 (rdZ (PS.getD 1 []))), .int .u64 (wv2 (rdZ (PS.getD 1 []))), .int .u64 (wv1 (rdZ (PS.getD 1 []))), .int .u64 (wv0 (rdZ (PS.getD 1 []))), .int .u64 (wv3 (rdZ (PS.getD 2 []))), .int .u64 (wv2 (rdZ (PS.getD 2 []))), .int .u64 (wv1 (rdZ (PS.getD 2 []))), .int .u64 (wv0 (rdZ (PS.getD 2 [])))]) agt49 sz49 (T rfl rfl) H240 rfl) ?_
               refine lw_ey (d := 105) rfl rfl (congrArg Value.bool (decide_eq_false (not_not_intro hb244))) (oe_callf (vs := [.agg #[.int .u64 (wv3 (rdZ (PS.getD 0 []))), .int .u64 (wv2 (rdZ (PS.getD 0 []))), .int .u64 (wv1 (rdZ (PS.getD 0 []))), .int .u64 (wv0 (rdZ (PS.getD 0 []))), .int .u64 (wv3 (rdZ (PS.getD 1 []))), .int .u64 (wv2 (rdZ (PS.getD 1 []))), .int .u64 (wv1 (rdZ (PS.getD 1 []))), .int .u64 (wv0 (rdZ (PS.getD 1 []))), .int .u64 (wv3 (rdZ (PS.getD 2 []))), .int .u64 (wv2 (rdZ (PS.getD 2 []))), .int .u64 (wv1 (rdZ (PS.getD 2 []))), .int .u64 (wv0 (rdZ (PS.getD 2 [])))]]) co73 (ar1 (T rfl rfl)) (sPointText_ok (x := rdZ (PS.getD 0 [])) (y := rdZ (PS.getD 1 [])) (u := rdZ (PS.getD 2 [])) (rdZ_f _) (rdZ_f _) (rdZ_f _) ) ?_)
               rintro _ w245 ⟨rfl, e246⟩
               have E247 := below_ext E241 E241.size e246
               refine lw_vy (.string (bOf L)) (d := 105) rfl rfl (congrArg Value.bool (decide_eq_false (not_not_intro hb244))) (dv_move (T rfl f22)) ?_
               refine lw_vy (.bool (decide ((((pTxt (rdZ (PS.getD 0 [])) (rdZ (PS.getD 1 [])) (rdZ (PS.getD 2 [])))) : List Int) ≠ L))) (d := 105) rfl rfl (congrArg Value.bool (decide_eq_false (not_not_intro hb244))) (dv_neS (L := (pTxt (rdZ (PS.getD 0 [])) (rdZ (PS.getD 1 [])) (rdZ (PS.getD 2 [])))) (M := L) (T rfl rfl) (T rfl rfl) ((okC_pTxt _ _ _)) ((hL))) ?_
               refine lw_v (.bool (decide ((((pTxt (rdZ (PS.getD 0 [])) (rdZ (PS.getD 1 [])) (rdZ (PS.getD 2 [])))) : List Int) ≠ L))) (dv_pick_f (T rfl (congrArg Value.bool (decide_eq_false (not_not_intro hb244)))) (T rfl rfl)) ?_
               refine lw_nil ?_
               by_cases hb248 : (((pTxt (rdZ (PS.getD 0 [])) (rdZ (PS.getD 1 [])) (rdZ (PS.getD 2 [])))) : List Int) ≠ L
               · refine rk_ct (T rfl (congrArg Value.bool (decide_eq_true hb248))) ?_
                 refine rk_seq ?_
                 refine rk_reg ?_
                 refine lw_v (.agg #[.int .u64 0, .int .u64 0, .int .u64 0, .int .u64 0, .int .u64 0, .int .u64 0, .int .u64 0, .int .u64 0, .int .u64 0, .int .u64 0, .int .u64 0, .int .u64 0]) (dv_build (pv := []) (l := [.int .u64 0, .int .u64 0, .int .u64 0, .int .u64 0, .int .u64 0, .int .u64 0, .int .u64 0, .int .u64 0, .int .u64 0, .int .u64 0, .int .u64 0, .int .u64 0]) zc49 pl49 trivial rfl) ?_
                 have H249 := (e246.blk (s239.blk (n235.ext.blk (s228.blk (n223.ext.blk (e219.blk (s214.blk (n209.ext.blk (e205.blk (s200.blk (n195.ext.blk H197) (by omega)))) (by omega)))) (by omega))) (by omega)))
                 refine lw_e (oe_store (v := .agg #[.int .u64 0, .int .u64 0, .int .u64 0, .int .u64 0, .int .u64 0, .int .u64 0, .int .u64 0, .int .u64 0, .int .u64 0, .int .u64 0, .int .u64 0, .int .u64 0]) (vs := [.int .u64 0, .int .u64 0, .int .u64 0, .int .u64 0, .int .u64 0, .int .u64 0, .int .u64 0, .int .u64 0, .int .u64 0, .int .u64 0, .int .u64 0, .int .u64 0]) (l := [.int .u64 0, .int .u64 0, .int .u64 0, .int .u64 0, .int .u64 0, .int .u64 0, .int .u64 0, .int .u64 0, .int .u64 0, .int .u64 0, .int .u64 0, .int .u64 0]) (T rfl f23) (T rfl rfl) sz49 rfl rfl rfl H249 rfl ?_)
                 intro w250 s251 H252
                 have E253 := below_st E247 N4 s251
                 refine lw_v (.bool false) (dv_assign C) ?_
                 refine lw_nil ?_
                 refine rk_ret Try.func40 (v := .tuple #[.agg #[.int .u64 0, .int .u64 0, .int .u64 0, .int .u64 0, .int .u64 0, .int .u64 0, .int .u64 0, .int .u64 0, .int .u64 0, .int .u64 0, .int .u64 0, .int .u64 0], .bool false]) (res2 Try.results40 (rv_cells (l := [.int .u64 0, .int .u64 0, .int .u64 0, .int .u64 0, .int .u64 0, .int .u64 0, .int .u64 0, .int .u64 0, .int .u64 0, .int .u64 0, .int .u64 0, .int .u64 0]) agt49 sz49 rfl f23 H252 rfl) (rv_tmp rfl rfl)) ⟨_, rfl, ?_⟩
                 have hS : ¬ rpS L := fun hh => hb248 (rp_s3 hh hs2 (Decidable.not_not.1 hb183)).2.2.2
                 exact ⟨(tu2 (ag12 (vi (wf3 hS)) (vi (wf2 hS)) (vi (wf1 hS)) (vi (wf0 hS)) (vi (wf3 hS)) (vi (wf2 hS)) (vi (wf1 hS)) (vi (wf0 hS)) (vi (wf3 hS)) (vi (wf2 hS)) (vi (wf1 hS)) (vi (wf0 hS))) (vf hS)), E253⟩
               · refine rk_cf (T rfl (congrArg Value.bool (decide_eq_false hb248))) ?_
                 refine rk_skip ?_
                 refine rk_seq ?_
                 refine rk_reg ?_
                 have H254 := (e246.blk H240)
                 refine lw_v (.agg #[.int .u64 (wv3 (rdZ (PS.getD 0 []))), .int .u64 (wv2 (rdZ (PS.getD 0 []))), .int .u64 (wv1 (rdZ (PS.getD 0 []))), .int .u64 (wv0 (rdZ (PS.getD 0 []))), .int .u64 (wv3 (rdZ (PS.getD 1 []))), .int .u64 (wv2 (rdZ (PS.getD 1 []))), .int .u64 (wv1 (rdZ (PS.getD 1 []))), .int .u64 (wv0 (rdZ (PS.getD 1 []))), .int .u64 (wv3 (rdZ (PS.getD 2 []))), .int .u64 (wv2 (rdZ (PS.getD 2 []))), .int .u64 (wv1 (rdZ (PS.getD 2 []))), .int .u64 (wv0 (rdZ (PS.getD 2 [])))]) (dv_loads (l := [.int .u64 (wv3 (rdZ (PS.getD 0 []))), .int .u64 (wv2 (rdZ (PS.getD 0 []))), .int .u64 (wv1 (rdZ (PS.getD 0 []))), .int .u64 (wv0 (rdZ (PS.getD 0 []))), .int .u64 (wv3 (rdZ (PS.getD 1 []))), .int .u64 (wv2 (rdZ (PS.getD 1 []))), .int .u64 (wv1 (rdZ (PS.getD 1 []))), .int .u64 (wv0 (rdZ (PS.getD 1 []))), .int .u64 (wv3 (rdZ (PS.getD 2 []))), .int .u64 (wv2 (rdZ (PS.getD 2 []))), .int .u64 (wv1 (rdZ (PS.getD 2 []))), .int .u64 (wv0 (rdZ (PS.getD 2 [])))]) agt49 sz49 (T rfl rfl) H254 rfl) ?_
                 have H255 := (e246.blk (s239.blk (n235.ext.blk (s228.blk (n223.ext.blk (e219.blk (s214.blk (n209.ext.blk (e205.blk (s200.blk (n195.ext.blk H197) (by omega)))) (by omega)))) (by omega))) (by omega)))
                 refine lw_e (oe_store (v := .agg #[.int .u64 (wv3 (rdZ (PS.getD 0 []))), .int .u64 (wv2 (rdZ (PS.getD 0 []))), .int .u64 (wv1 (rdZ (PS.getD 0 []))), .int .u64 (wv0 (rdZ (PS.getD 0 []))), .int .u64 (wv3 (rdZ (PS.getD 1 []))), .int .u64 (wv2 (rdZ (PS.getD 1 []))), .int .u64 (wv1 (rdZ (PS.getD 1 []))), .int .u64 (wv0 (rdZ (PS.getD 1 []))), .int .u64 (wv3 (rdZ (PS.getD 2 []))), .int .u64 (wv2 (rdZ (PS.getD 2 []))), .int .u64 (wv1 (rdZ (PS.getD 2 []))), .int .u64 (wv0 (rdZ (PS.getD 2 [])))]) (vs := [.int .u64 (wv3 (rdZ (PS.getD 0 []))), .int .u64 (wv2 (rdZ (PS.getD 0 []))), .int .u64 (wv1 (rdZ (PS.getD 0 []))), .int .u64 (wv0 (rdZ (PS.getD 0 []))), .int .u64 (wv3 (rdZ (PS.getD 1 []))), .int .u64 (wv2 (rdZ (PS.getD 1 []))), .int .u64 (wv1 (rdZ (PS.getD 1 []))), .int .u64 (wv0 (rdZ (PS.getD 1 []))), .int .u64 (wv3 (rdZ (PS.getD 2 []))), .int .u64 (wv2 (rdZ (PS.getD 2 []))), .int .u64 (wv1 (rdZ (PS.getD 2 []))), .int .u64 (wv0 (rdZ (PS.getD 2 [])))]) (l := [.int .u64 (wv3 (rdZ (PS.getD 0 []))), .int .u64 (wv2 (rdZ (PS.getD 0 []))), .int .u64 (wv1 (rdZ (PS.getD 0 []))), .int .u64 (wv0 (rdZ (PS.getD 0 []))), .int .u64 (wv3 (rdZ (PS.getD 1 []))), .int .u64 (wv2 (rdZ (PS.getD 1 []))), .int .u64 (wv1 (rdZ (PS.getD 1 []))), .int .u64 (wv0 (rdZ (PS.getD 1 []))), .int .u64 (wv3 (rdZ (PS.getD 2 []))), .int .u64 (wv2 (rdZ (PS.getD 2 []))), .int .u64 (wv1 (rdZ (PS.getD 2 []))), .int .u64 (wv0 (rdZ (PS.getD 2 [])))]) (T rfl f23) (T rfl rfl) sz49 rfl rfl rfl H255 rfl ?_)
                 intro w256 s257 H258
                 have E259 := below_st E247 N4 s257
                 refine lw_v (.bool true) (dv_assign C) ?_
                 refine lw_nil ?_
                 refine rk_ret Try.func40 (v := .tuple #[.agg #[.int .u64 (wv3 (rdZ (PS.getD 0 []))), .int .u64 (wv2 (rdZ (PS.getD 0 []))), .int .u64 (wv1 (rdZ (PS.getD 0 []))), .int .u64 (wv0 (rdZ (PS.getD 0 []))), .int .u64 (wv3 (rdZ (PS.getD 1 []))), .int .u64 (wv2 (rdZ (PS.getD 1 []))), .int .u64 (wv1 (rdZ (PS.getD 1 []))), .int .u64 (wv0 (rdZ (PS.getD 1 []))), .int .u64 (wv3 (rdZ (PS.getD 2 []))), .int .u64 (wv2 (rdZ (PS.getD 2 []))), .int .u64 (wv1 (rdZ (PS.getD 2 []))), .int .u64 (wv0 (rdZ (PS.getD 2 [])))], .bool true]) (res2 Try.results40 (rv_cells (l := [.int .u64 (wv3 (rdZ (PS.getD 0 []))), .int .u64 (wv2 (rdZ (PS.getD 0 []))), .int .u64 (wv1 (rdZ (PS.getD 0 []))), .int .u64 (wv0 (rdZ (PS.getD 0 []))), .int .u64 (wv3 (rdZ (PS.getD 1 []))), .int .u64 (wv2 (rdZ (PS.getD 1 []))), .int .u64 (wv1 (rdZ (PS.getD 1 []))), .int .u64 (wv0 (rdZ (PS.getD 1 []))), .int .u64 (wv3 (rdZ (PS.getD 2 []))), .int .u64 (wv2 (rdZ (PS.getD 2 []))), .int .u64 (wv1 (rdZ (PS.getD 2 []))), .int .u64 (wv0 (rdZ (PS.getD 2 [])))]) agt49 sz49 rfl f23 H258 rfl) (rv_tmp rfl rfl)) ⟨_, rfl, ?_⟩
                 have hR := rp_i1 (ne_s hs2 (by omega)) (Decidable.not_not.1 hb248)
                 exact ⟨(tu2 (ag12 (vi (congrArg wv3 ((pkz_t hR.1).trans hR.2.1).symm)) (vi (congrArg wv2 ((pkz_t hR.1).trans hR.2.1).symm)) (vi (congrArg wv1 ((pkz_t hR.1).trans hR.2.1).symm)) (vi (congrArg wv0 ((pkz_t hR.1).trans hR.2.1).symm)) (vi (congrArg wv3 ((pkz_t hR.1).trans hR.2.2.1).symm)) (vi (congrArg wv2 ((pkz_t hR.1).trans hR.2.2.1).symm)) (vi (congrArg wv1 ((pkz_t hR.1).trans hR.2.2.1).symm)) (vi (congrArg wv0 ((pkz_t hR.1).trans hR.2.2.1).symm)) (vi (congrArg wv3 ((pkz_t hR.1).trans hR.2.2.2).symm)) (vi (congrArg wv2 ((pkz_t hR.1).trans hR.2.2.2).symm)) (vi (congrArg wv1 ((pkz_t hR.1).trans hR.2.2.2).symm)) (vi (congrArg wv0 ((pkz_t hR.1).trans hR.2.2.2).symm))) (vt hR.1)), E259⟩
             · refine lw_no (d := 105) rfl rfl (congrArg Value.bool (decide_eq_true hb244)) ?_
               refine lw_no (d := 105) rfl rfl (congrArg Value.bool (decide_eq_true hb244)) ?_
               refine lw_no (d := 105) rfl rfl (congrArg Value.bool (decide_eq_true hb244)) ?_
               refine lw_no (d := 105) rfl rfl (congrArg Value.bool (decide_eq_true hb244)) ?_
               refine lw_v (.bool true) (dv_pick_t (T rfl (congrArg Value.bool (decide_eq_true hb244))) C) ?_
               refine lw_nil ?_
               refine rk_ct (T rfl rfl) ?_
               refine rk_seq ?_
               refine rk_reg ?_
               refine lw_v (.agg #[.int .u64 0, .int .u64 0, .int .u64 0, .int .u64 0, .int .u64 0, .int .u64 0, .int .u64 0, .int .u64 0, .int .u64 0, .int .u64 0, .int .u64 0, .int .u64 0]) (dv_build (pv := []) (l := [.int .u64 0, .int .u64 0, .int .u64 0, .int .u64 0, .int .u64 0, .int .u64 0, .int .u64 0, .int .u64 0, .int .u64 0, .int .u64 0, .int .u64 0, .int .u64 0]) zc49 pl49 trivial rfl) ?_
               have H260 := (s239.blk (n235.ext.blk (s228.blk (n223.ext.blk (e219.blk (s214.blk (n209.ext.blk (e205.blk (s200.blk (n195.ext.blk H197) (by omega)))) (by omega)))) (by omega))) (by omega))
               refine lw_e (oe_store (v := .agg #[.int .u64 0, .int .u64 0, .int .u64 0, .int .u64 0, .int .u64 0, .int .u64 0, .int .u64 0, .int .u64 0, .int .u64 0, .int .u64 0, .int .u64 0, .int .u64 0]) (vs := [.int .u64 0, .int .u64 0, .int .u64 0, .int .u64 0, .int .u64 0, .int .u64 0, .int .u64 0, .int .u64 0, .int .u64 0, .int .u64 0, .int .u64 0, .int .u64 0]) (l := [.int .u64 0, .int .u64 0, .int .u64 0, .int .u64 0, .int .u64 0, .int .u64 0, .int .u64 0, .int .u64 0, .int .u64 0, .int .u64 0, .int .u64 0, .int .u64 0]) (T rfl f23) (T rfl rfl) sz49 rfl rfl rfl H260 rfl ?_)
               intro w261 s262 H263
               have E264 := below_st E241 N4 s262
               refine lw_v (.bool false) (dv_assign C) ?_
               refine lw_nil ?_
               refine rk_ret Try.func40 (v := .tuple #[.agg #[.int .u64 0, .int .u64 0, .int .u64 0, .int .u64 0, .int .u64 0, .int .u64 0, .int .u64 0, .int .u64 0, .int .u64 0, .int .u64 0, .int .u64 0, .int .u64 0], .bool false]) (res2 Try.results40 (rv_cells (l := [.int .u64 0, .int .u64 0, .int .u64 0, .int .u64 0, .int .u64 0, .int .u64 0, .int .u64 0, .int .u64 0, .int .u64 0, .int .u64 0, .int .u64 0, .int .u64 0]) agt49 sz49 rfl f23 H263 rfl) (rv_tmp rfl rfl)) ⟨_, rfl, ?_⟩
               have hS : ¬ rpS L := fun hh => hb244 (rp_s3 hh hs2 (Decidable.not_not.1 hb183)).2.2.1
               exact ⟨(tu2 (ag12 (vi (wf3 hS)) (vi (wf2 hS)) (vi (wf1 hS)) (vi (wf0 hS)) (vi (wf3 hS)) (vi (wf2 hS)) (vi (wf1 hS)) (vi (wf0 hS)) (vi (wf3 hS)) (vi (wf2 hS)) (vi (wf1 hS)) (vi (wf0 hS))) (vf hS)), E264⟩
           · refine lw_no (d := 101) rfl rfl (congrArg Value.bool (decide_eq_true hb243)) ?_
             refine lw_no (d := 101) rfl rfl (congrArg Value.bool (decide_eq_true hb243)) ?_
             refine lw_v (.bool true) (dv_pick_t (T rfl (congrArg Value.bool (decide_eq_true hb243))) C) ?_
             refine lw_v (.bool true) (dv_move (T rfl rfl)) ?_
             refine lw_no (d := 105) rfl rfl (rfl) ?_
             refine lw_no (d := 105) rfl rfl (rfl) ?_
             refine lw_no (d := 105) rfl rfl (rfl) ?_
             refine lw_no (d := 105) rfl rfl (rfl) ?_
             refine lw_v (.bool true) (dv_pick_t (T rfl rfl) C) ?_
             refine lw_nil ?_
             refine rk_ct (T rfl rfl) ?_
             refine rk_seq ?_
             refine rk_reg ?_
             refine lw_v (.agg #[.int .u64 0, .int .u64 0, .int .u64 0, .int .u64 0, .int .u64 0, .int .u64 0, .int .u64 0, .int .u64 0, .int .u64 0, .int .u64 0, .int .u64 0, .int .u64 0]) (dv_build (pv := []) (l := [.int .u64 0, .int .u64 0, .int .u64 0, .int .u64 0, .int .u64 0, .int .u64 0, .int .u64 0, .int .u64 0, .int .u64 0, .int .u64 0, .int .u64 0, .int .u64 0]) zc49 pl49 trivial rfl) ?_
             have H265 := (s239.blk (n235.ext.blk (s228.blk (n223.ext.blk (e219.blk (s214.blk (n209.ext.blk (e205.blk (s200.blk (n195.ext.blk H197) (by omega)))) (by omega)))) (by omega))) (by omega))
             refine lw_e (oe_store (v := .agg #[.int .u64 0, .int .u64 0, .int .u64 0, .int .u64 0, .int .u64 0, .int .u64 0, .int .u64 0, .int .u64 0, .int .u64 0, .int .u64 0, .int .u64 0, .int .u64 0]) (vs := [.int .u64 0, .int .u64 0, .int .u64 0, .int .u64 0, .int .u64 0, .int .u64 0, .int .u64 0, .int .u64 0, .int .u64 0, .int .u64 0, .int .u64 0, .int .u64 0]) (l := [.int .u64 0, .int .u64 0, .int .u64 0, .int .u64 0, .int .u64 0, .int .u64 0, .int .u64 0, .int .u64 0, .int .u64 0, .int .u64 0, .int .u64 0, .int .u64 0]) (T rfl f23) (T rfl rfl) sz49 rfl rfl rfl H265 rfl ?_)
             intro w266 s267 H268
             have E269 := below_st E241 N4 s267
             refine lw_v (.bool false) (dv_assign C) ?_
             refine lw_nil ?_
             refine rk_ret Try.func40 (v := .tuple #[.agg #[.int .u64 0, .int .u64 0, .int .u64 0, .int .u64 0, .int .u64 0, .int .u64 0, .int .u64 0, .int .u64 0, .int .u64 0, .int .u64 0, .int .u64 0, .int .u64 0], .bool false]) (res2 Try.results40 (rv_cells (l := [.int .u64 0, .int .u64 0, .int .u64 0, .int .u64 0, .int .u64 0, .int .u64 0, .int .u64 0, .int .u64 0, .int .u64 0, .int .u64 0, .int .u64 0, .int .u64 0]) agt49 sz49 rfl f23 H268 rfl) (rv_tmp rfl rfl)) ⟨_, rfl, ?_⟩
             have hS : ¬ rpS L := fun hh => hb243 (rp_s3 hh hs2 (Decidable.not_not.1 hb183)).2.1
             exact ⟨(tu2 (ag12 (vi (wf3 hS)) (vi (wf2 hS)) (vi (wf1 hS)) (vi (wf0 hS)) (vi (wf3 hS)) (vi (wf2 hS)) (vi (wf1 hS)) (vi (wf0 hS)) (vi (wf3 hS)) (vi (wf2 hS)) (vi (wf1 hS)) (vi (wf0 hS))) (vf hS)), E269⟩
         · refine lw_no (d := 97) rfl rfl (congrArg Value.bool (decide_eq_true hb242)) ?_
           refine lw_no (d := 97) rfl rfl (congrArg Value.bool (decide_eq_true hb242)) ?_
           refine lw_v (.bool true) (dv_pick_t (T rfl (congrArg Value.bool (decide_eq_true hb242))) C) ?_
           refine lw_v (.bool true) (dv_move (T rfl rfl)) ?_
           refine lw_no (d := 101) rfl rfl (rfl) ?_
           refine lw_no (d := 101) rfl rfl (rfl) ?_
           refine lw_v (.bool true) (dv_pick_t (T rfl rfl) C) ?_
           refine lw_v (.bool true) (dv_move (T rfl rfl)) ?_
           refine lw_no (d := 105) rfl rfl (rfl) ?_
           refine lw_no (d := 105) rfl rfl (rfl) ?_
           refine lw_no (d := 105) rfl rfl (rfl) ?_
           refine lw_no (d := 105) rfl rfl (rfl) ?_
           refine lw_v (.bool true) (dv_pick_t (T rfl rfl) C) ?_
           refine lw_nil ?_
           refine rk_ct (T rfl rfl) ?_
           refine rk_seq ?_
           refine rk_reg ?_
           refine lw_v (.agg #[.int .u64 0, .int .u64 0, .int .u64 0, .int .u64 0, .int .u64 0, .int .u64 0, .int .u64 0, .int .u64 0, .int .u64 0, .int .u64 0, .int .u64 0, .int .u64 0]) (dv_build (pv := []) (l := [.int .u64 0, .int .u64 0, .int .u64 0, .int .u64 0, .int .u64 0, .int .u64 0, .int .u64 0, .int .u64 0, .int .u64 0, .int .u64 0, .int .u64 0, .int .u64 0]) zc49 pl49 trivial rfl) ?_
           have H270 := (s239.blk (n235.ext.blk (s228.blk (n223.ext.blk (e219.blk (s214.blk (n209.ext.blk (e205.blk (s200.blk (n195.ext.blk H197) (by omega)))) (by omega)))) (by omega))) (by omega))
           refine lw_e (oe_store (v := .agg #[.int .u64 0, .int .u64 0, .int .u64 0, .int .u64 0, .int .u64 0, .int .u64 0, .int .u64 0, .int .u64 0, .int .u64 0, .int .u64 0, .int .u64 0, .int .u64 0]) (vs := [.int .u64 0, .int .u64 0, .int .u64 0, .int .u64 0, .int .u64 0, .int .u64 0, .int .u64 0, .int .u64 0, .int .u64 0, .int .u64 0, .int .u64 0, .int .u64 0]) (l := [.int .u64 0, .int .u64 0, .int .u64 0, .int .u64 0, .int .u64 0, .int .u64 0, .int .u64 0, .int .u64 0, .int .u64 0, .int .u64 0, .int .u64 0, .int .u64 0]) (T rfl f23) (T rfl rfl) sz49 rfl rfl rfl H270 rfl ?_)
           intro w271 s272 H273
           have E274 := below_st E241 N4 s272
           refine lw_v (.bool false) (dv_assign C) ?_
           refine lw_nil ?_
           refine rk_ret Try.func40 (v := .tuple #[.agg #[.int .u64 0, .int .u64 0, .int .u64 0, .int .u64 0, .int .u64 0, .int .u64 0, .int .u64 0, .int .u64 0, .int .u64 0, .int .u64 0, .int .u64 0, .int .u64 0], .bool false]) (res2 Try.results40 (rv_cells (l := [.int .u64 0, .int .u64 0, .int .u64 0, .int .u64 0, .int .u64 0, .int .u64 0, .int .u64 0, .int .u64 0, .int .u64 0, .int .u64 0, .int .u64 0, .int .u64 0]) agt49 sz49 rfl f23 H273 rfl) (rv_tmp rfl rfl)) ⟨_, rfl, ?_⟩
           have hS : ¬ rpS L := fun hh => hb242 (rp_s3 hh hs2 (Decidable.not_not.1 hb183)).1
           exact ⟨(tu2 (ag12 (vi (wf3 hS)) (vi (wf2 hS)) (vi (wf1 hS)) (vi (wf0 hS)) (vi (wf3 hS)) (vi (wf2 hS)) (vi (wf1 hS)) (vi (wf0 hS)) (vi (wf3 hS)) (vi (wf2 hS)) (vi (wf1 hS)) (vi (wf0 hS))) (vf hS)), E274⟩
end Go.Proofs.Ytfmkadgjoechnaa.W
set_option linter.unusedVariables false
set_option linter.unusedSimpArgs false
namespace Go.Proofs.Ytfmkadgjoechnaa.W
open Go Go.RowKit Go.Proofs.Ytfmkadgjoechnaa.Fw
attribute [local irreducible] RunK LW AW DV OE Ct
set_option maxHeartbeats 1000000 in
theorem eqPoint_ok {w : World} {x y u p q r : Int} (fx_ : fits x) (fy_ : fits y) (fu_ : fits u) (fp_ : fits p) (fq_ : fits q) (fr_ : fits r)  : Ct Try.prog 42 [.agg #[.int .u64 (wv3 x), .int .u64 (wv2 x), .int .u64 (wv1 x), .int .u64 (wv0 x), .int .u64 (wv3 y), .int .u64 (wv2 y), .int .u64 (wv1 y), .int .u64 (wv0 y), .int .u64 (wv3 u), .int .u64 (wv2 u), .int .u64 (wv1 u), .int .u64 (wv0 u)], .agg #[.int .u64 (wv3 p), .int .u64 (wv2 p), .int .u64 (wv1 p), .int .u64 (wv0 p), .int .u64 (wv3 q), .int .u64 (wv2 q), .int .u64 (wv1 q), .int .u64 (wv0 q), .int .u64 (wv3 r), .int .u64 (wv2 r), .int .u64 (wv1 r), .int .u64 (wv0 r)]] w fun v w1 => v = .bool (decide (x = p ∧ y = q ∧ u = r)) ∧ Ext w w1 := by
 refine ct_run (n := 23) Try.func42 rfl Try.ntmps42 rfl ?_
 have E0 : Below w.heap.size w w := Below.refl _ _
 refine rk_seq ?_
 refine rk_reg ?_
 refine lw_e (oe_box (v := .agg #[.int .u64 (wv3 x), .int .u64 (wv2 x), .int .u64 (wv1 x), .int .u64 (wv0 x), .int .u64 (wv3 y), .int .u64 (wv2 y), .int .u64 (wv1 y), .int .u64 (wv0 y), .int .u64 (wv3 u), .int .u64 (wv2 u), .int .u64 (wv1 u), .int .u64 (wv0 u)]) (cs := #[.int .u64 (wv3 x), .int .u64 (wv2 x), .int .u64 (wv1 x), .int .u64 (wv0 x), .int .u64 (wv3 y), .int .u64 (wv2 y), .int .u64 (wv1 y), .int .u64 (wv0 y), .int .u64 (wv3 u), .int .u64 (wv2 u), .int .u64 (wv1 u), .int .u64 (wv0 u)]) (T rfl rfl) rfl ?_)
 intro b1 w2 n3
 have N4 : w.heap.size ≤ b1 := n3.eq ▸ E0.size
 have E5 := below_ext E0 E0.size n3.ext
 refine lw_e (oe_box (v := .agg #[.int .u64 (wv3 p), .int .u64 (wv2 p), .int .u64 (wv1 p), .int .u64 (wv0 p), .int .u64 (wv3 q), .int .u64 (wv2 q), .int .u64 (wv1 q), .int .u64 (wv0 q), .int .u64 (wv3 r), .int .u64 (wv2 r), .int .u64 (wv1 r), .int .u64 (wv0 r)]) (cs := #[.int .u64 (wv3 p), .int .u64 (wv2 p), .int .u64 (wv1 p), .int .u64 (wv0 p), .int .u64 (wv3 q), .int .u64 (wv2 q), .int .u64 (wv1 q), .int .u64 (wv0 q), .int .u64 (wv3 r), .int .u64 (wv2 r), .int .u64 (wv1 r), .int .u64 (wv0 r)]) (T rfl rfl) rfl ?_)
 intro b6 w7 n8
 have N9 : w.heap.size ≤ b6 := n8.eq ▸ E5.size
 have : b1 < b6 := n8.eq ▸ lt_of_blk n3.blk
 have E10 := below_ext E5 E5.size n8.ext
 refine lw_v (.bool false) (dv_assign C) ?_
 refine lw_nil ?_
 refine rk_seq ?_
 refine rk_seq ?_
 refine rk_reg ?_
 refine lw_v (.pointer (some ⟨b1, 0, none⟩)) (dv_fieldAddr (a := ⟨b1, 0, none⟩) (a' := ⟨b1, 0, none⟩) fo49_0 (T rfl rfl) rfl) ?_
 have H11 := (n8.ext.blk n3.blk)
 refine lw_v (.agg #[.int .u64 (wv3 x), .int .u64 (wv2 x), .int .u64 (wv1 x), .int .u64 (wv0 x)]) (dv_loads (l := [.int .u64 (wv3 x), .int .u64 (wv2 x), .int .u64 (wv1 x), .int .u64 (wv0 x)]) agt26 sz26 (T rfl rfl) H11 rfl) ?_
 refine lw_v (.pointer (some ⟨b6, 0, none⟩)) (dv_fieldAddr (a := ⟨b6, 0, none⟩) (a' := ⟨b6, 0, none⟩) fo49_0 (T rfl rfl) rfl) ?_
 refine lw_v (.agg #[.int .u64 (wv3 p), .int .u64 (wv2 p), .int .u64 (wv1 p), .int .u64 (wv0 p)]) (dv_loads (l := [.int .u64 (wv3 p), .int .u64 (wv2 p), .int .u64 (wv1 p), .int .u64 (wv0 p)]) agt26 sz26 (T rfl rfl) n8.blk rfl) ?_
 refine lw_e (oe_callf (vs := [.agg #[.int .u64 (wv3 x), .int .u64 (wv2 x), .int .u64 (wv1 x), .int .u64 (wv0 x)], .agg #[.int .u64 (wv3 p), .int .u64 (wv2 p), .int .u64 (wv1 p), .int .u64 (wv0 p)]]) co25 (ar2 (T rfl rfl) (T rfl rfl)) (eqWide_ok (x := x) (y := p) fx_ fp_ ) ?_)
 rintro _ w12 ⟨rfl, e13⟩
 have E14 := below_ext E10 E10.size e13
 refine lw_v (.bool (decide (¬ (x = p)))) (dv_notd (p := x = p) (T rfl rfl)) ?_
 refine lw_nil ?_
 by_cases hb15 : x = p
 · refine rk_cf (T rfl (congrArg Value.bool (decide_eq_false (not_not_intro hb15)))) ?_
   refine rk_skip ?_
   refine rk_seq ?_
   refine rk_seq ?_
   refine rk_reg ?_
   refine lw_v (.pointer (some ⟨b1, 4, none⟩)) (dv_fieldAddr (a := ⟨b1, 0, none⟩) (a' := ⟨b1, 4, none⟩) fo49_1 (T rfl rfl) rfl) ?_
   have H16 := (e13.blk H11)
   refine lw_v (.agg #[.int .u64 (wv3 y), .int .u64 (wv2 y), .int .u64 (wv1 y), .int .u64 (wv0 y)]) (dv_loads (l := [.int .u64 (wv3 y), .int .u64 (wv2 y), .int .u64 (wv1 y), .int .u64 (wv0 y)]) agt26 sz26 (T rfl rfl) H16 rfl) ?_
   refine lw_v (.pointer (some ⟨b6, 4, none⟩)) (dv_fieldAddr (a := ⟨b6, 0, none⟩) (a' := ⟨b6, 4, none⟩) fo49_1 (T rfl rfl) rfl) ?_
   have H17 := (e13.blk n8.blk)
   refine lw_v (.agg #[.int .u64 (wv3 q), .int .u64 (wv2 q), .int .u64 (wv1 q), .int .u64 (wv0 q)]) (dv_loads (l := [.int .u64 (wv3 q), .int .u64 (wv2 q), .int .u64 (wv1 q), .int .u64 (wv0 q)]) agt26 sz26 (T rfl rfl) H17 rfl) ?_
   refine lw_e (oe_callf (vs := [.agg #[.int .u64 (wv3 y), .int .u64 (wv2 y), .int .u64 (wv1 y), .int .u64 (wv0 y)], .agg #[.int .u64 (wv3 q), .int .u64 (wv2 q), .int .u64 (wv1 q), .int .u64 (wv0 q)]]) co25 (ar2 (T rfl rfl) (T rfl rfl)) (eqWide_ok (x := y) (y := q) fy_ fq_ ) ?_)
   rintro _ w18 ⟨rfl, e19⟩
   have E20 := below_ext E14 E14.size e19
   refine lw_v (.bool (decide (¬ (y = q)))) (dv_notd (p := y = q) (T rfl rfl)) ?_
   refine lw_nil ?_
   by_cases hb21 : y = q
   · refine rk_cf (T rfl (congrArg Value.bool (decide_eq_false (not_not_intro hb21)))) ?_
     refine rk_skip ?_
     refine rk_seq ?_
     refine rk_seq ?_
     refine rk_reg ?_
     refine lw_v (.pointer (some ⟨b1, 8, none⟩)) (dv_fieldAddr (a := ⟨b1, 0, none⟩) (a' := ⟨b1, 8, none⟩) fo49_2 (T rfl rfl) rfl) ?_
     have H22 := (e19.blk H16)
     refine lw_v (.agg #[.int .u64 (wv3 u), .int .u64 (wv2 u), .int .u64 (wv1 u), .int .u64 (wv0 u)]) (dv_loads (l := [.int .u64 (wv3 u), .int .u64 (wv2 u), .int .u64 (wv1 u), .int .u64 (wv0 u)]) agt26 sz26 (T rfl rfl) H22 rfl) ?_
     refine lw_v (.pointer (some ⟨b6, 8, none⟩)) (dv_fieldAddr (a := ⟨b6, 0, none⟩) (a' := ⟨b6, 8, none⟩) fo49_2 (T rfl rfl) rfl) ?_
     have H23 := (e19.blk H17)
     refine lw_v (.agg #[.int .u64 (wv3 r), .int .u64 (wv2 r), .int .u64 (wv1 r), .int .u64 (wv0 r)]) (dv_loads (l := [.int .u64 (wv3 r), .int .u64 (wv2 r), .int .u64 (wv1 r), .int .u64 (wv0 r)]) agt26 sz26 (T rfl rfl) H23 rfl) ?_
     refine lw_e (oe_callf (vs := [.agg #[.int .u64 (wv3 u), .int .u64 (wv2 u), .int .u64 (wv1 u), .int .u64 (wv0 u)], .agg #[.int .u64 (wv3 r), .int .u64 (wv2 r), .int .u64 (wv1 r), .int .u64 (wv0 r)]]) co25 (ar2 (T rfl rfl) (T rfl rfl)) (eqWide_ok (x := u) (y := r) fu_ fr_ ) ?_)
     rintro _ w24 ⟨rfl, e25⟩
     have E26 := below_ext E20 E20.size e25
     refine lw_v (.bool (decide (¬ (u = r)))) (dv_notd (p := u = r) (T rfl rfl)) ?_
     refine lw_nil ?_
     by_cases hb27 : u = r
     · refine rk_cf (T rfl (congrArg Value.bool (decide_eq_false (not_not_intro hb27)))) ?_
       refine rk_skip ?_
       refine rk_seq ?_
       refine rk_reg ?_
       refine lw_v (.bool true) (dv_assign C) ?_
       refine lw_nil ?_
       refine rk_ret Try.func42 (v := .bool true) (res1 Try.results42 (rv_tmp rfl rfl)) ⟨_, rfl, ?_⟩
       exact ⟨(vt (by omega)), E26⟩
     · refine rk_ct (T rfl (congrArg Value.bool (decide_eq_true hb27))) ?_
       refine rk_seq ?_
       refine rk_reg ?_
       refine lw_v (.bool false) (dv_assign C) ?_
       refine lw_nil ?_
       refine rk_ret Try.func42 (v := .bool false) (res1 Try.results42 (rv_tmp rfl rfl)) ⟨_, rfl, ?_⟩
       exact ⟨(vf (by omega)), E26⟩
   · refine rk_ct (T rfl (congrArg Value.bool (decide_eq_true hb21))) ?_
     refine rk_seq ?_
     refine rk_reg ?_
     refine lw_v (.bool false) (dv_assign C) ?_
     refine lw_nil ?_
     refine rk_ret Try.func42 (v := .bool false) (res1 Try.results42 (rv_tmp rfl rfl)) ⟨_, rfl, ?_⟩
     exact ⟨(vf (by omega)), E20⟩
 · refine rk_ct (T rfl (congrArg Value.bool (decide_eq_true hb15))) ?_
   refine rk_seq ?_
   refine rk_reg ?_
   refine lw_v (.bool false) (dv_assign C) ?_
   refine lw_nil ?_
   refine rk_ret Try.func42 (v := .bool false) (res1 Try.results42 (rv_tmp rfl rfl)) ⟨_, rfl, ?_⟩
   exact ⟨(vf (by omega)), E14⟩
end Go.Proofs.Ytfmkadgjoechnaa.W
set_option linter.unusedVariables false
set_option linter.unusedSimpArgs false
namespace Go.Proofs.Ytfmkadgjoechnaa.W
open Go Go.RowKit Go.Proofs.Ytfmkadgjoechnaa.Fw
attribute [local irreducible] RunK LW AW DV OE Ct
theorem co40 : callOk Try.prog 40 = true := by kernel_rfl
theorem co41 : callOk Try.prog 41 = true := by kernel_rfl
theorem co42 : callOk Try.prog 42 = true := by kernel_rfl
set_option maxHeartbeats 1000000 in
theorem lawReadPoint_ok {w : World} {L : List Int} (hL : okW 256 L) (hm : MLn 2 w) : Ct Try.prog 10 [.string (bOf L)] w fun v w1 => v = .bool true ∧ Ext w w1 := by
 refine ct_run (n := 29) Try.func10 rfl Try.ntmps10 rfl ?_
 have E0 : Below w.heap.size w w := Below.refl _ _
 refine rk_seq ?_
 refine rk_reg ?_
 refine lw_v (.bool false) (dv_assign C) ?_
 refine lw_nil ?_
 refine rk_seq ?_
 refine rk_seq ?_
 refine rk_reg ?_
 refine lw_v (.string (bOf L)) (dv_move (T rfl rfl)) ?_
 refine lw_v (.int .i64 ((L.length : Int))) (dv_lenS (L := L) ut9 (T rfl rfl)) ?_
 refine lw_v (.bool (decide (1048576 < ((L.length : Int))))) (dv_gtr (a := (L.length : Int)) (b := 1048576) (T rfl rfl) C) ?_
 refine lw_nil ?_
 by_cases hb1 : 1048576 < ((L.length : Int))
 · refine rk_ct (T rfl (congrArg Value.bool (decide_eq_true hb1))) ?_
   refine rk_seq ?_
   refine rk_reg ?_
   refine lw_v (.bool true) (dv_assign C) ?_
   refine lw_nil ?_
   refine rk_ret Try.func10 (v := .bool true) (res1 Try.results10 (rv_tmp rfl rfl)) ⟨_, rfl, ?_⟩
   exact ⟨rfl, E0⟩
 · refine rk_cf (T rfl (congrArg Value.bool (decide_eq_false hb1))) ?_
   refine rk_skip ?_
   refine rk_seq ?_
   refine rk_reg ?_
   refine lw_v (.string (bOf L)) (dv_move (T rfl rfl)) ?_
   refine lw_e (oe_callf (vs := [.string (bOf L)]) co40 (ar1 (T rfl rfl)) (sReadPoint_ok (hL) (by first | omega | (simp; done) | (simp; omega))) ?_)
   rintro _ w2 ⟨rfl, e3⟩
   have E4 := below_ext E0 E0.size e3
   refine lw_v (.tuple #[.agg #[.int .u64 (wv3 (pkz (rpS L) (rpX L))), .int .u64 (wv2 (pkz (rpS L) (rpX L))), .int .u64 (wv1 (pkz (rpS L) (rpX L))), .int .u64 (wv0 (pkz (rpS L) (rpX L))), .int .u64 (wv3 (pkz (rpS L) (rpY L))), .int .u64 (wv2 (pkz (rpS L) (rpY L))), .int .u64 (wv1 (pkz (rpS L) (rpY L))), .int .u64 (wv0 (pkz (rpS L) (rpY L))), .int .u64 (wv3 (pkz (rpS L) (rpU L))), .int .u64 (wv2 (pkz (rpS L) (rpU L))), .int .u64 (wv1 (pkz (rpS L) (rpU L))), .int .u64 (wv0 (pkz (rpS L) (rpU L)))], .bool (decide (rpS L))]) (dv_move (T rfl rfl)) ?_
   refine lw_v (.agg #[.int .u64 (wv3 (pkz (rpS L) (rpX L))), .int .u64 (wv2 (pkz (rpS L) (rpX L))), .int .u64 (wv1 (pkz (rpS L) (rpX L))), .int .u64 (wv0 (pkz (rpS L) (rpX L))), .int .u64 (wv3 (pkz (rpS L) (rpY L))), .int .u64 (wv2 (pkz (rpS L) (rpY L))), .int .u64 (wv1 (pkz (rpS L) (rpY L))), .int .u64 (wv0 (pkz (rpS L) (rpY L))), .int .u64 (wv3 (pkz (rpS L) (rpU L))), .int .u64 (wv2 (pkz (rpS L) (rpU L))), .int .u64 (wv1 (pkz (rpS L) (rpU L))), .int .u64 (wv0 (pkz (rpS L) (rpU L)))]) (dv_extract (vs := #[.agg #[.int .u64 (wv3 (pkz (rpS L) (rpX L))), .int .u64 (wv2 (pkz (rpS L) (rpX L))), .int .u64 (wv1 (pkz (rpS L) (rpX L))), .int .u64 (wv0 (pkz (rpS L) (rpX L))), .int .u64 (wv3 (pkz (rpS L) (rpY L))), .int .u64 (wv2 (pkz (rpS L) (rpY L))), .int .u64 (wv1 (pkz (rpS L) (rpY L))), .int .u64 (wv0 (pkz (rpS L) (rpY L))), .int .u64 (wv3 (pkz (rpS L) (rpU L))), .int .u64 (wv2 (pkz (rpS L) (rpU L))), .int .u64 (wv1 (pkz (rpS L) (rpU L))), .int .u64 (wv0 (pkz (rpS L) (rpU L)))], .bool (decide (rpS L))]) (T rfl rfl) rfl) ?_
   refine lw_v (.bool (decide (rpS L))) (dv_extract (vs := #[.agg #[.int .u64 (wv3 (pkz (rpS L) (rpX L))), .int .u64 (wv2 (pkz (rpS L) (rpX L))), .int .u64 (wv1 (pkz (rpS L) (rpX L))), .int .u64 (wv0 (pkz (rpS L) (rpX L))), .int .u64 (wv3 (pkz (rpS L) (rpY L))), .int .u64 (wv2 (pkz (rpS L) (rpY L))), .int .u64 (wv1 (pkz (rpS L) (rpY L))), .int .u64 (wv0 (pkz (rpS L) (rpY L))), .int .u64 (wv3 (pkz (rpS L) (rpU L))), .int .u64 (wv2 (pkz (rpS L) (rpU L))), .int .u64 (wv1 (pkz (rpS L) (rpU L))), .int .u64 (wv0 (pkz (rpS L) (rpU L)))], .bool (decide (rpS L))]) (T rfl rfl) rfl) ?_
   refine lw_e (oe_alloc ze49 ?_)
   intro b5 w6 n7
   have N8 : w.heap.size ≤ b5 := n7.eq ▸ E4.size
   have E9 := below_ext E4 E4.size n7.ext
   refine lw_e (oe_store (v := .agg #[.int .u64 (wv3 (pkz (rpS L) (rpX L))), .int .u64 (wv2 (pkz (rpS L) (rpX L))), .int .u64 (wv1 (pkz (rpS L) (rpX L))), .int .u64 (wv0 (pkz (rpS L) (rpX L))), .int .u64 (wv3 (pkz (rpS L) (rpY L))), .int .u64 (wv2 (pkz (rpS L) (rpY L))), .int .u64 (wv1 (pkz (rpS L) (rpY L))), .int .u64 (wv0 (pkz (rpS L) (rpY L))), .int .u64 (wv3 (pkz (rpS L) (rpU L))), .int .u64 (wv2 (pkz (rpS L) (rpU L))), .int .u64 (wv1 (pkz (rpS L) (rpU L))), .int .u64 (wv0 (pkz (rpS L) (rpU L)))]) (vs := [.int .u64 (wv3 (pkz (rpS L) (rpX L))), .int .u64 (wv2 (pkz (rpS L) (rpX L))), .int .u64 (wv1 (pkz (rpS L) (rpX L))), .int .u64 (wv0 (pkz (rpS L) (rpX L))), .int .u64 (wv3 (pkz (rpS L) (rpY L))), .int .u64 (wv2 (pkz (rpS L) (rpY L))), .int .u64 (wv1 (pkz (rpS L) (rpY L))), .int .u64 (wv0 (pkz (rpS L) (rpY L))), .int .u64 (wv3 (pkz (rpS L) (rpU L))), .int .u64 (wv2 (pkz (rpS L) (rpU L))), .int .u64 (wv1 (pkz (rpS L) (rpU L))), .int .u64 (wv0 (pkz (rpS L) (rpU L)))]) (l := [.int .u64 (wv3 (pkz (rpS L) (rpX L))), .int .u64 (wv2 (pkz (rpS L) (rpX L))), .int .u64 (wv1 (pkz (rpS L) (rpX L))), .int .u64 (wv0 (pkz (rpS L) (rpX L))), .int .u64 (wv3 (pkz (rpS L) (rpY L))), .int .u64 (wv2 (pkz (rpS L) (rpY L))), .int .u64 (wv1 (pkz (rpS L) (rpY L))), .int .u64 (wv0 (pkz (rpS L) (rpY L))), .int .u64 (wv3 (pkz (rpS L) (rpU L))), .int .u64 (wv2 (pkz (rpS L) (rpU L))), .int .u64 (wv1 (pkz (rpS L) (rpU L))), .int .u64 (wv0 (pkz (rpS L) (rpU L)))]) (T rfl rfl) (T rfl rfl) sz49 rfl rfl rfl n7.blk rfl ?_)
   intro w10 s11 H12
   have E13 := below_st E9 N8 s11
   refine lw_v (.bool (decide (rpS L))) (dv_assign (T rfl rfl)) ?_
   refine lw_nil ?_
   refine rk_seq ?_
   refine rk_reg ?_
   refine lw_v (.string (bOf L)) (dv_move (T rfl rfl)) ?_
   have h14 := hm.ext E13
   refine lw_e (oe_callf (vs := [.string (bOf L)]) co41 (ar1 (T rfl rfl)) (iReadPoint_ok (hL) (by first | omega | (simp; done) | (simp; omega)) h14) ?_)
   rintro _ w15 ⟨rfl, e16⟩
   have E17 := below_ext E13 E13.size e16
   refine lw_v (.tuple #[.agg #[.int .u64 (wv3 (pkz (rpS L) (rpX L))), .int .u64 (wv2 (pkz (rpS L) (rpX L))), .int .u64 (wv1 (pkz (rpS L) (rpX L))), .int .u64 (wv0 (pkz (rpS L) (rpX L))), .int .u64 (wv3 (pkz (rpS L) (rpY L))), .int .u64 (wv2 (pkz (rpS L) (rpY L))), .int .u64 (wv1 (pkz (rpS L) (rpY L))), .int .u64 (wv0 (pkz (rpS L) (rpY L))), .int .u64 (wv3 (pkz (rpS L) (rpU L))), .int .u64 (wv2 (pkz (rpS L) (rpU L))), .int .u64 (wv1 (pkz (rpS L) (rpU L))), .int .u64 (wv0 (pkz (rpS L) (rpU L)))], .bool (decide (rpS L))]) (dv_move (T rfl rfl)) ?_
   refine lw_v (.agg #[.int .u64 (wv3 (pkz (rpS L) (rpX L))), .int .u64 (wv2 (pkz (rpS L) (rpX L))), .int .u64 (wv1 (pkz (rpS L) (rpX L))), .int .u64 (wv0 (pkz (rpS L) (rpX L))), .int .u64 (wv3 (pkz (rpS L) (rpY L))), .int .u64 (wv2 (pkz (rpS L) (rpY L))), .int .u64 (wv1 (pkz (rpS L) (rpY L))), .int .u64 (wv0 (pkz (rpS L) (rpY L))), .int .u64 (wv3 (pkz (rpS L) (rpU L))), .int .u64 (wv2 (pkz (rpS L) (rpU L))), .int .u64 (wv1 (pkz (rpS L) (rpU L))), .int .u64 (wv0 (pkz (rpS L) (rpU L)))]) (dv_extract (vs := #[.agg #[.int .u64 (wv3 (pkz (rpS L) (rpX L))), .int .u64 (wv2 (pkz (rpS L) (rpX L))), .int .u64 (wv1 (pkz (rpS L) (rpX L))), .int .u64 (wv0 (pkz (rpS L) (rpX L))), .int .u64 (wv3 (pkz (rpS L) (rpY L))), .int .u64 (wv2 (pkz (rpS L) (rpY L))), .int .u64 (wv1 (pkz (rpS L) (rpY L))), .int .u64 (wv0 (pkz (rpS L) (rpY L))), .int .u64 (wv3 (pkz (rpS L) (rpU L))), .int .u64 (wv2 (pkz (rpS L) (rpU L))), .int .u64 (wv1 (pkz (rpS L) (rpU L))), .int .u64 (wv0 (pkz (rpS L) (rpU L)))], .bool (decide (rpS L))]) (T rfl rfl) rfl) ?_
   refine lw_v (.bool (decide (rpS L))) (dv_extract (vs := #[.agg #[.int .u64 (wv3 (pkz (rpS L) (rpX L))), .int .u64 (wv2 (pkz (rpS L) (rpX L))), .int .u64 (wv1 (pkz (rpS L) (rpX L))), .int .u64 (wv0 (pkz (rpS L) (rpX L))), .int .u64 (wv3 (pkz (rpS L) (rpY L))), .int .u64 (wv2 (pkz (rpS L) (rpY L))), .int .u64 (wv1 (pkz (rpS L) (rpY L))), .int .u64 (wv0 (pkz (rpS L) (rpY L))), .int .u64 (wv3 (pkz (rpS L) (rpU L))), .int .u64 (wv2 (pkz (rpS L) (rpU L))), .int .u64 (wv1 (pkz (rpS L) (rpU L))), .int .u64 (wv0 (pkz (rpS L) (rpU L)))], .bool (decide (rpS L))]) (T rfl rfl) rfl) ?_
   refine lw_e (oe_alloc ze49 ?_)
   intro b18 w19 n20
   have N21 : w.heap.size ≤ b18 := n20.eq ▸ E17.size
   have H22 := (e16.blk H12)
   have : b5 < b18 := n20.eq ▸ lt_of_blk H22
   have E23 := below_ext E17 E17.size n20.ext
   refine lw_e (oe_store (v := .agg #[.int .u64 (wv3 (pkz (rpS L) (rpX L))), .int .u64 (wv2 (pkz (rpS L) (rpX L))), .int .u64 (wv1 (pkz (rpS L) (rpX L))), .int .u64 (wv0 (pkz (rpS L) (rpX L))), .int .u64 (wv3 (pkz (rpS L) (rpY L))), .int .u64 (wv2 (pkz (rpS L) (rpY L))), .int .u64 (wv1 (pkz (rpS L) (rpY L))), .int .u64 (wv0 (pkz (rpS L) (rpY L))), .int .u64 (wv3 (pkz (rpS L) (rpU L))), .int .u64 (wv2 (pkz (rpS L) (rpU L))), .int .u64 (wv1 (pkz (rpS L) (rpU L))), .int .u64 (wv0 (pkz (rpS L) (rpU L)))]) (vs := [.int .u64 (wv3 (pkz (rpS L) (rpX L))), .int .u64 (wv2 (pkz (rpS L) (rpX L))), .int .u64 (wv1 (pkz (rpS L) (rpX L))), .int .u64 (wv0 (pkz (rpS L) (rpX L))), .int .u64 (wv3 (pkz (rpS L) (rpY L))), .int .u64 (wv2 (pkz (rpS L) (rpY L))), .int .u64 (wv1 (pkz (rpS L) (rpY L))), .int .u64 (wv0 (pkz (rpS L) (rpY L))), .int .u64 (wv3 (pkz (rpS L) (rpU L))), .int .u64 (wv2 (pkz (rpS L) (rpU L))), .int .u64 (wv1 (pkz (rpS L) (rpU L))), .int .u64 (wv0 (pkz (rpS L) (rpU L)))]) (l := [.int .u64 (wv3 (pkz (rpS L) (rpX L))), .int .u64 (wv2 (pkz (rpS L) (rpX L))), .int .u64 (wv1 (pkz (rpS L) (rpX L))), .int .u64 (wv0 (pkz (rpS L) (rpX L))), .int .u64 (wv3 (pkz (rpS L) (rpY L))), .int .u64 (wv2 (pkz (rpS L) (rpY L))), .int .u64 (wv1 (pkz (rpS L) (rpY L))), .int .u64 (wv0 (pkz (rpS L) (rpY L))), .int .u64 (wv3 (pkz (rpS L) (rpU L))), .int .u64 (wv2 (pkz (rpS L) (rpU L))), .int .u64 (wv1 (pkz (rpS L) (rpU L))), .int .u64 (wv0 (pkz (rpS L) (rpU L)))]) (T rfl rfl) (T rfl rfl) sz49 rfl rfl rfl n20.blk rfl ?_)
   intro w24 s25 H26
   have E27 := below_st E23 N21 s25
   refine lw_v (.bool (decide (rpS L))) (dv_assign (T rfl rfl)) ?_
   refine lw_nil ?_
   refine rk_seq ?_
   refine rk_seq ?_
   refine rk_reg ?_
   refine lw_v (.agg #[.int .u64 (wv3 (pkz (rpS L) (rpX L))), .int .u64 (wv2 (pkz (rpS L) (rpX L))), .int .u64 (wv1 (pkz (rpS L) (rpX L))), .int .u64 (wv0 (pkz (rpS L) (rpX L))), .int .u64 (wv3 (pkz (rpS L) (rpY L))), .int .u64 (wv2 (pkz (rpS L) (rpY L))), .int .u64 (wv1 (pkz (rpS L) (rpY L))), .int .u64 (wv0 (pkz (rpS L) (rpY L))), .int .u64 (wv3 (pkz (rpS L) (rpU L))), .int .u64 (wv2 (pkz (rpS L) (rpU L))), .int .u64 (wv1 (pkz (rpS L) (rpU L))), .int .u64 (wv0 (pkz (rpS L) (rpU L)))]) (dv_loads (l := [.int .u64 (wv3 (pkz (rpS L) (rpX L))), .int .u64 (wv2 (pkz (rpS L) (rpX L))), .int .u64 (wv1 (pkz (rpS L) (rpX L))), .int .u64 (wv0 (pkz (rpS L) (rpX L))), .int .u64 (wv3 (pkz (rpS L) (rpY L))), .int .u64 (wv2 (pkz (rpS L) (rpY L))), .int .u64 (wv1 (pkz (rpS L) (rpY L))), .int .u64 (wv0 (pkz (rpS L) (rpY L))), .int .u64 (wv3 (pkz (rpS L) (rpU L))), .int .u64 (wv2 (pkz (rpS L) (rpU L))), .int .u64 (wv1 (pkz (rpS L) (rpU L))), .int .u64 (wv0 (pkz (rpS L) (rpU L)))]) agt49 sz49 (T rfl rfl) H26 rfl) ?_
   have H28 := (s25.blk (n20.ext.blk H22) (by omega))
   refine lw_v (.agg #[.int .u64 (wv3 (pkz (rpS L) (rpX L))), .int .u64 (wv2 (pkz (rpS L) (rpX L))), .int .u64 (wv1 (pkz (rpS L) (rpX L))), .int .u64 (wv0 (pkz (rpS L) (rpX L))), .int .u64 (wv3 (pkz (rpS L) (rpY L))), .int .u64 (wv2 (pkz (rpS L) (rpY L))), .int .u64 (wv1 (pkz (rpS L) (rpY L))), .int .u64 (wv0 (pkz (rpS L) (rpY L))), .int .u64 (wv3 (pkz (rpS L) (rpU L))), .int .u64 (wv2 (pkz (rpS L) (rpU L))), .int .u64 (wv1 (pkz (rpS L) (rpU L))), .int .u64 (wv0 (pkz (rpS L) (rpU L)))]) (dv_loads (l := [.int .u64 (wv3 (pkz (rpS L) (rpX L))), .int .u64 (wv2 (pkz (rpS L) (rpX L))), .int .u64 (wv1 (pkz (rpS L) (rpX L))), .int .u64 (wv0 (pkz (rpS L) (rpX L))), .int .u64 (wv3 (pkz (rpS L) (rpY L))), .int .u64 (wv2 (pkz (rpS L) (rpY L))), .int .u64 (wv1 (pkz (rpS L) (rpY L))), .int .u64 (wv0 (pkz (rpS L) (rpY L))), .int .u64 (wv3 (pkz (rpS L) (rpU L))), .int .u64 (wv2 (pkz (rpS L) (rpU L))), .int .u64 (wv1 (pkz (rpS L) (rpU L))), .int .u64 (wv0 (pkz (rpS L) (rpU L)))]) agt49 sz49 (T rfl rfl) H28 rfl) ?_
   refine lw_e (oe_callf (vs := [.agg #[.int .u64 (wv3 (pkz (rpS L) (rpX L))), .int .u64 (wv2 (pkz (rpS L) (rpX L))), .int .u64 (wv1 (pkz (rpS L) (rpX L))), .int .u64 (wv0 (pkz (rpS L) (rpX L))), .int .u64 (wv3 (pkz (rpS L) (rpY L))), .int .u64 (wv2 (pkz (rpS L) (rpY L))), .int .u64 (wv1 (pkz (rpS L) (rpY L))), .int .u64 (wv0 (pkz (rpS L) (rpY L))), .int .u64 (wv3 (pkz (rpS L) (rpU L))), .int .u64 (wv2 (pkz (rpS L) (rpU L))), .int .u64 (wv1 (pkz (rpS L) (rpU L))), .int .u64 (wv0 (pkz (rpS L) (rpU L)))], .agg #[.int .u64 (wv3 (pkz (rpS L) (rpX L))), .int .u64 (wv2 (pkz (rpS L) (rpX L))), .int .u64 (wv1 (pkz (rpS L) (rpX L))), .int .u64 (wv0 (pkz (rpS L) (rpX L))), .int .u64 (wv3 (pkz (rpS L) (rpY L))), .int .u64 (wv2 (pkz (rpS L) (rpY L))), .int .u64 (wv1 (pkz (rpS L) (rpY L))), .int .u64 (wv0 (pkz (rpS L) (rpY L))), .int .u64 (wv3 (pkz (rpS L) (rpU L))), .int .u64 (wv2 (pkz (rpS L) (rpU L))), .int .u64 (wv1 (pkz (rpS L) (rpU L))), .int .u64 (wv0 (pkz (rpS L) (rpU L)))]]) co42 (ar2 (T rfl rfl) (T rfl rfl)) (eqPoint_ok (x := pkz (rpS L) (rpX L)) (y := pkz (rpS L) (rpY L)) (u := pkz (rpS L) (rpU L)) (p := pkz (rpS L) (rpX L)) (q := pkz (rpS L) (rpY L)) (r := pkz (rpS L) (rpU L)) (fits_pkz fun _ => rpX_f _) (fits_pkz fun _ => rpY_f _) (fits_pkz fun _ => rpU_f _) (fits_pkz fun _ => rpX_f _) (fits_pkz fun _ => rpY_f _) (fits_pkz fun _ => rpU_f _) ) ?_)
   rintro _ w29 ⟨rfl, e30⟩
   have E31 := below_ext E27 E27.size e30
   refine lw_v (.bool (decide (¬ ((pkz (rpS L) (rpX L)) = (pkz (rpS L) (rpX L)) ∧ (pkz (rpS L) (rpY L)) = (pkz (rpS L) (rpY L)) ∧ (pkz (rpS L) (rpU L)) = (pkz (rpS L) (rpU L)))))) (dv_notd (p := (pkz (rpS L) (rpX L)) = (pkz (rpS L) (rpX L)) ∧ (pkz (rpS L) (rpY L)) = (pkz (rpS L) (rpY L)) ∧ (pkz (rpS L) (rpU L)) = (pkz (rpS L) (rpU L))) (T rfl rfl)) ?_
   refine lw_v (.bool (decide (¬ ((pkz (rpS L) (rpX L)) = (pkz (rpS L) (rpX L)) ∧ (pkz (rpS L) (rpY L)) = (pkz (rpS L) (rpY L)) ∧ (pkz (rpS L) (rpU L)) = (pkz (rpS L) (rpU L)))))) (dv_move (T rfl rfl)) ?_
   by_cases hb32 : (pkz (rpS L) (rpX L)) = (pkz (rpS L) (rpX L)) ∧ (pkz (rpS L) (rpY L)) = (pkz (rpS L) (rpY L)) ∧ (pkz (rpS L) (rpU L)) = (pkz (rpS L) (rpU L))
   · refine lw_vy (.bool (decide (rpS L))) (d := 24) rfl rfl (congrArg Value.bool (decide_eq_false (not_not_intro hb32))) (dv_move (T rfl rfl)) ?_
     refine lw_vy (.bool (decide (rpS L))) (d := 24) rfl rfl (congrArg Value.bool (decide_eq_false (not_not_intro hb32))) (dv_move (T rfl rfl)) ?_
     refine lw_vy (.bool ((decide (rpS L)) != (decide (rpS L)))) (d := 24) rfl rfl (congrArg Value.bool (decide_eq_false (not_not_intro hb32))) (dv_neqb (a := decide (rpS L)) (b := decide (rpS L)) ub4 (T rfl rfl) (T rfl rfl)) ?_
     refine lw_v (.bool ((decide (rpS L)) != (decide (rpS L)))) (dv_pick_f (T rfl (congrArg Value.bool (decide_eq_false (not_not_intro hb32)))) (T rfl rfl)) ?_
     refine lw_nil ?_
     rcases Bool.eq_false_or_eq_true ((decide (rpS L)) != (decide (rpS L))) with hb33 | hb33
     · refine rk_ct (T rfl (congrArg Value.bool hb33)) ?_
       refine rk_seq ?_
       refine rk_reg ?_
       refine lw_v (.bool false) (dv_assign C) ?_
       refine lw_nil ?_
       refine rk_ret Try.func10 (v := .bool false) (res1 Try.results10 (rv_tmp rfl rfl)) ⟨_, rfl, ?_⟩
       exact ⟨(by exfalso; first | contradiction | exact absurd rfl (by assumption) | (simp at *; done) | grind), E31⟩
     · refine rk_cf (T rfl (congrArg Value.bool hb33)) ?_
       refine rk_skip ?_
       refine rk_seq ?_
       refine rk_reg ?_
       refine lw_v (.bool true) (dv_assign C) ?_
       refine lw_nil ?_
       refine rk_ret Try.func10 (v := .bool true) (res1 Try.results10 (rv_tmp rfl rfl)) ⟨_, rfl, ?_⟩
       exact ⟨rfl, E31⟩
   · refine lw_no (d := 24) rfl rfl (congrArg Value.bool (decide_eq_true hb32)) ?_
     refine lw_no (d := 24) rfl rfl (congrArg Value.bool (decide_eq_true hb32)) ?_
     refine lw_no (d := 24) rfl rfl (congrArg Value.bool (decide_eq_true hb32)) ?_
     refine lw_v (.bool true) (dv_pick_t (T rfl (congrArg Value.bool (decide_eq_true hb32))) C) ?_
     refine lw_nil ?_
     refine rk_ct (T rfl rfl) ?_
     refine rk_seq ?_
     refine rk_reg ?_
     refine lw_v (.bool false) (dv_assign C) ?_
     refine lw_nil ?_
     refine rk_ret Try.func10 (v := .bool false) (res1 Try.results10 (rv_tmp rfl rfl)) ⟨_, rfl, ?_⟩
     exact ⟨(by exfalso; first | contradiction | exact absurd rfl (by assumption) | (simp at *; done) | grind), E31⟩
theorem lawReadPoint_w {w : World} {s : ByteArray} (hm : MLn 2 w) : Ct Try.prog 10 [.string s] w fun v w1 => v = .bool true ∧ Ext w w1 := by
 obtain ⟨L, rfl, hL⟩ := bOf_all s
 exact lawReadPoint_ok hL hm
end Go.Proofs.Ytfmkadgjoechnaa.W
