/- Walks and plain mathematics, packed by a program of this session: declarations that the rows reach. -/
import Derived.Test.YtfmkadgjoechnaaPpe
set_option linter.unusedVariables false
set_option linter.unusedSimpArgs false
namespace Go.Proofs.Ytfmkadgjoechnaa.W
open Go Go.RowKit Go.Proofs.Ytfmkadgjoechnaa.Fw
attribute [local irreducible] RunK LW AW DV OE Ct
theorem co56 : callOk Try.prog 56 = true := by kernel_rfl
theorem co58 : callOk Try.prog 58 = true := by kernel_rfl
theorem co59 : callOk Try.prog 59 = true := by kernel_rfl
theorem co66 : callOk Try.prog 66 = true := by kernel_rfl
theorem co78 : callOk Try.prog 78 = true := by kernel_rfl
set_option maxHeartbeats 1000000 in
theorem readNum_ok {w : World} {L : List Int} {S : Nat} (hL : okW 256 L) (hl : L.length ≤ 1048576) (hS : 400 ≤ S ∧ S ≤ 1000) : Ct Try.prog 59 [.string (bOf L)] w fun v w1 => ∃ nr A' n c' z, v = .tuple #[.agg #[.bool nr, .slice A' n c'], .bool (decide (canD L ∧ L.length ≤ 100))] ∧ Ext w w1 ∧ Num 64 24 .u64 w1 nr A' n c' z S ∧ (canD L ∧ L.length ≤ 100 → z = numD L) := by
 refine ct_run (n := 65) Try.func59 rfl Try.ntmps59 rfl ?_
 have E0 : Below w.heap.size w w := Below.refl _ _
 refine rk_seq ?_
 refine rk_reg ?_
 refine lw_e (oe_alloc ze59 ?_)
 intro b1 w2 n3
 have N4 : w.heap.size ≤ b1 := n3.eq ▸ E0.size
 have E5 := below_ext E0 E0.size n3.ext
 refine lw_v (.bool false) (dv_assign C) ?_
 refine lw_nil ?_
 refine rk_seq ?_
 refine rk_reg ?_
 refine lw_v (.string (bOf L)) (dv_move (T rfl rfl)) ?_
 refine lw_v (.string (bOf L)) (dv_assign (T rfl rfl)) ?_
 refine lw_v (.bool false) (dv_assign C) ?_
 refine lw_nil ?_
 refine rk_seq ?_
 refine rk_join (fun fr wl => ∃ (D : List Int) (ng : Bool), fr 0 = .string (bOf L) ∧ fr 2 = .pointer (some ⟨b1, 0, none⟩) ∧ fr 3 = .bool false ∧ fr 4 = .string (bOf D) ∧ fr 5 = .bool ng ∧ Below w.heap.size w wl ∧ wl.heap[b1]? = some (.cells #[.bool false, .slice none 0 0] 59) ∧ (digD L = D) ∧ (negD L = ng) ∧ (D.length ≤ L.length)) ?_ (fun hj8 => ?_)
 · intro fr9 w6 hI7
   obtain ⟨D, ng, f10, f11, f12, f13, f14, E15, H16, hD, hng, hDl⟩ := hI7
   refine rk_seq ?_
   refine rk_seq ?_
   refine rk_reg ?_
   refine lw_v (.string (bOf D)) (dv_move (T rfl f13)) ?_
   refine lw_v (.int .i64 ((D.length : Int))) (dv_lenS (L := D) ut9 (T rfl rfl)) ?_
   refine lw_v (.bool (decide (((D.length : Int)) = 0))) (dv_eql (a := (D.length : Int)) (b := 0) (T rfl rfl) C) ?_
   refine lw_v (.bool (decide (((D.length : Int)) = 0))) (dv_move (T rfl rfl)) ?_
   by_cases hb17 : ((D.length : Int)) = 0
   · refine lw_no (d := 22) rfl rfl (congrArg Value.bool (decide_eq_true hb17)) ?_
     refine lw_no (d := 22) rfl rfl (congrArg Value.bool (decide_eq_true hb17)) ?_
     refine lw_no (d := 22) rfl rfl (congrArg Value.bool (decide_eq_true hb17)) ?_
     refine lw_v (.bool true) (dv_pick_t (T rfl (congrArg Value.bool (decide_eq_true hb17))) C) ?_
     refine lw_nil ?_
     refine rk_ct (T rfl rfl) ?_
     refine rk_seq ?_
     refine rk_reg ?_
     refine lw_v (.agg #[.bool false, .slice none 0 0]) (dv_build (pv := []) (l := [.bool false, .slice none 0 0]) zc59 pl59 trivial rfl) ?_
     refine lw_e (oe_store (v := .agg #[.bool false, .slice none 0 0]) (vs := [.bool false, .slice none 0 0]) (l := [.bool false, .slice none 0 0]) (T rfl f11) (T rfl rfl) sz59 rfl rfl rfl H16 rfl ?_)
     intro w18 s19 H20
     have E21 := below_st E15 N4 s19
     refine lw_v (.bool false) (dv_assign C) ?_
     refine lw_nil ?_
     refine rk_ret Try.func59 (v := .tuple #[.agg #[.bool false, .slice none 0 0], .bool false]) (res2 Try.results59 (rv_cells (l := [.bool false, .slice none 0 0]) agt59 sz59 rfl f11 H20 rfl) (rv_tmp rfl rfl)) ⟨_, rfl, ?_⟩
     have hno : ¬ (canD L ∧ L.length ≤ 100) := (fun hh => by have h1 := (form_of_canD hh.1).1; rw [hD] at h1; have h2 := hh.2; omega)
     exact ⟨_, _, _, _, 0, tu2 rfl (vf hno), E21, Num.zero, fun hh => absurd hh hno⟩
   · refine lw_vy (.string (bOf L)) (d := 22) rfl rfl (congrArg Value.bool (decide_eq_false hb17)) (dv_move (T rfl f10)) ?_
     refine lw_vy (.int .i64 ((L.length : Int))) (d := 22) rfl rfl (congrArg Value.bool (decide_eq_false hb17)) (dv_lenS (L := L) ut9 (T rfl rfl)) ?_
     refine lw_vy (.bool (decide (100 < ((L.length : Int))))) (d := 22) rfl rfl (congrArg Value.bool (decide_eq_false hb17)) (dv_gtr (a := (L.length : Int)) (b := 100) (T rfl rfl) C) ?_
     refine lw_v (.bool (decide (100 < ((L.length : Int))))) (dv_pick_f (T rfl (congrArg Value.bool (decide_eq_false hb17))) (T rfl rfl)) ?_
     refine lw_nil ?_
     by_cases hb22 : 100 < ((L.length : Int))
     · refine rk_ct (T rfl (congrArg Value.bool (decide_eq_true hb22))) ?_
       refine rk_seq ?_
       refine rk_reg ?_
       refine lw_v (.agg #[.bool false, .slice none 0 0]) (dv_build (pv := []) (l := [.bool false, .slice none 0 0]) zc59 pl59 trivial rfl) ?_
       refine lw_e (oe_store (v := .agg #[.bool false, .slice none 0 0]) (vs := [.bool false, .slice none 0 0]) (l := [.bool false, .slice none 0 0]) (T rfl f11) (T rfl rfl) sz59 rfl rfl rfl H16 rfl ?_)
       intro w23 s24 H25
       have E26 := below_st E15 N4 s24
       refine lw_v (.bool false) (dv_assign C) ?_
       refine lw_nil ?_
       refine rk_ret Try.func59 (v := .tuple #[.agg #[.bool false, .slice none 0 0], .bool false]) (res2 Try.results59 (rv_cells (l := [.bool false, .slice none 0 0]) agt59 sz59 rfl f11 H25 rfl) (rv_tmp rfl rfl)) ⟨_, rfl, ?_⟩
       have hno : ¬ (canD L ∧ L.length ≤ 100) := (fun hh => by have h1 := (form_of_canD hh.1).1; rw [hD] at h1; have h2 := hh.2; omega)
       exact ⟨_, _, _, _, 0, tu2 rfl (vf hno), E26, Num.zero, fun hh => absurd hh hno⟩
     · refine rk_cf (T rfl (congrArg Value.bool (decide_eq_false hb22))) ?_
       refine rk_skip ?_
       refine rk_seq ?_
       refine rk_reg ?_
       refine lw_v (.agg #[.bool false, .slice none 0 0]) (dv_build (pv := []) (l := [.bool false, .slice none 0 0]) zc59 pl59 trivial rfl) ?_
       refine lw_e (oe_alloc ze59 ?_)
       intro b27 w28 n29
       have N30 : w.heap.size ≤ b27 := n29.eq ▸ E15.size
       have : b1 < b27 := n29.eq ▸ lt_of_blk H16
       have E31 := below_ext E15 E15.size n29.ext
       refine lw_e (oe_store (v := .agg #[.bool false, .slice none 0 0]) (vs := [.bool false, .slice none 0 0]) (l := [.bool false, .slice none 0 0]) (T rfl rfl) (T rfl rfl) sz59 rfl rfl rfl n29.blk rfl ?_)
       intro w32 s33 H34
       have E35 := below_st E31 N30 s33
       refine lw_nil ?_
       refine rk_seq ?_
       refine rk_seq ?_
       refine rk_reg ?_
       refine lw_v (.string (bOf D)) (dv_move (T rfl f13)) ?_
       refine lw_v (.int .i64 ((D.length : Int))) (dv_lenS (L := D) ut9 (T rfl rfl)) ?_
       refine lw_v (.int .i64 0) (dv_move C) ?_
       refine lw_nil ?_
       refine rk_block ?_
       have H36 := (s33.blk (n29.ext.blk H16) (by omega))
       refine rk_loop (fun dm_ fr wl => ∃ (i : Nat) (nz : Bool) (Az : Option Addr) (lz cz : Nat), dm_ = D.length - i ∧ fr 0 = .string (bOf L) ∧ fr 2 = .pointer (some ⟨b1, 0, none⟩) ∧ fr 4 = .string (bOf D) ∧ fr 5 = .bool ng ∧ fr 6 = .pointer (some ⟨b27, 0, none⟩) ∧ fr 30 = .int .i64 ((D.length : Int)) ∧ fr 31 = .int .i64 ((i : Int)) ∧ Below w.heap.size w wl ∧ wl.heap[b1]? = some (.cells #[.bool false, .slice none 0 0] 59) ∧ wl.heap[b27]? = some (.cells #[.bool nz, .slice Az lz cz] 59) ∧ Num 64 24 .u64 wl nz Az lz cz (valD (D.take i)) S ∧ (i ≤ D.length) ∧ (∀ c ∈ D.take i, isD c)) (D.length - 0) ⟨0, false, none, 0, 0, rfl, f10, f11, f13, f14, rfl, rfl, (vi (by omega)), E35, H36, H34, Num.zero, (Nat.zero_le _), (fun c hc => by cases hc)⟩ ?_
       intro d41 fr40 w37 hI38 ih39
       obtain ⟨i, nz, Az, lz, cz, hd53, f42, f43, f44, f45, f46, f47, f48, E49, H50, H51, h52, hi, hdg⟩ := hI38
       have lh52 := Num.len (by decide) h52
       refine rk_seq ?_
       refine rk_reg ?_
       refine lw_v (.bool (decide (((i : Int)) < ((D.length : Int))))) (dv_lss (a := (i : Int)) (b := (D.length : Int)) (T rfl f48) (T rfl f47)) ?_
       refine lw_nil ?_
       refine rk_seq ?_
       by_cases hb54 : ((i : Int)) < ((D.length : Int))
       · refine rk_ct (T rfl (congrArg Value.bool (decide_eq_true hb54))) ?_
         refine rk_skip ?_
         refine rk_seq ?_
         refine rk_block ?_
         refine rk_seq ?_
         refine rk_reg ?_
         refine lw_v (.int .i64 ((i : Int))) (dv_move (T rfl f48)) ?_
         refine lw_v (.int .i64 ((i : Int))) (dv_assign (T rfl rfl)) ?_
         refine lw_nil ?_
         refine rk_seq ?_
         refine rk_seq ?_
         refine rk_reg ?_
         refine lw_v (.string (bOf D)) (dv_move (T rfl f44)) ?_
         refine lw_v (.int .i64 ((i : Int))) (dv_move (T rfl rfl)) ?_
         have bg55 := okW.getD (okD hD hL) (by decide) i
         refine lw_v (.int .u8 (D.getD i 0)) (dv_indexS (L := D) (i := i) (j := (i : Int)) ut9 (T rfl rfl) (T rfl rfl) (okD hD hL) (by omega) (by first | omega | (simp; done) | (simp; omega))) ?_
         refine lw_v (.bool (decide ((D.getD i 0) < 48))) (dv_lss (a := D.getD i 0) (b := 48) (T rfl rfl) C) ?_
         refine lw_v (.bool (decide ((D.getD i 0) < 48))) (dv_move (T rfl rfl)) ?_
         by_cases hb56 : (D.getD i 0) < 48
         · refine lw_no (d := 38) rfl rfl (congrArg Value.bool (decide_eq_true hb56)) ?_
           refine lw_no (d := 38) rfl rfl (congrArg Value.bool (decide_eq_true hb56)) ?_
           refine lw_no (d := 38) rfl rfl (congrArg Value.bool (decide_eq_true hb56)) ?_
           refine lw_no (d := 38) rfl rfl (congrArg Value.bool (decide_eq_true hb56)) ?_
           refine lw_v (.bool true) (dv_pick_t (T rfl (congrArg Value.bool (decide_eq_true hb56))) C) ?_
           refine lw_nil ?_
           refine rk_ct (T rfl rfl) ?_
           refine rk_seq ?_
           refine rk_reg ?_
           refine lw_v (.agg #[.bool false, .slice none 0 0]) (dv_build (pv := []) (l := [.bool false, .slice none 0 0]) zc59 pl59 trivial rfl) ?_
           refine lw_e (oe_store (v := .agg #[.bool false, .slice none 0 0]) (vs := [.bool false, .slice none 0 0]) (l := [.bool false, .slice none 0 0]) (T rfl f43) (T rfl rfl) sz59 rfl rfl rfl H50 rfl ?_)
           intro w57 s58 H59
           have E60 := below_st E49 N4 s58
           refine lw_v (.bool false) (dv_assign C) ?_
           refine lw_nil ?_
           refine rk_ret Try.func59 (v := .tuple #[.agg #[.bool false, .slice none 0 0], .bool false]) (res2 Try.results59 (rv_cells (l := [.bool false, .slice none 0 0]) agt59 sz59 rfl f43 H59 rfl) (rv_tmp rfl rfl)) ⟨_, rfl, ?_⟩
           have hno : ¬ (canD L ∧ L.length ≤ 100) := (fun hh => not_formD hD (i := i) (by omega) (fun hd => by unfold isD at hd; omega) (form_of_canD hh.1))
           exact ⟨_, _, _, _, 0, tu2 rfl (vf hno), E60, Num.zero, fun hh => absurd hh hno⟩
         · refine lw_vy (.string (bOf D)) (d := 38) rfl rfl (congrArg Value.bool (decide_eq_false hb56)) (dv_move (T rfl f44)) ?_
           refine lw_vy (.int .i64 ((i : Int))) (d := 38) rfl rfl (congrArg Value.bool (decide_eq_false hb56)) (dv_move (T rfl rfl)) ?_
           have bg61 := okW.getD (okD hD hL) (by decide) i
           refine lw_vy (.int .u8 (D.getD i 0)) (d := 38) rfl rfl (congrArg Value.bool (decide_eq_false hb56)) (dv_indexS (L := D) (i := i) (j := (i : Int)) ut9 (T rfl rfl) (T rfl rfl) (okD hD hL) (by omega) (by first | omega | (simp; done) | (simp; omega))) ?_
           refine lw_vy (.bool (decide (57 < (D.getD i 0)))) (d := 38) rfl rfl (congrArg Value.bool (decide_eq_false hb56)) (dv_gtr (a := D.getD i 0) (b := 57) (T rfl rfl) C) ?_
           refine lw_v (.bool (decide (57 < (D.getD i 0)))) (dv_pick_f (T rfl (congrArg Value.bool (decide_eq_false hb56))) (T rfl rfl)) ?_
           refine lw_nil ?_
           by_cases hb62 : 57 < (D.getD i 0)
           · refine rk_ct (T rfl (congrArg Value.bool (decide_eq_true hb62))) ?_
             refine rk_seq ?_
             refine rk_reg ?_
             refine lw_v (.agg #[.bool false, .slice none 0 0]) (dv_build (pv := []) (l := [.bool false, .slice none 0 0]) zc59 pl59 trivial rfl) ?_
             refine lw_e (oe_store (v := .agg #[.bool false, .slice none 0 0]) (vs := [.bool false, .slice none 0 0]) (l := [.bool false, .slice none 0 0]) (T rfl f43) (T rfl rfl) sz59 rfl rfl rfl H50 rfl ?_)
             intro w63 s64 H65
             have E66 := below_st E49 N4 s64
             refine lw_v (.bool false) (dv_assign C) ?_
             refine lw_nil ?_
             refine rk_ret Try.func59 (v := .tuple #[.agg #[.bool false, .slice none 0 0], .bool false]) (res2 Try.results59 (rv_cells (l := [.bool false, .slice none 0 0]) agt59 sz59 rfl f43 H65 rfl) (rv_tmp rfl rfl)) ⟨_, rfl, ?_⟩
             have hno : ¬ (canD L ∧ L.length ≤ 100) := (fun hh => not_formD hD (i := i) (by omega) (fun hd => by unfold isD at hd; omega) (form_of_canD hh.1))
             exact ⟨_, _, _, _, 0, tu2 rfl (vf hno), E66, Num.zero, fun hh => absurd hh hno⟩
           · refine rk_cf (T rfl (congrArg Value.bool (decide_eq_false hb62))) ?_
             refine rk_skip ?_
             refine rk_any (fun w => w.heap[b27]? = some (.cells #[.bool nz, .slice Az lz cz] 59)) [10] mo ?_
             intro w67 d68
             have E69 := below_ext E49 E49.size d68.ext
             have H70 := (d68.ext.blk H51)
             refine aw_load 0 (.agg #[.bool nz, .slice Az lz cz]) rfl (by kernel_rfl) .none H70 (fun _ s => dv_loads (l := [.bool nz, .slice Az lz cz]) agt59 sz59 (T rfl f46) s rfl) ?_
             refine aw_pure 3 (.string (bOf D)) rfl (by kernel_rfl) .none H70 (fun _ => dv_move (T rfl f44)) ?_
             refine aw_pure 4 (.int .i64 ((i : Int))) rfl (by kernel_rfl) .none H70 (fun _ => dv_move (T rfl rfl)) ?_
             have bg71 := okW.getD (okD hD hL) (by decide) i
             refine aw_pure 5 (.int .u8 (D.getD i 0)) rfl (by kernel_rfl) .none H70 (fun _ => dv_indexS (L := D) (i := i) (j := (i : Int)) ut9 (T rfl rfl) (T rfl rfl) (okD hD hL) (by omega) (by first | omega | (simp; done) | (simp; omega))) ?_
             refine aw_pure 6 (.int .u8 ((D.getD i 0) - 48)) rfl (by kernel_rfl) .none H70 (fun _ => dv_sub (a := D.getD i 0) (b := 48) (z := (D.getD i 0) - 48) (T rfl rfl) C (wn_u8 (by omega) (by omega))) ?_
             refine aw_pure 7 (.int .i64 ((D.getD i 0) - 48)) rfl (by kernel_rfl) .none H70 (fun _ => dv_conv (a := (D.getD i 0) - 48) (z := (D.getD i 0) - 48) ui5 ui2 (T rfl rfl) (wr_i64 (by omega) (by omega))) ?_
             refine aw_one 1 rfl (by kernel_rfl) .none (oe_callf (vs := [.int .i64 10]) co57 (ar1 C) (whole_ok  (by omega)) ?_)
             rintro _ w77 ⟨nr72, A73, n74, c75, rfl, e78, h76⟩
             have E79 := below_ext E69 E69.size e78
             have lh76 := Num.len (by decide) h76
             have H80 := (e78.blk H70)
             refine ⟨.inr H80, ?_⟩
             have h81 := ((h52.ext d68.ext).ext e78)
             refine aw_one 2 rfl (by kernel_rfl) .none (oe_callf (vs := [.agg #[.bool nz, .slice Az lz cz], .agg #[.bool nr72, .slice A73 n74 c75]]) co56 (ar2 (T rfl rfl) (T rfl rfl)) (nby_ok h81 h76 (by first | decide | omega) (by first | decide | omega)) ?_)
             rintro _ w87 ⟨nr82, A83, n84, c85, rfl, e88, h86⟩
             have E89 := below_ext E79 E79.size e88
             have lh86 := Num.len (by decide) h86
             have H90 := (e88.blk H80)
             refine ⟨.inr H90, ?_⟩
             refine aw_one 8 rfl (by kernel_rfl) .none (oe_callf (vs := [.int .i64 ((D.getD i 0) - 48)]) co57 (ar1 (T rfl rfl)) (whole_ok  (by omega)) ?_)
             rintro _ w96 ⟨nr91, A92, n93, c94, rfl, e97, h95⟩
             have E98 := below_ext E89 E89.size e97
             have lh95 := Num.len (by decide) h95
             have H99 := (e97.blk H90)
             refine ⟨.inr H99, ?_⟩
             have h100 := (h86.ext e97)
             refine aw_one 9 rfl (by kernel_rfl) .none (oe_callf (vs := [.agg #[.bool nr82, .slice A83 n84 c85], .agg #[.bool nr91, .slice A92 n93 c94]]) co53 (ar2 (T rfl rfl) (T rfl rfl)) (plus_ok h100 h95 (by first | decide | omega) (by first | decide | omega)) ?_)
             rintro _ w106 ⟨nr101, A102, n103, c104, rfl, e107, h105⟩
             have E108 := below_ext E98 E98.size e107
             have lh105 := Num.len (by decide) h105
             have H109 := (e107.blk H99)
             refine ⟨.inr H109, ?_⟩
             refine aw_one 10 rfl (by kernel_rfl) .none (oe_store (v := .agg #[.bool nr101, .slice A102 n103 c104]) (vs := [.bool nr101, .slice A102 n103 c104]) (l := [.bool nr101, .slice A102 n103 c104]) (T rfl f46) (T rfl rfl) sz59 rfl rfl rfl H109 rfl ?_)
             intro w110 s111 H112
             have E113 := below_st E108 N30 s111
             refine ⟨.inl rfl, ?_⟩
             refine aw_done (by kernel_rfl) ?_
             refine rk_inBlock ?_
             refine rk_reg ?_
             refine lw_v (.int .i64 (((i : Int)) + 1)) (dv_add (a := (i : Int)) (b := 1) (z := ((i : Int)) + 1) (T rfl f48) C (wr_i64 (by omega) (by omega))) ?_
             refine lw_v (.int .i64 (((i : Int)) + 1)) (dv_move (T rfl rfl)) ?_
             refine lw_nil ?_
             have h114 := (h105.st s111 H109 (by decide))
             have hd115 : ∀ c ∈ D.take (i + 1), isD c := isD_take (by omega) hdg ⟨by omega, by omega⟩
             have H116 := (s111.blk (e107.blk (e97.blk (e88.blk (e78.blk (d68.ext.blk H50))))) (by omega))
             exact ih39 (D.length - ((i + 1))) _ _ (by rw [hd53]; omega) ⟨(i + 1), nr101, A102, n103, c104, rfl, f42, f43, f44, f45, f46, f47, (vi (by omega)), E113, H116, H112, (h114.tight (valD_take (by omega)).symm (valD_sz hd115 (by simp; omega))), (by omega), hd115⟩
       · refine rk_cf (T rfl (congrArg Value.bool (decide_eq_false hb54))) ?_
         refine rk_exit rfl ?_
         refine rk_seq ?_
         refine rk_reg ?_
         refine lw_v (.bool ng) (dv_move (T rfl f45)) ?_
         refine lw_v (.pointer (some ⟨b27, 1, none⟩)) (dv_fieldAddr (a := ⟨b27, 0, none⟩) (a' := ⟨b27, 1, none⟩) fo59_1 (T rfl f46) rfl) ?_
         refine lw_v (.slice Az lz cz) (dv_load1 (b := b27) (o := 1) agt57 (T rfl rfl) H51 rfl) ?_
         refine lw_e (oe_callf (vs := [.bool ng, .slice Az lz cz]) co81 (ar2 (T rfl rfl) (T rfl rfl)) (made_num (s := S) (neg := ng) h52.wc.ws (by first | omega | (simp; done) | (simp; omega)) h52.ltI) ?_)
         rintro _ w120 ⟨nb117, n118, rfl, e121, hn119⟩
         have E122 := below_ext E49 E49.size e121
         have lhn119 := Num.len (by decide) hn119
         have H123 := (e121.blk H51)
         refine lw_e (oe_store (v := .agg #[.bool nb117, .slice Az n118 cz]) (vs := [.bool nb117, .slice Az n118 cz]) (l := [.bool nb117, .slice Az n118 cz]) (T rfl f46) (T rfl rfl) sz59 rfl rfl rfl H123 rfl ?_)
         intro w124 s125 H126
         have E127 := below_st E122 N30 s125
         refine lw_nil ?_
         refine rk_seq ?_
         refine rk_any (fun w => w.heap[b27]? = some (.cells #[.bool nb117, .slice Az n118 cz] 59)) [6] mo ?_
         intro w128 d129
         have E130 := below_ext E127 E127.size d129.ext
         have H131 := (d129.ext.blk H126)
         refine aw_load 0 (.agg #[.bool nb117, .slice Az n118 cz]) rfl (by kernel_rfl) .none H131 (fun _ s => dv_loads (l := [.bool nb117, .slice Az n118 cz]) agt59 sz59 (T rfl f46) s rfl) ?_
         refine aw_load 1 (.agg #[.bool nb117, .slice Az n118 cz]) rfl (by kernel_rfl) .none H131 (fun _ s => dv_loads (l := [.bool nb117, .slice Az n118 cz]) agt59 sz59 (T rfl f46) s rfl) ?_
         refine aw_pure 3 (.string (bOf L)) rfl (by kernel_rfl) .none H131 (fun _ => dv_move (T rfl f42)) ?_
         have h132 := ((hn119.st s125 H123 (by decide)).ext d129.ext)
         refine aw_one 2 rfl (by kernel_rfl) .none (oe_callf (vs := [.agg #[.bool nb117, .slice Az n118 cz]]) co66 (ar1 (T rfl rfl)) (ntext_ok h132 (by first | decide | omega)) ?_)
         rintro _ w134 ⟨rfl, e135⟩
         have E136 := below_ext E130 E130.size e135
         have ht133 := txt_len (h132).lt
         have H137 := (e135.blk H131)
         refine ⟨.inr H137, ?_⟩
         refine aw_pure 4 (.bool (decide ((((txtL (sg ng (((valD (D.take i)).natAbs : Int))))) : List Int) = L))) rfl (by kernel_rfl) .none H137 (fun _ => dv_eqS (L := (txtL (sg ng (((valD (D.take i)).natAbs : Int))))) (M := L) (T rfl rfl) (T rfl rfl) ((okC_txt _)) ((hL))) ?_
         have H138 := (e135.blk (d129.ext.blk (s125.blk (e121.blk H50) (by omega))))
         refine aw_one 5 rfl (by kernel_rfl) .none (oe_store (v := .agg #[.bool nb117, .slice Az n118 cz]) (vs := [.bool nb117, .slice Az n118 cz]) (l := [.bool nb117, .slice Az n118 cz]) (T rfl f43) (T rfl rfl) sz59 rfl rfl rfl H138 rfl ?_)
         intro w139 s140 H141
         have E142 := below_st E136 N4 s140
         have H143 := (s140.blk H137 (by omega))
         refine ⟨.inr H143, ?_⟩
         refine aw_last 6 (.bool (decide ((((txtL (sg ng (((valD (D.take i)).natAbs : Int))))) : List Int) = L))) rfl (by kernel_rfl) .none (fun _ => dv_assign (T rfl rfl)) ?_
         refine aw_done (by kernel_rfl) ?_
         refine rk_ret Try.func59 (v := .tuple #[.agg #[.bool nb117, .slice Az n118 cz], .bool (decide ((((txtL (sg ng (((valD (D.take i)).natAbs : Int))))) : List Int) = L))]) (res2 Try.results59 (rv_cells (l := [.bool nb117, .slice Az n118 cz]) agt59 sz59 rfl f43 H141 rfl) (rv_tmp rfl rfl)) ⟨_, rfl, ?_⟩
         have h144 := ((h132.ext e135).st s140 H138 (by decide))
         obtain ⟨hz1, hz2⟩ := numD_of (i := i) hD hng (by omega) hdg
         exact ⟨_, _, _, _, _, tu2 rfl (vb (by rw [hz1]; exact ⟨fun hh => ⟨hh, by omega⟩, fun hh => hh.1⟩)), E142, h144, fun _ => hz1⟩
 · refine rk_seq ?_
   refine rk_reg ?_
   refine lw_v (.string (bOf L)) (dv_move (T rfl rfl)) ?_
   refine lw_v (.int .i64 ((L.length : Int))) (dv_lenS (L := L) ut9 (T rfl rfl)) ?_
   refine lw_v (.bool (decide (0 < ((L.length : Int))))) (dv_gtr (a := (L.length : Int)) (b := 0) (T rfl rfl) C) ?_
   refine lw_v (.bool (decide (0 < ((L.length : Int))))) (dv_move (T rfl rfl)) ?_
   by_cases hb145 : 0 < ((L.length : Int))
   · refine lw_vy (.string (bOf L)) (d := 12) rfl rfl (congrArg Value.bool (decide_eq_true hb145)) (dv_move (T rfl rfl)) ?_
     have bg146 := okW.getD (hL) (by decide) 0
     refine lw_vy (.int .u8 (L.getD 0 0)) (d := 12) rfl rfl (congrArg Value.bool (decide_eq_true hb145)) (dv_indexS (L := L) (i := 0) (j := 0) ut9 (T rfl rfl) C (hL) (by omega) (by first | omega | (simp; done) | (simp; omega))) ?_
     refine lw_vy (.bool (decide ((L.getD 0 0) = 45))) (d := 12) rfl rfl (congrArg Value.bool (decide_eq_true hb145)) (dv_eql (a := L.getD 0 0) (b := 45) (T rfl rfl) C) ?_
     refine lw_v (.bool (decide ((L.getD 0 0) = 45))) (dv_pick_t (T rfl (congrArg Value.bool (decide_eq_true hb145))) (T rfl rfl)) ?_
     refine lw_nil ?_
     by_cases hb147 : (L.getD 0 0) = 45
     · refine rk_ct (T rfl (congrArg Value.bool (decide_eq_true hb147))) ?_
       refine rk_reg ?_
       refine lw_v (.string (bOf L)) (dv_move (T rfl rfl)) ?_
       refine lw_v (.string (bOf (L.drop 1))) (dv_sliceSl (L := L) (i := 1) (j := 1) ut9 (T rfl rfl) C (by omega) (by first | omega | (simp; done) | (simp; omega))) ?_
       refine lw_v (.string (bOf (L.drop 1))) (dv_assign (T rfl rfl)) ?_
       refine lw_v (.bool true) (dv_assign C) ?_
       refine lw_nil ?_
       exact hj8 _ _ ⟨(L.drop 1), true, rfl, rfl, rfl, rfl, rfl, E5, n3.blk, (digD_t (by assumption)).1, (digD_t (by assumption)).2, (by simp)⟩
     · refine rk_cf (T rfl (congrArg Value.bool (decide_eq_false hb147))) ?_
       refine rk_skip ?_
       exact hj8 _ _ ⟨L, false, rfl, rfl, rfl, rfl, rfl, E5, n3.blk, (digD_f (by assumption)).1, (digD_f (by assumption)).2, (Nat.le_refl _)⟩
   · refine lw_no (d := 12) rfl rfl (congrArg Value.bool (decide_eq_false hb145)) ?_
     refine lw_no (d := 12) rfl rfl (congrArg Value.bool (decide_eq_false hb145)) ?_
     refine lw_no (d := 12) rfl rfl (congrArg Value.bool (decide_eq_false hb145)) ?_
     refine lw_v (.bool false) (dv_pick_f (T rfl (congrArg Value.bool (decide_eq_false hb145))) C) ?_
     refine lw_nil ?_
     refine rk_cf (T rfl rfl) ?_
     refine rk_skip ?_
     exact hj8 _ _ ⟨L, false, rfl, rfl, rfl, rfl, rfl, E5, n3.blk, (digD_f (getD0 (by assumption))).1, (digD_f (getD0 (by assumption))).2, (Nat.le_refl _)⟩
set_option maxHeartbeats 1000000 in
theorem l1Read_ok {w : World} {L : List Int} {S : Nat} (hL : okW 256 L) (hl : L.length ≤ 1048576) (hS : 400 ≤ S ∧ S ≤ 1000) : Ct Try.prog 58 [.string (bOf L), .int .i64 77] w fun v w1 => ∃ nr A' n c' z, v = .tuple #[.agg #[.bool nr, .slice A' n c'], .bool (decide (formD L ∧ (digD L).length ≤ 77))] ∧ Ext w w1 ∧ Num 32 95 .u32 w1 nr A' n c' z S ∧ (formD L ∧ (digD L).length ≤ 77 → z = numD L) := by
 refine ct_run (n := 77) Try.func58 rfl Try.ntmps58 rfl ?_
 have E0 : Below w.heap.size w w := Below.refl _ _
 refine rk_seq ?_
 refine rk_reg ?_
 refine lw_e (oe_alloc ze65 ?_)
 intro b1 w2 n3
 have N4 : w.heap.size ≤ b1 := n3.eq ▸ E0.size
 have E5 := below_ext E0 E0.size n3.ext
 refine lw_v (.bool false) (dv_assign C) ?_
 refine lw_nil ?_
 refine rk_seq ?_
 refine rk_reg ?_
 refine lw_v (.string (bOf L)) (dv_move (T rfl rfl)) ?_
 refine lw_v (.string (bOf L)) (dv_assign (T rfl rfl)) ?_
 refine lw_nil ?_
 refine rk_seq ?_
 refine rk_reg ?_
 refine lw_v (.string (bOf L)) (dv_move (T rfl rfl)) ?_
 refine lw_v (.int .i64 ((L.length : Int))) (dv_lenS (L := L) ut9 (T rfl rfl)) ?_
 refine lw_v (.bool (decide (0 < ((L.length : Int))))) (dv_gtr (a := (L.length : Int)) (b := 0) (T rfl rfl) C) ?_
 refine lw_v (.bool (decide (0 < ((L.length : Int))))) (dv_move (T rfl rfl)) ?_
 by_cases hb6 : 0 < ((L.length : Int))
 · refine lw_vy (.string (bOf L)) (d := 14) rfl rfl (congrArg Value.bool (decide_eq_true hb6)) (dv_move (T rfl rfl)) ?_
   have bg7 := okW.getD (hL) (by decide) 0
   refine lw_vy (.int .u8 (L.getD 0 0)) (d := 14) rfl rfl (congrArg Value.bool (decide_eq_true hb6)) (dv_indexS (L := L) (i := 0) (j := 0) ut9 (T rfl rfl) C (hL) (by omega) (by first | omega | (simp; done) | (simp; omega))) ?_
   refine lw_vy (.bool (decide ((L.getD 0 0) = 45))) (d := 14) rfl rfl (congrArg Value.bool (decide_eq_true hb6)) (dv_eql (a := L.getD 0 0) (b := 45) (T rfl rfl) C) ?_
   refine lw_v (.bool (decide ((L.getD 0 0) = 45))) (dv_pick_t (T rfl (congrArg Value.bool (decide_eq_true hb6))) (T rfl rfl)) ?_
   refine lw_v (.bool (decide ((L.getD 0 0) = 45))) (dv_assign (T rfl rfl)) ?_
   refine lw_nil ?_
   refine rk_seq ?_
   refine rk_join (fun fr wl => ∃ (D : List Int) (ng : Bool), fr 1 = .int .i64 77 ∧ fr 4 = .pointer (some ⟨b1, 0, none⟩) ∧ fr 5 = .bool false ∧ fr 6 = .string (bOf D) ∧ fr 7 = .bool ng ∧ Below w.heap.size w wl ∧ wl.heap[b1]? = some (.cells #[.bool false, .slice none 0 0] 65) ∧ (digD L = D) ∧ (negD L = ng) ∧ (D.length ≤ L.length)) ?_ (fun hj10 => ?_)
   · intro fr11 w8 hI9
     obtain ⟨D, ng, f12, f13, f14, f15, f16, E17, H18, hD, hng, hDl⟩ := hI9
     refine rk_seq ?_
     refine rk_seq ?_
     refine rk_reg ?_
     refine lw_v (.string (bOf D)) (dv_move (T rfl f15)) ?_
     refine lw_v (.int .i64 ((D.length : Int))) (dv_lenS (L := D) ut9 (T rfl rfl)) ?_
     refine lw_v (.bool (decide (((D.length : Int)) < 1))) (dv_lss (a := (D.length : Int)) (b := 1) (T rfl rfl) C) ?_
     refine lw_v (.bool (decide (((D.length : Int)) < 1))) (dv_move (T rfl rfl)) ?_
     by_cases hb19 : ((D.length : Int)) < 1
     · refine lw_no (d := 25) rfl rfl (congrArg Value.bool (decide_eq_true hb19)) ?_
       refine lw_no (d := 25) rfl rfl (congrArg Value.bool (decide_eq_true hb19)) ?_
       refine lw_no (d := 25) rfl rfl (congrArg Value.bool (decide_eq_true hb19)) ?_
       refine lw_no (d := 25) rfl rfl (congrArg Value.bool (decide_eq_true hb19)) ?_
       refine lw_v (.bool true) (dv_pick_t (T rfl (congrArg Value.bool (decide_eq_true hb19))) C) ?_
       refine lw_v (.bool true) (dv_move (T rfl rfl)) ?_
       refine lw_no (d := 31) rfl rfl (rfl) ?_
       refine lw_no (d := 31) rfl rfl (rfl) ?_
       refine lw_no (d := 31) rfl rfl (rfl) ?_
       refine lw_no (d := 31) rfl rfl (rfl) ?_
       refine lw_nou (d := 35) rfl rfl ?_
       refine lw_nou (d := 35) rfl rfl ?_
       refine lw_nou (d := 37) rfl rfl ?_
       refine lw_nou (d := 37) rfl rfl ?_
       refine lw_nou (d := 37) rfl rfl ?_
       refine lw_nou (d := 35) rfl rfl ?_
       refine lw_no (d := 31) rfl rfl (rfl) ?_
       refine lw_v (.bool true) (dv_pick_t (T rfl rfl) C) ?_
       refine lw_nil ?_
       refine rk_ct (T rfl rfl) ?_
       refine rk_seq ?_
       refine rk_reg ?_
       refine lw_v (.agg #[.bool false, .slice none 0 0]) (dv_build (pv := []) (l := [.bool false, .slice none 0 0]) zc65 pl65 trivial rfl) ?_
       refine lw_e (oe_store (v := .agg #[.bool false, .slice none 0 0]) (vs := [.bool false, .slice none 0 0]) (l := [.bool false, .slice none 0 0]) (T rfl f13) (T rfl rfl) sz65 rfl rfl rfl H18 rfl ?_)
       intro w20 s21 H22
       have E23 := below_st E17 N4 s21
       refine lw_v (.bool false) (dv_assign C) ?_
       refine lw_nil ?_
       refine rk_ret Try.func58 (v := .tuple #[.agg #[.bool false, .slice none 0 0], .bool false]) (res2 Try.results58 (rv_cells (l := [.bool false, .slice none 0 0]) agt65 sz65 rfl f13 H22 rfl) (rv_tmp rfl rfl)) ⟨_, rfl, ?_⟩
       have hno : ¬ (formD L ∧ (digD L).length ≤ 77) := (fun hh => by have h1 := (formD_iff hD hng).1 hh.1; have h2 := hh.2; rw [hD] at h2; first | omega | (have h3 := h1.2.2 (by assumption); first | omega | (have h4 := h3.1; simp_all)))
       exact ⟨_, _, _, _, 0, tu2 rfl (vf hno), E23, Num.zero, fun hh => absurd hh hno⟩
     · refine lw_vy (.string (bOf D)) (d := 25) rfl rfl (congrArg Value.bool (decide_eq_false hb19)) (dv_move (T rfl f15)) ?_
       refine lw_vy (.int .i64 ((D.length : Int))) (d := 25) rfl rfl (congrArg Value.bool (decide_eq_false hb19)) (dv_lenS (L := D) ut9 (T rfl rfl)) ?_
       refine lw_vy (.int .i64 77) (d := 25) rfl rfl (congrArg Value.bool (decide_eq_false hb19)) (dv_move (T rfl f12)) ?_
       refine lw_vy (.bool (decide (77 < ((D.length : Int))))) (d := 25) rfl rfl (congrArg Value.bool (decide_eq_false hb19)) (dv_gtr (a := (D.length : Int)) (b := 77) (T rfl rfl) (T rfl rfl)) ?_
       refine lw_v (.bool (decide (77 < ((D.length : Int))))) (dv_pick_f (T rfl (congrArg Value.bool (decide_eq_false hb19))) (T rfl rfl)) ?_
       refine lw_v (.bool (decide (77 < ((D.length : Int))))) (dv_move (T rfl rfl)) ?_
       by_cases hb24 : 77 < ((D.length : Int))
       · refine lw_no (d := 31) rfl rfl (congrArg Value.bool (decide_eq_true hb24)) ?_
         refine lw_no (d := 31) rfl rfl (congrArg Value.bool (decide_eq_true hb24)) ?_
         refine lw_no (d := 31) rfl rfl (congrArg Value.bool (decide_eq_true hb24)) ?_
         refine lw_no (d := 31) rfl rfl (congrArg Value.bool (decide_eq_true hb24)) ?_
         refine lw_nou (d := 35) rfl rfl ?_
         refine lw_nou (d := 35) rfl rfl ?_
         refine lw_nou (d := 37) rfl rfl ?_
         refine lw_nou (d := 37) rfl rfl ?_
         refine lw_nou (d := 37) rfl rfl ?_
         refine lw_nou (d := 35) rfl rfl ?_
         refine lw_no (d := 31) rfl rfl (congrArg Value.bool (decide_eq_true hb24)) ?_
         refine lw_v (.bool true) (dv_pick_t (T rfl (congrArg Value.bool (decide_eq_true hb24))) C) ?_
         refine lw_nil ?_
         refine rk_ct (T rfl rfl) ?_
         refine rk_seq ?_
         refine rk_reg ?_
         refine lw_v (.agg #[.bool false, .slice none 0 0]) (dv_build (pv := []) (l := [.bool false, .slice none 0 0]) zc65 pl65 trivial rfl) ?_
         refine lw_e (oe_store (v := .agg #[.bool false, .slice none 0 0]) (vs := [.bool false, .slice none 0 0]) (l := [.bool false, .slice none 0 0]) (T rfl f13) (T rfl rfl) sz65 rfl rfl rfl H18 rfl ?_)
         intro w25 s26 H27
         have E28 := below_st E17 N4 s26
         refine lw_v (.bool false) (dv_assign C) ?_
         refine lw_nil ?_
         refine rk_ret Try.func58 (v := .tuple #[.agg #[.bool false, .slice none 0 0], .bool false]) (res2 Try.results58 (rv_cells (l := [.bool false, .slice none 0 0]) agt65 sz65 rfl f13 H27 rfl) (rv_tmp rfl rfl)) ⟨_, rfl, ?_⟩
         have hno : ¬ (formD L ∧ (digD L).length ≤ 77) := (fun hh => by have h1 := (formD_iff hD hng).1 hh.1; have h2 := hh.2; rw [hD] at h2; first | omega | (have h3 := h1.2.2 (by assumption); first | omega | (have h4 := h3.1; simp_all)))
         exact ⟨_, _, _, _, 0, tu2 rfl (vf hno), E28, Num.zero, fun hh => absurd hh hno⟩
       · refine lw_vy (.string (bOf D)) (d := 31) rfl rfl (congrArg Value.bool (decide_eq_false hb24)) (dv_move (T rfl f15)) ?_
         have bg29 := okW.getD (okD hD hL) (by decide) 0
         refine lw_vy (.int .u8 (D.getD 0 0)) (d := 31) rfl rfl (congrArg Value.bool (decide_eq_false hb24)) (dv_indexS (L := D) (i := 0) (j := 0) ut9 (T rfl rfl) C (okD hD hL) (by omega) (by first | omega | (simp; done) | (simp; omega))) ?_
         refine lw_vy (.bool (decide ((D.getD 0 0) = 48))) (d := 31) rfl rfl (congrArg Value.bool (decide_eq_false hb24)) (dv_eql (a := D.getD 0 0) (b := 48) (T rfl rfl) C) ?_
         refine lw_vy (.bool (decide ((D.getD 0 0) = 48))) (d := 31) rfl rfl (congrArg Value.bool (decide_eq_false hb24)) (dv_move (T rfl rfl)) ?_
         by_cases hb30 : (D.getD 0 0) = 48
         · refine lw_vy (.bool ng) (d := 35) rfl rfl (congrArg Value.bool (decide_eq_true hb30)) (dv_move (T rfl f16)) ?_
           refine lw_vy (.bool ng) (d := 35) rfl rfl (congrArg Value.bool (decide_eq_true hb30)) (dv_move (T rfl rfl)) ?_
           rcases Bool.eq_false_or_eq_true (ng) with hb31 | hb31
           · refine lw_no (d := 37) rfl rfl (congrArg Value.bool hb31) ?_
             refine lw_no (d := 37) rfl rfl (congrArg Value.bool hb31) ?_
             refine lw_no (d := 37) rfl rfl (congrArg Value.bool hb31) ?_
             refine lw_vy (.bool true) (d := 35) rfl rfl (congrArg Value.bool (decide_eq_true hb30)) (dv_pick_t (T rfl (congrArg Value.bool hb31)) C) ?_
             refine lw_vy (.bool true) (d := 31) rfl rfl (congrArg Value.bool (decide_eq_false hb24)) (dv_pick_t (T rfl (congrArg Value.bool (decide_eq_true hb30))) (T rfl rfl)) ?_
             refine lw_v (.bool true) (dv_pick_f (T rfl (congrArg Value.bool (decide_eq_false hb24))) (T rfl rfl)) ?_
             refine lw_nil ?_
             refine rk_ct (T rfl rfl) ?_
             refine rk_seq ?_
             refine rk_reg ?_
             refine lw_v (.agg #[.bool false, .slice none 0 0]) (dv_build (pv := []) (l := [.bool false, .slice none 0 0]) zc65 pl65 trivial rfl) ?_
             refine lw_e (oe_store (v := .agg #[.bool false, .slice none 0 0]) (vs := [.bool false, .slice none 0 0]) (l := [.bool false, .slice none 0 0]) (T rfl f13) (T rfl rfl) sz65 rfl rfl rfl H18 rfl ?_)
             intro w32 s33 H34
             have E35 := below_st E17 N4 s33
             refine lw_v (.bool false) (dv_assign C) ?_
             refine lw_nil ?_
             refine rk_ret Try.func58 (v := .tuple #[.agg #[.bool false, .slice none 0 0], .bool false]) (res2 Try.results58 (rv_cells (l := [.bool false, .slice none 0 0]) agt65 sz65 rfl f13 H34 rfl) (rv_tmp rfl rfl)) ⟨_, rfl, ?_⟩
             have hno : ¬ (formD L ∧ (digD L).length ≤ 77) := (fun hh => by have h1 := (formD_iff hD hng).1 hh.1; have h2 := hh.2; rw [hD] at h2; first | omega | (have h3 := h1.2.2 (by assumption); first | omega | (have h4 := h3.1; simp_all)))
             exact ⟨_, _, _, _, 0, tu2 rfl (vf hno), E35, Num.zero, fun hh => absurd hh hno⟩
           · refine lw_vy (.string (bOf D)) (d := 37) rfl rfl (congrArg Value.bool hb31) (dv_move (T rfl f15)) ?_
             refine lw_vy (.int .i64 ((D.length : Int))) (d := 37) rfl rfl (congrArg Value.bool hb31) (dv_lenS (L := D) ut9 (T rfl rfl)) ?_
             refine lw_vy (.bool (decide (1 < ((D.length : Int))))) (d := 37) rfl rfl (congrArg Value.bool hb31) (dv_gtr (a := (D.length : Int)) (b := 1) (T rfl rfl) C) ?_
             refine lw_vy (.bool (decide (1 < ((D.length : Int))))) (d := 35) rfl rfl (congrArg Value.bool (decide_eq_true hb30)) (dv_pick_f (T rfl (congrArg Value.bool hb31)) (T rfl rfl)) ?_
             refine lw_vy (.bool (decide (1 < ((D.length : Int))))) (d := 31) rfl rfl (congrArg Value.bool (decide_eq_false hb24)) (dv_pick_t (T rfl (congrArg Value.bool (decide_eq_true hb30))) (T rfl rfl)) ?_
             refine lw_v (.bool (decide (1 < ((D.length : Int))))) (dv_pick_f (T rfl (congrArg Value.bool (decide_eq_false hb24))) (T rfl rfl)) ?_
             refine lw_nil ?_
             by_cases hb36 : 1 < ((D.length : Int))
             · refine rk_ct (T rfl (congrArg Value.bool (decide_eq_true hb36))) ?_
               refine rk_seq ?_
               refine rk_reg ?_
               refine lw_v (.agg #[.bool false, .slice none 0 0]) (dv_build (pv := []) (l := [.bool false, .slice none 0 0]) zc65 pl65 trivial rfl) ?_
               refine lw_e (oe_store (v := .agg #[.bool false, .slice none 0 0]) (vs := [.bool false, .slice none 0 0]) (l := [.bool false, .slice none 0 0]) (T rfl f13) (T rfl rfl) sz65 rfl rfl rfl H18 rfl ?_)
               intro w37 s38 H39
               have E40 := below_st E17 N4 s38
               refine lw_v (.bool false) (dv_assign C) ?_
               refine lw_nil ?_
               refine rk_ret Try.func58 (v := .tuple #[.agg #[.bool false, .slice none 0 0], .bool false]) (res2 Try.results58 (rv_cells (l := [.bool false, .slice none 0 0]) agt65 sz65 rfl f13 H39 rfl) (rv_tmp rfl rfl)) ⟨_, rfl, ?_⟩
               have hno : ¬ (formD L ∧ (digD L).length ≤ 77) := (fun hh => by have h1 := (formD_iff hD hng).1 hh.1; have h2 := hh.2; rw [hD] at h2; first | omega | (have h3 := h1.2.2 (by assumption); first | omega | (have h4 := h3.1; simp_all)))
               exact ⟨_, _, _, _, 0, tu2 rfl (vf hno), E40, Num.zero, fun hh => absurd hh hno⟩
             · refine rk_cf (T rfl (congrArg Value.bool (decide_eq_false hb36))) ?_
               refine rk_skip ?_
               refine rk_seq ?_
               refine rk_reg ?_
               refine lw_v (.agg #[.bool false, .slice none 0 0]) (dv_build (pv := []) (l := [.bool false, .slice none 0 0]) zc65 pl65 trivial rfl) ?_
               refine lw_e (oe_alloc ze65 ?_)
               intro b41 w42 n43
               have N44 : w.heap.size ≤ b41 := n43.eq ▸ E17.size
               have : b1 < b41 := n43.eq ▸ lt_of_blk H18
               have E45 := below_ext E17 E17.size n43.ext
               refine lw_e (oe_store (v := .agg #[.bool false, .slice none 0 0]) (vs := [.bool false, .slice none 0 0]) (l := [.bool false, .slice none 0 0]) (T rfl rfl) (T rfl rfl) sz65 rfl rfl rfl n43.blk rfl ?_)
               intro w46 s47 H48
               have E49 := below_st E45 N44 s47
               refine lw_nil ?_
               refine rk_seq ?_
               refine rk_seq ?_
               refine rk_reg ?_
               refine lw_v (.int .i64 0) (dv_assign C) ?_
               refine lw_nil ?_
               refine rk_block ?_
               have H50 := (s47.blk (n43.ext.blk H18) (by omega))
               refine rk_loop (fun dm_ fr wl => ∃ (i : Nat) (nz : Bool) (Az : Option Addr) (lz cz : Nat), dm_ = D.length - i ∧ fr 4 = .pointer (some ⟨b1, 0, none⟩) ∧ fr 6 = .string (bOf D) ∧ fr 7 = .bool ng ∧ fr 8 = .pointer (some ⟨b41, 0, none⟩) ∧ fr 9 = .int .i64 ((i : Int)) ∧ Below w.heap.size w wl ∧ wl.heap[b1]? = some (.cells #[.bool false, .slice none 0 0] 65) ∧ wl.heap[b41]? = some (.cells #[.bool nz, .slice Az lz cz] 65) ∧ Num 32 95 .u32 wl nz Az lz cz (valD (D.take i)) S ∧ (i ≤ D.length) ∧ (∀ c ∈ D.take i, isD c)) (D.length - 0) ⟨0, false, none, 0, 0, rfl, f13, f15, f16, rfl, (vi (by omega)), E49, H50, H48, Num.zero, (Nat.zero_le _), (fun c hc => by cases hc)⟩ ?_
               intro d55 fr54 w51 hI52 ih53
               obtain ⟨i, nz, Az, lz, cz, hd65, f56, f57, f58, f59, f60, E61, H62, H63, h64, hi, hdg⟩ := hI52
               have lh64 := Num.len (by decide) h64
               refine rk_seq ?_
               refine rk_seq ?_
               refine rk_reg ?_
               refine lw_v (.int .i64 ((i : Int))) (dv_move (T rfl f60)) ?_
               refine lw_v (.string (bOf D)) (dv_move (T rfl f57)) ?_
               refine lw_v (.int .i64 ((D.length : Int))) (dv_lenS (L := D) ut9 (T rfl rfl)) ?_
               refine lw_v (.bool (decide (((i : Int)) < ((D.length : Int))))) (dv_lss (a := (i : Int)) (b := (D.length : Int)) (T rfl rfl) (T rfl rfl)) ?_
               refine lw_nil ?_
               by_cases hb66 : ((i : Int)) < ((D.length : Int))
               · refine rk_ct (T rfl (congrArg Value.bool (decide_eq_true hb66))) ?_
                 refine rk_skip ?_
                 refine rk_seq ?_
                 refine rk_block ?_
                 refine rk_seq ?_
                 refine rk_seq ?_
                 refine rk_reg ?_
                 refine lw_v (.string (bOf D)) (dv_move (T rfl f57)) ?_
                 refine lw_v (.int .i64 ((i : Int))) (dv_move (T rfl f60)) ?_
                 have bg67 := okW.getD (okD hD hL) (by decide) i
                 refine lw_v (.int .u8 (D.getD i 0)) (dv_indexS (L := D) (i := i) (j := (i : Int)) ut9 (T rfl rfl) (T rfl rfl) (okD hD hL) (by omega) (by first | omega | (simp; done) | (simp; omega))) ?_
                 refine lw_v (.bool (decide ((D.getD i 0) < 48))) (dv_lss (a := D.getD i 0) (b := 48) (T rfl rfl) C) ?_
                 refine lw_v (.bool (decide ((D.getD i 0) < 48))) (dv_move (T rfl rfl)) ?_
                 by_cases hb68 : (D.getD i 0) < 48
                 · refine lw_no (d := 56) rfl rfl (congrArg Value.bool (decide_eq_true hb68)) ?_
                   refine lw_no (d := 56) rfl rfl (congrArg Value.bool (decide_eq_true hb68)) ?_
                   refine lw_no (d := 56) rfl rfl (congrArg Value.bool (decide_eq_true hb68)) ?_
                   refine lw_no (d := 56) rfl rfl (congrArg Value.bool (decide_eq_true hb68)) ?_
                   refine lw_v (.bool true) (dv_pick_t (T rfl (congrArg Value.bool (decide_eq_true hb68))) C) ?_
                   refine lw_nil ?_
                   refine rk_ct (T rfl rfl) ?_
                   refine rk_seq ?_
                   refine rk_reg ?_
                   refine lw_v (.agg #[.bool false, .slice none 0 0]) (dv_build (pv := []) (l := [.bool false, .slice none 0 0]) zc65 pl65 trivial rfl) ?_
                   refine lw_e (oe_store (v := .agg #[.bool false, .slice none 0 0]) (vs := [.bool false, .slice none 0 0]) (l := [.bool false, .slice none 0 0]) (T rfl f56) (T rfl rfl) sz65 rfl rfl rfl H62 rfl ?_)
                   intro w69 s70 H71
                   have E72 := below_st E61 N4 s70
                   refine lw_v (.bool false) (dv_assign C) ?_
                   refine lw_nil ?_
                   refine rk_ret Try.func58 (v := .tuple #[.agg #[.bool false, .slice none 0 0], .bool false]) (res2 Try.results58 (rv_cells (l := [.bool false, .slice none 0 0]) agt65 sz65 rfl f56 H71 rfl) (rv_tmp rfl rfl)) ⟨_, rfl, ?_⟩
                   have hno : ¬ (formD L ∧ (digD L).length ≤ 77) := (fun hh => not_formD hD (i := i) (by omega) (fun hd => by unfold isD at hd; omega) hh.1)
                   exact ⟨_, _, _, _, 0, tu2 rfl (vf hno), E72, Num.zero, fun hh => absurd hh hno⟩
                 · refine lw_vy (.string (bOf D)) (d := 56) rfl rfl (congrArg Value.bool (decide_eq_false hb68)) (dv_move (T rfl f57)) ?_
                   refine lw_vy (.int .i64 ((i : Int))) (d := 56) rfl rfl (congrArg Value.bool (decide_eq_false hb68)) (dv_move (T rfl f60)) ?_
                   have bg73 := okW.getD (okD hD hL) (by decide) i
                   refine lw_vy (.int .u8 (D.getD i 0)) (d := 56) rfl rfl (congrArg Value.bool (decide_eq_false hb68)) (dv_indexS (L := D) (i := i) (j := (i : Int)) ut9 (T rfl rfl) (T rfl rfl) (okD hD hL) (by omega) (by first | omega | (simp; done) | (simp; omega))) ?_
                   refine lw_vy (.bool (decide (57 < (D.getD i 0)))) (d := 56) rfl rfl (congrArg Value.bool (decide_eq_false hb68)) (dv_gtr (a := D.getD i 0) (b := 57) (T rfl rfl) C) ?_
                   refine lw_v (.bool (decide (57 < (D.getD i 0)))) (dv_pick_f (T rfl (congrArg Value.bool (decide_eq_false hb68))) (T rfl rfl)) ?_
                   refine lw_nil ?_
                   by_cases hb74 : 57 < (D.getD i 0)
                   · refine rk_ct (T rfl (congrArg Value.bool (decide_eq_true hb74))) ?_
                     refine rk_seq ?_
                     refine rk_reg ?_
                     refine lw_v (.agg #[.bool false, .slice none 0 0]) (dv_build (pv := []) (l := [.bool false, .slice none 0 0]) zc65 pl65 trivial rfl) ?_
                     refine lw_e (oe_store (v := .agg #[.bool false, .slice none 0 0]) (vs := [.bool false, .slice none 0 0]) (l := [.bool false, .slice none 0 0]) (T rfl f56) (T rfl rfl) sz65 rfl rfl rfl H62 rfl ?_)
                     intro w75 s76 H77
                     have E78 := below_st E61 N4 s76
                     refine lw_v (.bool false) (dv_assign C) ?_
                     refine lw_nil ?_
                     refine rk_ret Try.func58 (v := .tuple #[.agg #[.bool false, .slice none 0 0], .bool false]) (res2 Try.results58 (rv_cells (l := [.bool false, .slice none 0 0]) agt65 sz65 rfl f56 H77 rfl) (rv_tmp rfl rfl)) ⟨_, rfl, ?_⟩
                     have hno : ¬ (formD L ∧ (digD L).length ≤ 77) := (fun hh => not_formD hD (i := i) (by omega) (fun hd => by unfold isD at hd; omega) hh.1)
                     exact ⟨_, _, _, _, 0, tu2 rfl (vf hno), E78, Num.zero, fun hh => absurd hh hno⟩
                   · refine rk_cf (T rfl (congrArg Value.bool (decide_eq_false hb74))) ?_
                     refine rk_skip ?_
                     refine rk_any (fun w => w.heap[b41]? = some (.cells #[.bool nz, .slice Az lz cz] 65)) [10] mo ?_
                     intro w79 d80
                     have E81 := below_ext E61 E61.size d80.ext
                     have H82 := (d80.ext.blk H63)
                     refine aw_load 0 (.agg #[.bool nz, .slice Az lz cz]) rfl (by kernel_rfl) .none H82 (fun _ s => dv_loads (l := [.bool nz, .slice Az lz cz]) agt65 sz65 (T rfl f59) s rfl) ?_
                     refine aw_pure 3 (.string (bOf D)) rfl (by kernel_rfl) .none H82 (fun _ => dv_move (T rfl f57)) ?_
                     refine aw_pure 4 (.int .i64 ((i : Int))) rfl (by kernel_rfl) .none H82 (fun _ => dv_move (T rfl f60)) ?_
                     have bg83 := okW.getD (okD hD hL) (by decide) i
                     refine aw_pure 5 (.int .u8 (D.getD i 0)) rfl (by kernel_rfl) .none H82 (fun _ => dv_indexS (L := D) (i := i) (j := (i : Int)) ut9 (T rfl rfl) (T rfl rfl) (okD hD hL) (by omega) (by first | omega | (simp; done) | (simp; omega))) ?_
                     refine aw_pure 6 (.int .u8 ((D.getD i 0) - 48)) rfl (by kernel_rfl) .none H82 (fun _ => dv_sub (a := D.getD i 0) (b := 48) (z := (D.getD i 0) - 48) (T rfl rfl) C (wn_u8 (by omega) (by omega))) ?_
                     refine aw_pure 7 (.int .i64 ((D.getD i 0) - 48)) rfl (by kernel_rfl) .none H82 (fun _ => dv_conv (a := (D.getD i 0) - 48) (z := (D.getD i 0) - 48) ui5 ui2 (T rfl rfl) (wr_i64 (by omega) (by omega))) ?_
                     refine aw_one 1 rfl (by kernel_rfl) .none (oe_callf (vs := [.int .i64 10]) co79 (ar1 C) (l1Int_ok  (by omega)) ?_)
                     rintro _ w89 ⟨nr84, A85, n86, c87, rfl, e90, h88⟩
                     have E91 := below_ext E81 E81.size e90
                     have lh88 := Num.len (by decide) h88
                     have H92 := (e90.blk H82)
                     refine ⟨.inr H92, ?_⟩
                     have h93 := ((h64.ext d80.ext).ext e90)
                     refine aw_one 2 rfl (by kernel_rfl) .none (oe_callf (vs := [.agg #[.bool nz, .slice Az lz cz], .agg #[.bool nr84, .slice A85 n86 c87]]) co78 (ar2 (T rfl rfl) (T rfl rfl)) (l1Mul_ok h93 h88 (by first | decide | omega) (by first | decide | omega)) ?_)
                     rintro _ w99 ⟨nr94, A95, n96, c97, rfl, e100, h98⟩
                     have E101 := below_ext E91 E91.size e100
                     have lh98 := Num.len (by decide) h98
                     have H102 := (e100.blk H92)
                     refine ⟨.inr H102, ?_⟩
                     refine aw_one 8 rfl (by kernel_rfl) .none (oe_callf (vs := [.int .i64 ((D.getD i 0) - 48)]) co79 (ar1 (T rfl rfl)) (l1Int_ok  (by omega)) ?_)
                     rintro _ w108 ⟨nr103, A104, n105, c106, rfl, e109, h107⟩
                     have E110 := below_ext E101 E101.size e109
                     have lh107 := Num.len (by decide) h107
                     have H111 := (e109.blk H102)
                     refine ⟨.inr H111, ?_⟩
                     have h112 := (h98.ext e109)
                     refine aw_one 9 rfl (by kernel_rfl) .none (oe_callf (vs := [.agg #[.bool nr94, .slice A95 n96 c97], .agg #[.bool nr103, .slice A104 n105 c106]]) co55 (ar2 (T rfl rfl) (T rfl rfl)) (l1Add_ok h112 h107 (by first | decide | omega) (by first | decide | omega)) ?_)
                     rintro _ w118 ⟨nr113, A114, n115, c116, rfl, e119, h117⟩
                     have E120 := below_ext E110 E110.size e119
                     have lh117 := Num.len (by decide) h117
                     have H121 := (e119.blk H111)
                     refine ⟨.inr H121, ?_⟩
                     refine aw_one 10 rfl (by kernel_rfl) .none (oe_store (v := .agg #[.bool nr113, .slice A114 n115 c116]) (vs := [.bool nr113, .slice A114 n115 c116]) (l := [.bool nr113, .slice A114 n115 c116]) (T rfl f59) (T rfl rfl) sz65 rfl rfl rfl H121 rfl ?_)
                     intro w122 s123 H124
                     have E125 := below_st E120 N44 s123
                     refine ⟨.inl rfl, ?_⟩
                     refine aw_done (by kernel_rfl) ?_
                     refine rk_inBlock ?_
                     refine rk_reg ?_
                     refine lw_v (.int .i64 ((i : Int))) (dv_move (T rfl f60)) ?_
                     refine lw_v (.int .i64 (((i : Int)) + 1)) (dv_add (a := (i : Int)) (b := 1) (z := ((i : Int)) + 1) (T rfl rfl) C (wr_i64 (by omega) (by omega))) ?_
                     refine lw_v (.int .i64 (((i : Int)) + 1)) (dv_assign (T rfl rfl)) ?_
                     refine lw_nil ?_
                     have h126 := (h117.st s123 H121 (by decide))
                     have hd127 : ∀ c ∈ D.take (i + 1), isD c := isD_take (by omega) hdg ⟨by omega, by omega⟩
                     have H128 := (s123.blk (e119.blk (e109.blk (e100.blk (e90.blk (d80.ext.blk H62))))) (by omega))
                     exact ih53 (D.length - ((i + 1))) _ _ (by rw [hd65]; omega) ⟨(i + 1), nr113, A114, n115, c116, rfl, f56, f57, f58, f59, (vi (by omega)), E125, H128, H124, (h126.tight (valD_take (by omega)).symm (valD_sz hd127 (by simp; omega))), (by omega), hd127⟩
               · refine rk_cf (T rfl (congrArg Value.bool (decide_eq_false hb66))) ?_
                 refine rk_exit rfl ?_
                 refine rk_seq ?_
                 refine rk_seq ?_
                 refine rk_reg ?_
                 refine lw_v (.bool ng) (dv_move (T rfl f58)) ?_
                 refine lw_nil ?_
                 refine rk_cf (T rfl (congrArg Value.bool hb31)) ?_
                 refine rk_skip ?_
                 refine rk_seq ?_
                 refine rk_reg ?_
                 refine lw_v (.agg #[.bool nz, .slice Az lz cz]) (dv_loads (l := [.bool nz, .slice Az lz cz]) agt65 sz65 (T rfl f59) H63 rfl) ?_
                 refine lw_e (oe_store (v := .agg #[.bool nz, .slice Az lz cz]) (vs := [.bool nz, .slice Az lz cz]) (l := [.bool nz, .slice Az lz cz]) (T rfl f56) (T rfl rfl) sz65 rfl rfl rfl H62 rfl ?_)
                 intro w129 s130 H131
                 have E132 := below_st E61 N4 s130
                 refine lw_v (.bool true) (dv_assign C) ?_
                 refine lw_nil ?_
                 refine rk_ret Try.func58 (v := .tuple #[.agg #[.bool nz, .slice Az lz cz], .bool true]) (res2 Try.results58 (rv_cells (l := [.bool nz, .slice Az lz cz]) agt65 sz65 rfl f56 H131 rfl) (rv_tmp rfl rfl)) ⟨_, rfl, ?_⟩
                 have h133 := (h64.st s130 H62 (by decide))
                 have hz1 := numD_of2 (i := i) hD hng (by omega)
                 have hz2 := (numD_of (i := i) hD hng (by omega) hdg).2
                 have hbn : ng = false := by assumption
                 have hzz : valD (D.take i) = numD L := by rw [← hz1, hbn]; rfl
                 exact ⟨_, _, _, _, _, tu2 rfl (vt ⟨(formD_iff hD hng).2 ⟨by omega, hz2, fun h48 => by first | (exfalso; omega) | (exact absurd h48 (by assumption)) | exact ⟨by assumption, by omega⟩⟩, by rw [hD]; omega⟩), E132, h133, fun _ => hzz⟩
         · refine lw_no (d := 35) rfl rfl (congrArg Value.bool (decide_eq_false hb30)) ?_
           refine lw_no (d := 35) rfl rfl (congrArg Value.bool (decide_eq_false hb30)) ?_
           refine lw_nou (d := 37) rfl rfl ?_
           refine lw_nou (d := 37) rfl rfl ?_
           refine lw_nou (d := 37) rfl rfl ?_
           refine lw_no (d := 35) rfl rfl (congrArg Value.bool (decide_eq_false hb30)) ?_
           refine lw_vy (.bool false) (d := 31) rfl rfl (congrArg Value.bool (decide_eq_false hb24)) (dv_pick_f (T rfl (congrArg Value.bool (decide_eq_false hb30))) C) ?_
           refine lw_v (.bool false) (dv_pick_f (T rfl (congrArg Value.bool (decide_eq_false hb24))) (T rfl rfl)) ?_
           refine lw_nil ?_
           refine rk_cf (T rfl rfl) ?_
           refine rk_skip ?_
           refine rk_seq ?_
           refine rk_reg ?_
           refine lw_v (.agg #[.bool false, .slice none 0 0]) (dv_build (pv := []) (l := [.bool false, .slice none 0 0]) zc65 pl65 trivial rfl) ?_
           refine lw_e (oe_alloc ze65 ?_)
           intro b134 w135 n136
           have N137 : w.heap.size ≤ b134 := n136.eq ▸ E17.size
           have : b1 < b134 := n136.eq ▸ lt_of_blk H18
           have E138 := below_ext E17 E17.size n136.ext
           refine lw_e (oe_store (v := .agg #[.bool false, .slice none 0 0]) (vs := [.bool false, .slice none 0 0]) (l := [.bool false, .slice none 0 0]) (T rfl rfl) (T rfl rfl) sz65 rfl rfl rfl n136.blk rfl ?_)
           intro w139 s140 H141
           have E142 := below_st E138 N137 s140
           refine lw_nil ?_
           refine rk_seq ?_
           refine rk_seq ?_
           refine rk_reg ?_
           refine lw_v (.int .i64 0) (dv_assign C) ?_
           refine lw_nil ?_
           refine rk_block ?_
           have H143 := (s140.blk (n136.ext.blk H18) (by omega))
           refine rk_loop (fun dm_ fr wl => ∃ (i : Nat) (nz : Bool) (Az : Option Addr) (lz cz : Nat), dm_ = D.length - i ∧ fr 4 = .pointer (some ⟨b1, 0, none⟩) ∧ fr 6 = .string (bOf D) ∧ fr 7 = .bool ng ∧ fr 8 = .pointer (some ⟨b134, 0, none⟩) ∧ fr 9 = .int .i64 ((i : Int)) ∧ Below w.heap.size w wl ∧ wl.heap[b1]? = some (.cells #[.bool false, .slice none 0 0] 65) ∧ wl.heap[b134]? = some (.cells #[.bool nz, .slice Az lz cz] 65) ∧ Num 32 95 .u32 wl nz Az lz cz (valD (D.take i)) S ∧ (i ≤ D.length) ∧ (∀ c ∈ D.take i, isD c)) (D.length - 0) ⟨0, false, none, 0, 0, rfl, f13, f15, f16, rfl, (vi (by omega)), E142, H143, H141, Num.zero, (Nat.zero_le _), (fun c hc => by cases hc)⟩ ?_
           intro d148 fr147 w144 hI145 ih146
           obtain ⟨i, nz, Az, lz, cz, hd158, f149, f150, f151, f152, f153, E154, H155, H156, h157, hi, hdg⟩ := hI145
           have lh157 := Num.len (by decide) h157
           refine rk_seq ?_
           refine rk_seq ?_
           refine rk_reg ?_
           refine lw_v (.int .i64 ((i : Int))) (dv_move (T rfl f153)) ?_
           refine lw_v (.string (bOf D)) (dv_move (T rfl f150)) ?_
           refine lw_v (.int .i64 ((D.length : Int))) (dv_lenS (L := D) ut9 (T rfl rfl)) ?_
           refine lw_v (.bool (decide (((i : Int)) < ((D.length : Int))))) (dv_lss (a := (i : Int)) (b := (D.length : Int)) (T rfl rfl) (T rfl rfl)) ?_
           refine lw_nil ?_
           by_cases hb159 : ((i : Int)) < ((D.length : Int))
           · refine rk_ct (T rfl (congrArg Value.bool (decide_eq_true hb159))) ?_
             refine rk_skip ?_
             refine rk_seq ?_
             refine rk_block ?_
             refine rk_seq ?_
             refine rk_seq ?_
             refine rk_reg ?_
             refine lw_v (.string (bOf D)) (dv_move (T rfl f150)) ?_
             refine lw_v (.int .i64 ((i : Int))) (dv_move (T rfl f153)) ?_
             have bg160 := okW.getD (okD hD hL) (by decide) i
             refine lw_v (.int .u8 (D.getD i 0)) (dv_indexS (L := D) (i := i) (j := (i : Int)) ut9 (T rfl rfl) (T rfl rfl) (okD hD hL) (by omega) (by first | omega | (simp; done) | (simp; omega))) ?_
             refine lw_v (.bool (decide ((D.getD i 0) < 48))) (dv_lss (a := D.getD i 0) (b := 48) (T rfl rfl) C) ?_
             refine lw_v (.bool (decide ((D.getD i 0) < 48))) (dv_move (T rfl rfl)) ?_
             by_cases hb161 : (D.getD i 0) < 48
             · refine lw_no (d := 56) rfl rfl (congrArg Value.bool (decide_eq_true hb161)) ?_
               refine lw_no (d := 56) rfl rfl (congrArg Value.bool (decide_eq_true hb161)) ?_
               refine lw_no (d := 56) rfl rfl (congrArg Value.bool (decide_eq_true hb161)) ?_
               refine lw_no (d := 56) rfl rfl (congrArg Value.bool (decide_eq_true hb161)) ?_
               refine lw_v (.bool true) (dv_pick_t (T rfl (congrArg Value.bool (decide_eq_true hb161))) C) ?_
               refine lw_nil ?_
               refine rk_ct (T rfl rfl) ?_
               refine rk_seq ?_
               refine rk_reg ?_
               refine lw_v (.agg #[.bool false, .slice none 0 0]) (dv_build (pv := []) (l := [.bool false, .slice none 0 0]) zc65 pl65 trivial rfl) ?_
               refine lw_e (oe_store (v := .agg #[.bool false, .slice none 0 0]) (vs := [.bool false, .slice none 0 0]) (l := [.bool false, .slice none 0 0]) (T rfl f149) (T rfl rfl) sz65 rfl rfl rfl H155 rfl ?_)
               intro w162 s163 H164
               have E165 := below_st E154 N4 s163
               refine lw_v (.bool false) (dv_assign C) ?_
               refine lw_nil ?_
               refine rk_ret Try.func58 (v := .tuple #[.agg #[.bool false, .slice none 0 0], .bool false]) (res2 Try.results58 (rv_cells (l := [.bool false, .slice none 0 0]) agt65 sz65 rfl f149 H164 rfl) (rv_tmp rfl rfl)) ⟨_, rfl, ?_⟩
               have hno : ¬ (formD L ∧ (digD L).length ≤ 77) := (fun hh => not_formD hD (i := i) (by omega) (fun hd => by unfold isD at hd; omega) hh.1)
               exact ⟨_, _, _, _, 0, tu2 rfl (vf hno), E165, Num.zero, fun hh => absurd hh hno⟩
             · refine lw_vy (.string (bOf D)) (d := 56) rfl rfl (congrArg Value.bool (decide_eq_false hb161)) (dv_move (T rfl f150)) ?_
               refine lw_vy (.int .i64 ((i : Int))) (d := 56) rfl rfl (congrArg Value.bool (decide_eq_false hb161)) (dv_move (T rfl f153)) ?_
               have bg166 := okW.getD (okD hD hL) (by decide) i
               refine lw_vy (.int .u8 (D.getD i 0)) (d := 56) rfl rfl (congrArg Value.bool (decide_eq_false hb161)) (dv_indexS (L := D) (i := i) (j := (i : Int)) ut9 (T rfl rfl) (T rfl rfl) (okD hD hL) (by omega) (by first | omega | (simp; done) | (simp; omega))) ?_
               refine lw_vy (.bool (decide (57 < (D.getD i 0)))) (d := 56) rfl rfl (congrArg Value.bool (decide_eq_false hb161)) (dv_gtr (a := D.getD i 0) (b := 57) (T rfl rfl) C) ?_
               refine lw_v (.bool (decide (57 < (D.getD i 0)))) (dv_pick_f (T rfl (congrArg Value.bool (decide_eq_false hb161))) (T rfl rfl)) ?_
               refine lw_nil ?_
               by_cases hb167 : 57 < (D.getD i 0)
               · refine rk_ct (T rfl (congrArg Value.bool (decide_eq_true hb167))) ?_
                 refine rk_seq ?_
                 refine rk_reg ?_
                 refine lw_v (.agg #[.bool false, .slice none 0 0]) (dv_build (pv := []) (l := [.bool false, .slice none 0 0]) zc65 pl65 trivial rfl) ?_
                 refine lw_e (oe_store (v := .agg #[.bool false, .slice none 0 0]) (vs := [.bool false, .slice none 0 0]) (l := [.bool false, .slice none 0 0]) (T rfl f149) (T rfl rfl) sz65 rfl rfl rfl H155 rfl ?_)
                 intro w168 s169 H170
                 have E171 := below_st E154 N4 s169
                 refine lw_v (.bool false) (dv_assign C) ?_
                 refine lw_nil ?_
                 refine rk_ret Try.func58 (v := .tuple #[.agg #[.bool false, .slice none 0 0], .bool false]) (res2 Try.results58 (rv_cells (l := [.bool false, .slice none 0 0]) agt65 sz65 rfl f149 H170 rfl) (rv_tmp rfl rfl)) ⟨_, rfl, ?_⟩
                 have hno : ¬ (formD L ∧ (digD L).length ≤ 77) := (fun hh => not_formD hD (i := i) (by omega) (fun hd => by unfold isD at hd; omega) hh.1)
                 exact ⟨_, _, _, _, 0, tu2 rfl (vf hno), E171, Num.zero, fun hh => absurd hh hno⟩
               · refine rk_cf (T rfl (congrArg Value.bool (decide_eq_false hb167))) ?_
                 refine rk_skip ?_
                 refine rk_any (fun w => w.heap[b134]? = some (.cells #[.bool nz, .slice Az lz cz] 65)) [10] mo ?_
                 intro w172 d173
                 have E174 := below_ext E154 E154.size d173.ext
                 have H175 := (d173.ext.blk H156)
                 refine aw_load 0 (.agg #[.bool nz, .slice Az lz cz]) rfl (by kernel_rfl) .none H175 (fun _ s => dv_loads (l := [.bool nz, .slice Az lz cz]) agt65 sz65 (T rfl f152) s rfl) ?_
                 refine aw_pure 3 (.string (bOf D)) rfl (by kernel_rfl) .none H175 (fun _ => dv_move (T rfl f150)) ?_
                 refine aw_pure 4 (.int .i64 ((i : Int))) rfl (by kernel_rfl) .none H175 (fun _ => dv_move (T rfl f153)) ?_
                 have bg176 := okW.getD (okD hD hL) (by decide) i
                 refine aw_pure 5 (.int .u8 (D.getD i 0)) rfl (by kernel_rfl) .none H175 (fun _ => dv_indexS (L := D) (i := i) (j := (i : Int)) ut9 (T rfl rfl) (T rfl rfl) (okD hD hL) (by omega) (by first | omega | (simp; done) | (simp; omega))) ?_
                 refine aw_pure 6 (.int .u8 ((D.getD i 0) - 48)) rfl (by kernel_rfl) .none H175 (fun _ => dv_sub (a := D.getD i 0) (b := 48) (z := (D.getD i 0) - 48) (T rfl rfl) C (wn_u8 (by omega) (by omega))) ?_
                 refine aw_pure 7 (.int .i64 ((D.getD i 0) - 48)) rfl (by kernel_rfl) .none H175 (fun _ => dv_conv (a := (D.getD i 0) - 48) (z := (D.getD i 0) - 48) ui5 ui2 (T rfl rfl) (wr_i64 (by omega) (by omega))) ?_
                 refine aw_one 1 rfl (by kernel_rfl) .none (oe_callf (vs := [.int .i64 10]) co79 (ar1 C) (l1Int_ok  (by omega)) ?_)
                 rintro _ w182 ⟨nr177, A178, n179, c180, rfl, e183, h181⟩
                 have E184 := below_ext E174 E174.size e183
                 have lh181 := Num.len (by decide) h181
                 have H185 := (e183.blk H175)
                 refine ⟨.inr H185, ?_⟩
                 have h186 := ((h157.ext d173.ext).ext e183)
                 refine aw_one 2 rfl (by kernel_rfl) .none (oe_callf (vs := [.agg #[.bool nz, .slice Az lz cz], .agg #[.bool nr177, .slice A178 n179 c180]]) co78 (ar2 (T rfl rfl) (T rfl rfl)) (l1Mul_ok h186 h181 (by first | decide | omega) (by first | decide | omega)) ?_)
                 rintro _ w192 ⟨nr187, A188, n189, c190, rfl, e193, h191⟩
                 have E194 := below_ext E184 E184.size e193
                 have lh191 := Num.len (by decide) h191
                 have H195 := (e193.blk H185)
                 refine ⟨.inr H195, ?_⟩
                 refine aw_one 8 rfl (by kernel_rfl) .none (oe_callf (vs := [.int .i64 ((D.getD i 0) - 48)]) co79 (ar1 (T rfl rfl)) (l1Int_ok  (by omega)) ?_)
                 rintro _ w201 ⟨nr196, A197, n198, c199, rfl, e202, h200⟩
                 have E203 := below_ext E194 E194.size e202
                 have lh200 := Num.len (by decide) h200
                 have H204 := (e202.blk H195)
                 refine ⟨.inr H204, ?_⟩
                 have h205 := (h191.ext e202)
                 refine aw_one 9 rfl (by kernel_rfl) .none (oe_callf (vs := [.agg #[.bool nr187, .slice A188 n189 c190], .agg #[.bool nr196, .slice A197 n198 c199]]) co55 (ar2 (T rfl rfl) (T rfl rfl)) (l1Add_ok h205 h200 (by first | decide | omega) (by first | decide | omega)) ?_)
                 rintro _ w211 ⟨nr206, A207, n208, c209, rfl, e212, h210⟩
                 have E213 := below_ext E203 E203.size e212
                 have lh210 := Num.len (by decide) h210
                 have H214 := (e212.blk H204)
                 refine ⟨.inr H214, ?_⟩
                 refine aw_one 10 rfl (by kernel_rfl) .none (oe_store (v := .agg #[.bool nr206, .slice A207 n208 c209]) (vs := [.bool nr206, .slice A207 n208 c209]) (l := [.bool nr206, .slice A207 n208 c209]) (T rfl f152) (T rfl rfl) sz65 rfl rfl rfl H214 rfl ?_)
                 intro w215 s216 H217
                 have E218 := below_st E213 N137 s216
                 refine ⟨.inl rfl, ?_⟩
                 refine aw_done (by kernel_rfl) ?_
                 refine rk_inBlock ?_
                 refine rk_reg ?_
                 refine lw_v (.int .i64 ((i : Int))) (dv_move (T rfl f153)) ?_
                 refine lw_v (.int .i64 (((i : Int)) + 1)) (dv_add (a := (i : Int)) (b := 1) (z := ((i : Int)) + 1) (T rfl rfl) C (wr_i64 (by omega) (by omega))) ?_
                 refine lw_v (.int .i64 (((i : Int)) + 1)) (dv_assign (T rfl rfl)) ?_
                 refine lw_nil ?_
                 have h219 := (h210.st s216 H214 (by decide))
                 have hd220 : ∀ c ∈ D.take (i + 1), isD c := isD_take (by omega) hdg ⟨by omega, by omega⟩
                 have H221 := (s216.blk (e212.blk (e202.blk (e193.blk (e183.blk (d173.ext.blk H155))))) (by omega))
                 exact ih146 (D.length - ((i + 1))) _ _ (by rw [hd158]; omega) ⟨(i + 1), nr206, A207, n208, c209, rfl, f149, f150, f151, f152, (vi (by omega)), E218, H221, H217, (h219.tight (valD_take (by omega)).symm (valD_sz hd220 (by simp; omega))), (by omega), hd220⟩
           · refine rk_cf (T rfl (congrArg Value.bool (decide_eq_false hb159))) ?_
             refine rk_exit rfl ?_
             refine rk_seq ?_
             refine rk_seq ?_
             refine rk_reg ?_
             refine lw_v (.bool ng) (dv_move (T rfl f151)) ?_
             refine lw_nil ?_
             rcases Bool.eq_false_or_eq_true (ng) with hb222 | hb222
             · refine rk_ct (T rfl (congrArg Value.bool hb222)) ?_
               refine rk_reg ?_
               refine lw_v (.agg #[.bool nz, .slice Az lz cz]) (dv_loads (l := [.bool nz, .slice Az lz cz]) agt65 sz65 (T rfl f152) H156 rfl) ?_
               refine lw_e (oe_callf (vs := [.agg #[.bool nz, .slice Az lz cz]]) co96 (ar1 (T rfl rfl)) (l1Neg_ok h157 ) ?_)
               rintro _ w228 ⟨nr223, A224, n225, c226, rfl, e229, h227⟩
               have E230 := below_ext E154 E154.size e229
               have lh227 := Num.len (by decide) h227
               have H231 := (e229.blk H156)
               refine lw_e (oe_store (v := .agg #[.bool nr223, .slice A224 n225 c226]) (vs := [.bool nr223, .slice A224 n225 c226]) (l := [.bool nr223, .slice A224 n225 c226]) (T rfl f152) (T rfl rfl) sz65 rfl rfl rfl H231 rfl ?_)
               intro w232 s233 H234
               have E235 := below_st E230 N137 s233
               refine lw_nil ?_
               refine rk_seq ?_
               refine rk_reg ?_
               refine lw_v (.agg #[.bool nr223, .slice A224 n225 c226]) (dv_loads (l := [.bool nr223, .slice A224 n225 c226]) agt65 sz65 (T rfl f152) H234 rfl) ?_
               have H236 := (s233.blk (e229.blk H155) (by omega))
               refine lw_e (oe_store (v := .agg #[.bool nr223, .slice A224 n225 c226]) (vs := [.bool nr223, .slice A224 n225 c226]) (l := [.bool nr223, .slice A224 n225 c226]) (T rfl f149) (T rfl rfl) sz65 rfl rfl rfl H236 rfl ?_)
               intro w237 s238 H239
               have E240 := below_st E235 N4 s238
               refine lw_v (.bool true) (dv_assign C) ?_
               refine lw_nil ?_
               refine rk_ret Try.func58 (v := .tuple #[.agg #[.bool nr223, .slice A224 n225 c226], .bool true]) (res2 Try.results58 (rv_cells (l := [.bool nr223, .slice A224 n225 c226]) agt65 sz65 rfl f149 H239 rfl) (rv_tmp rfl rfl)) ⟨_, rfl, ?_⟩
               have h241 := ((h227.st s233 H231 (by decide)).st s238 H236 (by decide))
               have hz1 := numD_of2 (i := i) hD hng (by omega)
               have hz2 := (numD_of (i := i) hD hng (by omega) hdg).2
               have hbn : ng = true := by assumption
               have hzz : -(valD (D.take i)) = numD L := by rw [← hz1, hbn]; rfl
               exact ⟨_, _, _, _, _, tu2 rfl (vt ⟨(formD_iff hD hng).2 ⟨by omega, hz2, fun h48 => by first | (exfalso; omega) | (exact absurd h48 (by assumption)) | exact ⟨by assumption, by omega⟩⟩, by rw [hD]; omega⟩), E240, h241, fun _ => hzz⟩
             · refine rk_cf (T rfl (congrArg Value.bool hb222)) ?_
               refine rk_skip ?_
               refine rk_seq ?_
               refine rk_reg ?_
               refine lw_v (.agg #[.bool nz, .slice Az lz cz]) (dv_loads (l := [.bool nz, .slice Az lz cz]) agt65 sz65 (T rfl f152) H156 rfl) ?_
               refine lw_e (oe_store (v := .agg #[.bool nz, .slice Az lz cz]) (vs := [.bool nz, .slice Az lz cz]) (l := [.bool nz, .slice Az lz cz]) (T rfl f149) (T rfl rfl) sz65 rfl rfl rfl H155 rfl ?_)
               intro w242 s243 H244
               have E245 := below_st E154 N4 s243
               refine lw_v (.bool true) (dv_assign C) ?_
               refine lw_nil ?_
               refine rk_ret Try.func58 (v := .tuple #[.agg #[.bool nz, .slice Az lz cz], .bool true]) (res2 Try.results58 (rv_cells (l := [.bool nz, .slice Az lz cz]) agt65 sz65 rfl f149 H244 rfl) (rv_tmp rfl rfl)) ⟨_, rfl, ?_⟩
               have h246 := (h157.st s243 H155 (by decide))
               have hz1 := numD_of2 (i := i) hD hng (by omega)
               have hz2 := (numD_of (i := i) hD hng (by omega) hdg).2
               have hbn : ng = false := by assumption
               have hzz : valD (D.take i) = numD L := by rw [← hz1, hbn]; rfl
               exact ⟨_, _, _, _, _, tu2 rfl (vt ⟨(formD_iff hD hng).2 ⟨by omega, hz2, fun h48 => by first | (exfalso; omega) | (exact absurd h48 (by assumption)) | exact ⟨by assumption, by omega⟩⟩, by rw [hD]; omega⟩), E245, h246, fun _ => hzz⟩
   · refine rk_seq ?_
     refine rk_reg ?_
     refine lw_v (.bool (decide ((L.getD 0 0) = 45))) (dv_move (T rfl rfl)) ?_
     refine lw_nil ?_
     by_cases hb247 : (L.getD 0 0) = 45
     · refine rk_ct (T rfl (congrArg Value.bool (decide_eq_true hb247))) ?_
       refine rk_reg ?_
       refine lw_v (.string (bOf L)) (dv_move (T rfl rfl)) ?_
       refine lw_v (.string (bOf (L.drop 1))) (dv_sliceSl (L := L) (i := 1) (j := 1) ut9 (T rfl rfl) C (by omega) (by first | omega | (simp; done) | (simp; omega))) ?_
       refine lw_v (.string (bOf (L.drop 1))) (dv_assign (T rfl rfl)) ?_
       refine lw_nil ?_
       exact hj10 _ _ ⟨(L.drop 1), true, rfl, rfl, rfl, rfl, (congrArg Value.bool (decide_eq_true hb247)), E5, n3.blk, (digD_t (by assumption)).1, (digD_t (by assumption)).2, (by simp)⟩
     · refine rk_cf (T rfl (congrArg Value.bool (decide_eq_false hb247))) ?_
       refine rk_skip ?_
       exact hj10 _ _ ⟨L, false, rfl, rfl, rfl, rfl, (congrArg Value.bool (decide_eq_false hb247)), E5, n3.blk, (digD_f (by assumption)).1, (digD_f (by assumption)).2, (Nat.le_refl _)⟩
 · refine lw_no (d := 14) rfl rfl (congrArg Value.bool (decide_eq_false hb6)) ?_
   refine lw_no (d := 14) rfl rfl (congrArg Value.bool (decide_eq_false hb6)) ?_
   refine lw_no (d := 14) rfl rfl (congrArg Value.bool (decide_eq_false hb6)) ?_
   refine lw_v (.bool false) (dv_pick_f (T rfl (congrArg Value.bool (decide_eq_false hb6))) C) ?_
   refine lw_v (.bool false) (dv_assign (T rfl rfl)) ?_
   refine lw_nil ?_
   refine rk_seq ?_
   refine rk_join (fun fr wl => ∃ (D : List Int) (ng : Bool), fr 1 = .int .i64 77 ∧ fr 4 = .pointer (some ⟨b1, 0, none⟩) ∧ fr 5 = .bool false ∧ fr 6 = .string (bOf D) ∧ fr 7 = .bool ng ∧ Below w.heap.size w wl ∧ wl.heap[b1]? = some (.cells #[.bool false, .slice none 0 0] 65) ∧ (digD L = D) ∧ (negD L = ng) ∧ (D.length ≤ L.length)) ?_ (fun hj250 => ?_)
   · intro fr251 w248 hI249
     obtain ⟨D, ng, f252, f253, f254, f255, f256, E257, H258, hD, hng, hDl⟩ := hI249
     refine rk_seq ?_
     refine rk_seq ?_
     refine rk_reg ?_
     refine lw_v (.string (bOf D)) (dv_move (T rfl f255)) ?_
     refine lw_v (.int .i64 ((D.length : Int))) (dv_lenS (L := D) ut9 (T rfl rfl)) ?_
     refine lw_v (.bool (decide (((D.length : Int)) < 1))) (dv_lss (a := (D.length : Int)) (b := 1) (T rfl rfl) C) ?_
     refine lw_v (.bool (decide (((D.length : Int)) < 1))) (dv_move (T rfl rfl)) ?_
     by_cases hb259 : ((D.length : Int)) < 1
     · refine lw_no (d := 25) rfl rfl (congrArg Value.bool (decide_eq_true hb259)) ?_
       refine lw_no (d := 25) rfl rfl (congrArg Value.bool (decide_eq_true hb259)) ?_
       refine lw_no (d := 25) rfl rfl (congrArg Value.bool (decide_eq_true hb259)) ?_
       refine lw_no (d := 25) rfl rfl (congrArg Value.bool (decide_eq_true hb259)) ?_
       refine lw_v (.bool true) (dv_pick_t (T rfl (congrArg Value.bool (decide_eq_true hb259))) C) ?_
       refine lw_v (.bool true) (dv_move (T rfl rfl)) ?_
       refine lw_no (d := 31) rfl rfl (rfl) ?_
       refine lw_no (d := 31) rfl rfl (rfl) ?_
       refine lw_no (d := 31) rfl rfl (rfl) ?_
       refine lw_no (d := 31) rfl rfl (rfl) ?_
       refine lw_nou (d := 35) rfl rfl ?_
       refine lw_nou (d := 35) rfl rfl ?_
       refine lw_nou (d := 37) rfl rfl ?_
       refine lw_nou (d := 37) rfl rfl ?_
       refine lw_nou (d := 37) rfl rfl ?_
       refine lw_nou (d := 35) rfl rfl ?_
       refine lw_no (d := 31) rfl rfl (rfl) ?_
       refine lw_v (.bool true) (dv_pick_t (T rfl rfl) C) ?_
       refine lw_nil ?_
       refine rk_ct (T rfl rfl) ?_
       refine rk_seq ?_
       refine rk_reg ?_
       refine lw_v (.agg #[.bool false, .slice none 0 0]) (dv_build (pv := []) (l := [.bool false, .slice none 0 0]) zc65 pl65 trivial rfl) ?_
       refine lw_e (oe_store (v := .agg #[.bool false, .slice none 0 0]) (vs := [.bool false, .slice none 0 0]) (l := [.bool false, .slice none 0 0]) (T rfl f253) (T rfl rfl) sz65 rfl rfl rfl H258 rfl ?_)
       intro w260 s261 H262
       have E263 := below_st E257 N4 s261
       refine lw_v (.bool false) (dv_assign C) ?_
       refine lw_nil ?_
       refine rk_ret Try.func58 (v := .tuple #[.agg #[.bool false, .slice none 0 0], .bool false]) (res2 Try.results58 (rv_cells (l := [.bool false, .slice none 0 0]) agt65 sz65 rfl f253 H262 rfl) (rv_tmp rfl rfl)) ⟨_, rfl, ?_⟩
       have hno : ¬ (formD L ∧ (digD L).length ≤ 77) := (fun hh => by have h1 := (formD_iff hD hng).1 hh.1; have h2 := hh.2; rw [hD] at h2; first | omega | (have h3 := h1.2.2 (by assumption); first | omega | (have h4 := h3.1; simp_all)))
       exact ⟨_, _, _, _, 0, tu2 rfl (vf hno), E263, Num.zero, fun hh => absurd hh hno⟩
     · refine lw_vy (.string (bOf D)) (d := 25) rfl rfl (congrArg Value.bool (decide_eq_false hb259)) (dv_move (T rfl f255)) ?_
       refine lw_vy (.int .i64 ((D.length : Int))) (d := 25) rfl rfl (congrArg Value.bool (decide_eq_false hb259)) (dv_lenS (L := D) ut9 (T rfl rfl)) ?_
       refine lw_vy (.int .i64 77) (d := 25) rfl rfl (congrArg Value.bool (decide_eq_false hb259)) (dv_move (T rfl f252)) ?_
       refine lw_vy (.bool (decide (77 < ((D.length : Int))))) (d := 25) rfl rfl (congrArg Value.bool (decide_eq_false hb259)) (dv_gtr (a := (D.length : Int)) (b := 77) (T rfl rfl) (T rfl rfl)) ?_
       refine lw_v (.bool (decide (77 < ((D.length : Int))))) (dv_pick_f (T rfl (congrArg Value.bool (decide_eq_false hb259))) (T rfl rfl)) ?_
       refine lw_v (.bool (decide (77 < ((D.length : Int))))) (dv_move (T rfl rfl)) ?_
       by_cases hb264 : 77 < ((D.length : Int))
       · refine lw_no (d := 31) rfl rfl (congrArg Value.bool (decide_eq_true hb264)) ?_
         refine lw_no (d := 31) rfl rfl (congrArg Value.bool (decide_eq_true hb264)) ?_
         refine lw_no (d := 31) rfl rfl (congrArg Value.bool (decide_eq_true hb264)) ?_
         refine lw_no (d := 31) rfl rfl (congrArg Value.bool (decide_eq_true hb264)) ?_
         refine lw_nou (d := 35) rfl rfl ?_
         refine lw_nou (d := 35) rfl rfl ?_
         refine lw_nou (d := 37) rfl rfl ?_
         refine lw_nou (d := 37) rfl rfl ?_
         refine lw_nou (d := 37) rfl rfl ?_
         refine lw_nou (d := 35) rfl rfl ?_
         refine lw_no (d := 31) rfl rfl (congrArg Value.bool (decide_eq_true hb264)) ?_
         refine lw_v (.bool true) (dv_pick_t (T rfl (congrArg Value.bool (decide_eq_true hb264))) C) ?_
         refine lw_nil ?_
         refine rk_ct (T rfl rfl) ?_
         refine rk_seq ?_
         refine rk_reg ?_
         refine lw_v (.agg #[.bool false, .slice none 0 0]) (dv_build (pv := []) (l := [.bool false, .slice none 0 0]) zc65 pl65 trivial rfl) ?_
         refine lw_e (oe_store (v := .agg #[.bool false, .slice none 0 0]) (vs := [.bool false, .slice none 0 0]) (l := [.bool false, .slice none 0 0]) (T rfl f253) (T rfl rfl) sz65 rfl rfl rfl H258 rfl ?_)
         intro w265 s266 H267
         have E268 := below_st E257 N4 s266
         refine lw_v (.bool false) (dv_assign C) ?_
         refine lw_nil ?_
         refine rk_ret Try.func58 (v := .tuple #[.agg #[.bool false, .slice none 0 0], .bool false]) (res2 Try.results58 (rv_cells (l := [.bool false, .slice none 0 0]) agt65 sz65 rfl f253 H267 rfl) (rv_tmp rfl rfl)) ⟨_, rfl, ?_⟩
         have hno : ¬ (formD L ∧ (digD L).length ≤ 77) := (fun hh => by have h1 := (formD_iff hD hng).1 hh.1; have h2 := hh.2; rw [hD] at h2; first | omega | (have h3 := h1.2.2 (by assumption); first | omega | (have h4 := h3.1; simp_all)))
         exact ⟨_, _, _, _, 0, tu2 rfl (vf hno), E268, Num.zero, fun hh => absurd hh hno⟩
       · refine lw_vy (.string (bOf D)) (d := 31) rfl rfl (congrArg Value.bool (decide_eq_false hb264)) (dv_move (T rfl f255)) ?_
         have bg269 := okW.getD (okD hD hL) (by decide) 0
         refine lw_vy (.int .u8 (D.getD 0 0)) (d := 31) rfl rfl (congrArg Value.bool (decide_eq_false hb264)) (dv_indexS (L := D) (i := 0) (j := 0) ut9 (T rfl rfl) C (okD hD hL) (by omega) (by first | omega | (simp; done) | (simp; omega))) ?_
         refine lw_vy (.bool (decide ((D.getD 0 0) = 48))) (d := 31) rfl rfl (congrArg Value.bool (decide_eq_false hb264)) (dv_eql (a := D.getD 0 0) (b := 48) (T rfl rfl) C) ?_
         refine lw_vy (.bool (decide ((D.getD 0 0) = 48))) (d := 31) rfl rfl (congrArg Value.bool (decide_eq_false hb264)) (dv_move (T rfl rfl)) ?_
         by_cases hb270 : (D.getD 0 0) = 48
         · refine lw_vy (.bool ng) (d := 35) rfl rfl (congrArg Value.bool (decide_eq_true hb270)) (dv_move (T rfl f256)) ?_
           refine lw_vy (.bool ng) (d := 35) rfl rfl (congrArg Value.bool (decide_eq_true hb270)) (dv_move (T rfl rfl)) ?_
           rcases Bool.eq_false_or_eq_true (ng) with hb271 | hb271
           · refine lw_no (d := 37) rfl rfl (congrArg Value.bool hb271) ?_
             refine lw_no (d := 37) rfl rfl (congrArg Value.bool hb271) ?_
             refine lw_no (d := 37) rfl rfl (congrArg Value.bool hb271) ?_
             refine lw_vy (.bool true) (d := 35) rfl rfl (congrArg Value.bool (decide_eq_true hb270)) (dv_pick_t (T rfl (congrArg Value.bool hb271)) C) ?_
             refine lw_vy (.bool true) (d := 31) rfl rfl (congrArg Value.bool (decide_eq_false hb264)) (dv_pick_t (T rfl (congrArg Value.bool (decide_eq_true hb270))) (T rfl rfl)) ?_
             refine lw_v (.bool true) (dv_pick_f (T rfl (congrArg Value.bool (decide_eq_false hb264))) (T rfl rfl)) ?_
             refine lw_nil ?_
             refine rk_ct (T rfl rfl) ?_
             refine rk_seq ?_
             refine rk_reg ?_
             refine lw_v (.agg #[.bool false, .slice none 0 0]) (dv_build (pv := []) (l := [.bool false, .slice none 0 0]) zc65 pl65 trivial rfl) ?_
             refine lw_e (oe_store (v := .agg #[.bool false, .slice none 0 0]) (vs := [.bool false, .slice none 0 0]) (l := [.bool false, .slice none 0 0]) (T rfl f253) (T rfl rfl) sz65 rfl rfl rfl H258 rfl ?_)
             intro w272 s273 H274
             have E275 := below_st E257 N4 s273
             refine lw_v (.bool false) (dv_assign C) ?_
             refine lw_nil ?_
             refine rk_ret Try.func58 (v := .tuple #[.agg #[.bool false, .slice none 0 0], .bool false]) (res2 Try.results58 (rv_cells (l := [.bool false, .slice none 0 0]) agt65 sz65 rfl f253 H274 rfl) (rv_tmp rfl rfl)) ⟨_, rfl, ?_⟩
             have hno : ¬ (formD L ∧ (digD L).length ≤ 77) := (fun hh => by have h1 := (formD_iff hD hng).1 hh.1; have h2 := hh.2; rw [hD] at h2; first | omega | (have h3 := h1.2.2 (by assumption); first | omega | (have h4 := h3.1; simp_all)))
             exact ⟨_, _, _, _, 0, tu2 rfl (vf hno), E275, Num.zero, fun hh => absurd hh hno⟩
           · refine lw_vy (.string (bOf D)) (d := 37) rfl rfl (congrArg Value.bool hb271) (dv_move (T rfl f255)) ?_
             refine lw_vy (.int .i64 ((D.length : Int))) (d := 37) rfl rfl (congrArg Value.bool hb271) (dv_lenS (L := D) ut9 (T rfl rfl)) ?_
             refine lw_vy (.bool (decide (1 < ((D.length : Int))))) (d := 37) rfl rfl (congrArg Value.bool hb271) (dv_gtr (a := (D.length : Int)) (b := 1) (T rfl rfl) C) ?_
             refine lw_vy (.bool (decide (1 < ((D.length : Int))))) (d := 35) rfl rfl (congrArg Value.bool (decide_eq_true hb270)) (dv_pick_f (T rfl (congrArg Value.bool hb271)) (T rfl rfl)) ?_
             refine lw_vy (.bool (decide (1 < ((D.length : Int))))) (d := 31) rfl rfl (congrArg Value.bool (decide_eq_false hb264)) (dv_pick_t (T rfl (congrArg Value.bool (decide_eq_true hb270))) (T rfl rfl)) ?_
             refine lw_v (.bool (decide (1 < ((D.length : Int))))) (dv_pick_f (T rfl (congrArg Value.bool (decide_eq_false hb264))) (T rfl rfl)) ?_
             refine lw_nil ?_
             by_cases hb276 : 1 < ((D.length : Int))
             · refine rk_ct (T rfl (congrArg Value.bool (decide_eq_true hb276))) ?_
               refine rk_seq ?_
               refine rk_reg ?_
               refine lw_v (.agg #[.bool false, .slice none 0 0]) (dv_build (pv := []) (l := [.bool false, .slice none 0 0]) zc65 pl65 trivial rfl) ?_
               refine lw_e (oe_store (v := .agg #[.bool false, .slice none 0 0]) (vs := [.bool false, .slice none 0 0]) (l := [.bool false, .slice none 0 0]) (T rfl f253) (T rfl rfl) sz65 rfl rfl rfl H258 rfl ?_)
               intro w277 s278 H279
               have E280 := below_st E257 N4 s278
               refine lw_v (.bool false) (dv_assign C) ?_
               refine lw_nil ?_
               refine rk_ret Try.func58 (v := .tuple #[.agg #[.bool false, .slice none 0 0], .bool false]) (res2 Try.results58 (rv_cells (l := [.bool false, .slice none 0 0]) agt65 sz65 rfl f253 H279 rfl) (rv_tmp rfl rfl)) ⟨_, rfl, ?_⟩
               have hno : ¬ (formD L ∧ (digD L).length ≤ 77) := (fun hh => by have h1 := (formD_iff hD hng).1 hh.1; have h2 := hh.2; rw [hD] at h2; first | omega | (have h3 := h1.2.2 (by assumption); first | omega | (have h4 := h3.1; simp_all)))
               exact ⟨_, _, _, _, 0, tu2 rfl (vf hno), E280, Num.zero, fun hh => absurd hh hno⟩
             · refine rk_cf (T rfl (congrArg Value.bool (decide_eq_false hb276))) ?_
               refine rk_skip ?_
               refine rk_seq ?_
               refine rk_reg ?_
               refine lw_v (.agg #[.bool false, .slice none 0 0]) (dv_build (pv := []) (l := [.bool false, .slice none 0 0]) zc65 pl65 trivial rfl) ?_
               refine lw_e (oe_alloc ze65 ?_)
               intro b281 w282 n283
               have N284 : w.heap.size ≤ b281 := n283.eq ▸ E257.size
               have : b1 < b281 := n283.eq ▸ lt_of_blk H258
               have E285 := below_ext E257 E257.size n283.ext
               refine lw_e (oe_store (v := .agg #[.bool false, .slice none 0 0]) (vs := [.bool false, .slice none 0 0]) (l := [.bool false, .slice none 0 0]) (T rfl rfl) (T rfl rfl) sz65 rfl rfl rfl n283.blk rfl ?_)
               intro w286 s287 H288
               have E289 := below_st E285 N284 s287
               refine lw_nil ?_
               refine rk_seq ?_
               refine rk_seq ?_
               refine rk_reg ?_
               refine lw_v (.int .i64 0) (dv_assign C) ?_
               refine lw_nil ?_
               refine rk_block ?_
               have H290 := (s287.blk (n283.ext.blk H258) (by omega))
               refine rk_loop (fun dm_ fr wl => ∃ (i : Nat) (nz : Bool) (Az : Option Addr) (lz cz : Nat), dm_ = D.length - i ∧ fr 4 = .pointer (some ⟨b1, 0, none⟩) ∧ fr 6 = .string (bOf D) ∧ fr 7 = .bool ng ∧ fr 8 = .pointer (some ⟨b281, 0, none⟩) ∧ fr 9 = .int .i64 ((i : Int)) ∧ Below w.heap.size w wl ∧ wl.heap[b1]? = some (.cells #[.bool false, .slice none 0 0] 65) ∧ wl.heap[b281]? = some (.cells #[.bool nz, .slice Az lz cz] 65) ∧ Num 32 95 .u32 wl nz Az lz cz (valD (D.take i)) S ∧ (i ≤ D.length) ∧ (∀ c ∈ D.take i, isD c)) (D.length - 0) ⟨0, false, none, 0, 0, rfl, f253, f255, f256, rfl, (vi (by omega)), E289, H290, H288, Num.zero, (Nat.zero_le _), (fun c hc => by cases hc)⟩ ?_
               intro d295 fr294 w291 hI292 ih293
               obtain ⟨i, nz, Az, lz, cz, hd305, f296, f297, f298, f299, f300, E301, H302, H303, h304, hi, hdg⟩ := hI292
               have lh304 := Num.len (by decide) h304
               refine rk_seq ?_
               refine rk_seq ?_
               refine rk_reg ?_
               refine lw_v (.int .i64 ((i : Int))) (dv_move (T rfl f300)) ?_
               refine lw_v (.string (bOf D)) (dv_move (T rfl f297)) ?_
               refine lw_v (.int .i64 ((D.length : Int))) (dv_lenS (L := D) ut9 (T rfl rfl)) ?_
               refine lw_v (.bool (decide (((i : Int)) < ((D.length : Int))))) (dv_lss (a := (i : Int)) (b := (D.length : Int)) (T rfl rfl) (T rfl rfl)) ?_
               refine lw_nil ?_
               by_cases hb306 : ((i : Int)) < ((D.length : Int))
               · refine rk_ct (T rfl (congrArg Value.bool (decide_eq_true hb306))) ?_
                 refine rk_skip ?_
                 refine rk_seq ?_
                 refine rk_block ?_
                 refine rk_seq ?_
                 refine rk_seq ?_
                 refine rk_reg ?_
                 refine lw_v (.string (bOf D)) (dv_move (T rfl f297)) ?_
                 refine lw_v (.int .i64 ((i : Int))) (dv_move (T rfl f300)) ?_
                 have bg307 := okW.getD (okD hD hL) (by decide) i
                 refine lw_v (.int .u8 (D.getD i 0)) (dv_indexS (L := D) (i := i) (j := (i : Int)) ut9 (T rfl rfl) (T rfl rfl) (okD hD hL) (by omega) (by first | omega | (simp; done) | (simp; omega))) ?_
                 refine lw_v (.bool (decide ((D.getD i 0) < 48))) (dv_lss (a := D.getD i 0) (b := 48) (T rfl rfl) C) ?_
                 refine lw_v (.bool (decide ((D.getD i 0) < 48))) (dv_move (T rfl rfl)) ?_
                 by_cases hb308 : (D.getD i 0) < 48
                 · refine lw_no (d := 56) rfl rfl (congrArg Value.bool (decide_eq_true hb308)) ?_
                   refine lw_no (d := 56) rfl rfl (congrArg Value.bool (decide_eq_true hb308)) ?_
                   refine lw_no (d := 56) rfl rfl (congrArg Value.bool (decide_eq_true hb308)) ?_
                   refine lw_no (d := 56) rfl rfl (congrArg Value.bool (decide_eq_true hb308)) ?_
                   refine lw_v (.bool true) (dv_pick_t (T rfl (congrArg Value.bool (decide_eq_true hb308))) C) ?_
                   refine lw_nil ?_
                   refine rk_ct (T rfl rfl) ?_
                   refine rk_seq ?_
                   refine rk_reg ?_
                   refine lw_v (.agg #[.bool false, .slice none 0 0]) (dv_build (pv := []) (l := [.bool false, .slice none 0 0]) zc65 pl65 trivial rfl) ?_
                   refine lw_e (oe_store (v := .agg #[.bool false, .slice none 0 0]) (vs := [.bool false, .slice none 0 0]) (l := [.bool false, .slice none 0 0]) (T rfl f296) (T rfl rfl) sz65 rfl rfl rfl H302 rfl ?_)
                   intro w309 s310 H311
                   have E312 := below_st E301 N4 s310
                   refine lw_v (.bool false) (dv_assign C) ?_
                   refine lw_nil ?_
                   refine rk_ret Try.func58 (v := .tuple #[.agg #[.bool false, .slice none 0 0], .bool false]) (res2 Try.results58 (rv_cells (l := [.bool false, .slice none 0 0]) agt65 sz65 rfl f296 H311 rfl) (rv_tmp rfl rfl)) ⟨_, rfl, ?_⟩
                   have hno : ¬ (formD L ∧ (digD L).length ≤ 77) := (fun hh => not_formD hD (i := i) (by omega) (fun hd => by unfold isD at hd; omega) hh.1)
                   exact ⟨_, _, _, _, 0, tu2 rfl (vf hno), E312, Num.zero, fun hh => absurd hh hno⟩
                 · refine lw_vy (.string (bOf D)) (d := 56) rfl rfl (congrArg Value.bool (decide_eq_false hb308)) (dv_move (T rfl f297)) ?_
                   refine lw_vy (.int .i64 ((i : Int))) (d := 56) rfl rfl (congrArg Value.bool (decide_eq_false hb308)) (dv_move (T rfl f300)) ?_
                   have bg313 := okW.getD (okD hD hL) (by decide) i
                   refine lw_vy (.int .u8 (D.getD i 0)) (d := 56) rfl rfl (congrArg Value.bool (decide_eq_false hb308)) (dv_indexS (L := D) (i := i) (j := (i : Int)) ut9 (T rfl rfl) (T rfl rfl) (okD hD hL) (by omega) (by first | omega | (simp; done) | (simp; omega))) ?_
                   refine lw_vy (.bool (decide (57 < (D.getD i 0)))) (d := 56) rfl rfl (congrArg Value.bool (decide_eq_false hb308)) (dv_gtr (a := D.getD i 0) (b := 57) (T rfl rfl) C) ?_
                   refine lw_v (.bool (decide (57 < (D.getD i 0)))) (dv_pick_f (T rfl (congrArg Value.bool (decide_eq_false hb308))) (T rfl rfl)) ?_
                   refine lw_nil ?_
                   by_cases hb314 : 57 < (D.getD i 0)
                   · refine rk_ct (T rfl (congrArg Value.bool (decide_eq_true hb314))) ?_
                     refine rk_seq ?_
                     refine rk_reg ?_
                     refine lw_v (.agg #[.bool false, .slice none 0 0]) (dv_build (pv := []) (l := [.bool false, .slice none 0 0]) zc65 pl65 trivial rfl) ?_
                     refine lw_e (oe_store (v := .agg #[.bool false, .slice none 0 0]) (vs := [.bool false, .slice none 0 0]) (l := [.bool false, .slice none 0 0]) (T rfl f296) (T rfl rfl) sz65 rfl rfl rfl H302 rfl ?_)
                     intro w315 s316 H317
                     have E318 := below_st E301 N4 s316
                     refine lw_v (.bool false) (dv_assign C) ?_
                     refine lw_nil ?_
                     refine rk_ret Try.func58 (v := .tuple #[.agg #[.bool false, .slice none 0 0], .bool false]) (res2 Try.results58 (rv_cells (l := [.bool false, .slice none 0 0]) agt65 sz65 rfl f296 H317 rfl) (rv_tmp rfl rfl)) ⟨_, rfl, ?_⟩
                     have hno : ¬ (formD L ∧ (digD L).length ≤ 77) := (fun hh => not_formD hD (i := i) (by omega) (fun hd => by unfold isD at hd; omega) hh.1)
                     exact ⟨_, _, _, _, 0, tu2 rfl (vf hno), E318, Num.zero, fun hh => absurd hh hno⟩
                   · refine rk_cf (T rfl (congrArg Value.bool (decide_eq_false hb314))) ?_
                     refine rk_skip ?_
                     refine rk_any (fun w => w.heap[b281]? = some (.cells #[.bool nz, .slice Az lz cz] 65)) [10] mo ?_
                     intro w319 d320
                     have E321 := below_ext E301 E301.size d320.ext
                     have H322 := (d320.ext.blk H303)
                     refine aw_load 0 (.agg #[.bool nz, .slice Az lz cz]) rfl (by kernel_rfl) .none H322 (fun _ s => dv_loads (l := [.bool nz, .slice Az lz cz]) agt65 sz65 (T rfl f299) s rfl) ?_
                     refine aw_pure 3 (.string (bOf D)) rfl (by kernel_rfl) .none H322 (fun _ => dv_move (T rfl f297)) ?_
                     refine aw_pure 4 (.int .i64 ((i : Int))) rfl (by kernel_rfl) .none H322 (fun _ => dv_move (T rfl f300)) ?_
                     have bg323 := okW.getD (okD hD hL) (by decide) i
                     refine aw_pure 5 (.int .u8 (D.getD i 0)) rfl (by kernel_rfl) .none H322 (fun _ => dv_indexS (L := D) (i := i) (j := (i : Int)) ut9 (T rfl rfl) (T rfl rfl) (okD hD hL) (by omega) (by first | omega | (simp; done) | (simp; omega))) ?_
                     refine aw_pure 6 (.int .u8 ((D.getD i 0) - 48)) rfl (by kernel_rfl) .none H322 (fun _ => dv_sub (a := D.getD i 0) (b := 48) (z := (D.getD i 0) - 48) (T rfl rfl) C (wn_u8 (by omega) (by omega))) ?_
                     refine aw_pure 7 (.int .i64 ((D.getD i 0) - 48)) rfl (by kernel_rfl) .none H322 (fun _ => dv_conv (a := (D.getD i 0) - 48) (z := (D.getD i 0) - 48) ui5 ui2 (T rfl rfl) (wr_i64 (by omega) (by omega))) ?_
                     refine aw_one 1 rfl (by kernel_rfl) .none (oe_callf (vs := [.int .i64 10]) co79 (ar1 C) (l1Int_ok  (by omega)) ?_)
                     rintro _ w329 ⟨nr324, A325, n326, c327, rfl, e330, h328⟩
                     have E331 := below_ext E321 E321.size e330
                     have lh328 := Num.len (by decide) h328
                     have H332 := (e330.blk H322)
                     refine ⟨.inr H332, ?_⟩
                     have h333 := ((h304.ext d320.ext).ext e330)
                     refine aw_one 2 rfl (by kernel_rfl) .none (oe_callf (vs := [.agg #[.bool nz, .slice Az lz cz], .agg #[.bool nr324, .slice A325 n326 c327]]) co78 (ar2 (T rfl rfl) (T rfl rfl)) (l1Mul_ok h333 h328 (by first | decide | omega) (by first | decide | omega)) ?_)
                     rintro _ w339 ⟨nr334, A335, n336, c337, rfl, e340, h338⟩
                     have E341 := below_ext E331 E331.size e340
                     have lh338 := Num.len (by decide) h338
                     have H342 := (e340.blk H332)
                     refine ⟨.inr H342, ?_⟩
                     refine aw_one 8 rfl (by kernel_rfl) .none (oe_callf (vs := [.int .i64 ((D.getD i 0) - 48)]) co79 (ar1 (T rfl rfl)) (l1Int_ok  (by omega)) ?_)
                     rintro _ w348 ⟨nr343, A344, n345, c346, rfl, e349, h347⟩
                     have E350 := below_ext E341 E341.size e349
                     have lh347 := Num.len (by decide) h347
                     have H351 := (e349.blk H342)
                     refine ⟨.inr H351, ?_⟩
                     have h352 := (h338.ext e349)
                     refine aw_one 9 rfl (by kernel_rfl) .none (oe_callf (vs := [.agg #[.bool nr334, .slice A335 n336 c337], .agg #[.bool nr343, .slice A344 n345 c346]]) co55 (ar2 (T rfl rfl) (T rfl rfl)) (l1Add_ok h352 h347 (by first | decide | omega) (by first | decide | omega)) ?_)
                     rintro _ w358 ⟨nr353, A354, n355, c356, rfl, e359, h357⟩
                     have E360 := below_ext E350 E350.size e359
                     have lh357 := Num.len (by decide) h357
                     have H361 := (e359.blk H351)
                     refine ⟨.inr H361, ?_⟩
                     refine aw_one 10 rfl (by kernel_rfl) .none (oe_store (v := .agg #[.bool nr353, .slice A354 n355 c356]) (vs := [.bool nr353, .slice A354 n355 c356]) (l := [.bool nr353, .slice A354 n355 c356]) (T rfl f299) (T rfl rfl) sz65 rfl rfl rfl H361 rfl ?_)
                     intro w362 s363 H364
                     have E365 := below_st E360 N284 s363
                     refine ⟨.inl rfl, ?_⟩
                     refine aw_done (by kernel_rfl) ?_
                     refine rk_inBlock ?_
                     refine rk_reg ?_
                     refine lw_v (.int .i64 ((i : Int))) (dv_move (T rfl f300)) ?_
                     refine lw_v (.int .i64 (((i : Int)) + 1)) (dv_add (a := (i : Int)) (b := 1) (z := ((i : Int)) + 1) (T rfl rfl) C (wr_i64 (by omega) (by omega))) ?_
                     refine lw_v (.int .i64 (((i : Int)) + 1)) (dv_assign (T rfl rfl)) ?_
                     refine lw_nil ?_
                     have h366 := (h357.st s363 H361 (by decide))
                     have hd367 : ∀ c ∈ D.take (i + 1), isD c := isD_take (by omega) hdg ⟨by omega, by omega⟩
                     have H368 := (s363.blk (e359.blk (e349.blk (e340.blk (e330.blk (d320.ext.blk H302))))) (by omega))
                     exact ih293 (D.length - ((i + 1))) _ _ (by rw [hd305]; omega) ⟨(i + 1), nr353, A354, n355, c356, rfl, f296, f297, f298, f299, (vi (by omega)), E365, H368, H364, (h366.tight (valD_take (by omega)).symm (valD_sz hd367 (by simp; omega))), (by omega), hd367⟩
               · refine rk_cf (T rfl (congrArg Value.bool (decide_eq_false hb306))) ?_
                 refine rk_exit rfl ?_
                 refine rk_seq ?_
                 refine rk_seq ?_
                 refine rk_reg ?_
                 refine lw_v (.bool ng) (dv_move (T rfl f298)) ?_
                 refine lw_nil ?_
                 refine rk_cf (T rfl (congrArg Value.bool hb271)) ?_
                 refine rk_skip ?_
                 refine rk_seq ?_
                 refine rk_reg ?_
                 refine lw_v (.agg #[.bool nz, .slice Az lz cz]) (dv_loads (l := [.bool nz, .slice Az lz cz]) agt65 sz65 (T rfl f299) H303 rfl) ?_
                 refine lw_e (oe_store (v := .agg #[.bool nz, .slice Az lz cz]) (vs := [.bool nz, .slice Az lz cz]) (l := [.bool nz, .slice Az lz cz]) (T rfl f296) (T rfl rfl) sz65 rfl rfl rfl H302 rfl ?_)
                 intro w369 s370 H371
                 have E372 := below_st E301 N4 s370
                 refine lw_v (.bool true) (dv_assign C) ?_
                 refine lw_nil ?_
                 refine rk_ret Try.func58 (v := .tuple #[.agg #[.bool nz, .slice Az lz cz], .bool true]) (res2 Try.results58 (rv_cells (l := [.bool nz, .slice Az lz cz]) agt65 sz65 rfl f296 H371 rfl) (rv_tmp rfl rfl)) ⟨_, rfl, ?_⟩
                 have h373 := (h304.st s370 H302 (by decide))
                 have hz1 := numD_of2 (i := i) hD hng (by omega)
                 have hz2 := (numD_of (i := i) hD hng (by omega) hdg).2
                 have hbn : ng = false := by assumption
                 have hzz : valD (D.take i) = numD L := by rw [← hz1, hbn]; rfl
                 exact ⟨_, _, _, _, _, tu2 rfl (vt ⟨(formD_iff hD hng).2 ⟨by omega, hz2, fun h48 => by first | (exfalso; omega) | (exact absurd h48 (by assumption)) | exact ⟨by assumption, by omega⟩⟩, by rw [hD]; omega⟩), E372, h373, fun _ => hzz⟩
         · refine lw_no (d := 35) rfl rfl (congrArg Value.bool (decide_eq_false hb270)) ?_
           refine lw_no (d := 35) rfl rfl (congrArg Value.bool (decide_eq_false hb270)) ?_
           refine lw_nou (d := 37) rfl rfl ?_
           refine lw_nou (d := 37) rfl rfl ?_
           refine lw_nou (d := 37) rfl rfl ?_
           refine lw_no (d := 35) rfl rfl (congrArg Value.bool (decide_eq_false hb270)) ?_
           refine lw_vy (.bool false) (d := 31) rfl rfl (congrArg Value.bool (decide_eq_false hb264)) (dv_pick_f (T rfl (congrArg Value.bool (decide_eq_false hb270))) C) ?_
           refine lw_v (.bool false) (dv_pick_f (T rfl (congrArg Value.bool (decide_eq_false hb264))) (T rfl rfl)) ?_
           refine lw_nil ?_
           refine rk_cf (T rfl rfl) ?_
           refine rk_skip ?_
           refine rk_seq ?_
           refine rk_reg ?_
           refine lw_v (.agg #[.bool false, .slice none 0 0]) (dv_build (pv := []) (l := [.bool false, .slice none 0 0]) zc65 pl65 trivial rfl) ?_
           refine lw_e (oe_alloc ze65 ?_)
           intro b374 w375 n376
           have N377 : w.heap.size ≤ b374 := n376.eq ▸ E257.size
           have : b1 < b374 := n376.eq ▸ lt_of_blk H258
           have E378 := below_ext E257 E257.size n376.ext
           refine lw_e (oe_store (v := .agg #[.bool false, .slice none 0 0]) (vs := [.bool false, .slice none 0 0]) (l := [.bool false, .slice none 0 0]) (T rfl rfl) (T rfl rfl) sz65 rfl rfl rfl n376.blk rfl ?_)
           intro w379 s380 H381
           have E382 := below_st E378 N377 s380
           refine lw_nil ?_
           refine rk_seq ?_
           refine rk_seq ?_
           refine rk_reg ?_
           refine lw_v (.int .i64 0) (dv_assign C) ?_
           refine lw_nil ?_
           refine rk_block ?_
           have H383 := (s380.blk (n376.ext.blk H258) (by omega))
           refine rk_loop (fun dm_ fr wl => ∃ (i : Nat) (nz : Bool) (Az : Option Addr) (lz cz : Nat), dm_ = D.length - i ∧ fr 4 = .pointer (some ⟨b1, 0, none⟩) ∧ fr 6 = .string (bOf D) ∧ fr 7 = .bool ng ∧ fr 8 = .pointer (some ⟨b374, 0, none⟩) ∧ fr 9 = .int .i64 ((i : Int)) ∧ Below w.heap.size w wl ∧ wl.heap[b1]? = some (.cells #[.bool false, .slice none 0 0] 65) ∧ wl.heap[b374]? = some (.cells #[.bool nz, .slice Az lz cz] 65) ∧ Num 32 95 .u32 wl nz Az lz cz (valD (D.take i)) S ∧ (i ≤ D.length) ∧ (∀ c ∈ D.take i, isD c)) (D.length - 0) ⟨0, false, none, 0, 0, rfl, f253, f255, f256, rfl, (vi (by omega)), E382, H383, H381, Num.zero, (Nat.zero_le _), (fun c hc => by cases hc)⟩ ?_
           intro d388 fr387 w384 hI385 ih386
           obtain ⟨i, nz, Az, lz, cz, hd398, f389, f390, f391, f392, f393, E394, H395, H396, h397, hi, hdg⟩ := hI385
           have lh397 := Num.len (by decide) h397
           refine rk_seq ?_
           refine rk_seq ?_
           refine rk_reg ?_
           refine lw_v (.int .i64 ((i : Int))) (dv_move (T rfl f393)) ?_
           refine lw_v (.string (bOf D)) (dv_move (T rfl f390)) ?_
           refine lw_v (.int .i64 ((D.length : Int))) (dv_lenS (L := D) ut9 (T rfl rfl)) ?_
           refine lw_v (.bool (decide (((i : Int)) < ((D.length : Int))))) (dv_lss (a := (i : Int)) (b := (D.length : Int)) (T rfl rfl) (T rfl rfl)) ?_
           refine lw_nil ?_
           by_cases hb399 : ((i : Int)) < ((D.length : Int))
           · refine rk_ct (T rfl (congrArg Value.bool (decide_eq_true hb399))) ?_
             refine rk_skip ?_
             refine rk_seq ?_
             refine rk_block ?_
             refine rk_seq ?_
             refine rk_seq ?_
             refine rk_reg ?_
             refine lw_v (.string (bOf D)) (dv_move (T rfl f390)) ?_
             refine lw_v (.int .i64 ((i : Int))) (dv_move (T rfl f393)) ?_
             have bg400 := okW.getD (okD hD hL) (by decide) i
             refine lw_v (.int .u8 (D.getD i 0)) (dv_indexS (L := D) (i := i) (j := (i : Int)) ut9 (T rfl rfl) (T rfl rfl) (okD hD hL) (by omega) (by first | omega | (simp; done) | (simp; omega))) ?_
             refine lw_v (.bool (decide ((D.getD i 0) < 48))) (dv_lss (a := D.getD i 0) (b := 48) (T rfl rfl) C) ?_
             refine lw_v (.bool (decide ((D.getD i 0) < 48))) (dv_move (T rfl rfl)) ?_
             by_cases hb401 : (D.getD i 0) < 48
             · refine lw_no (d := 56) rfl rfl (congrArg Value.bool (decide_eq_true hb401)) ?_
               refine lw_no (d := 56) rfl rfl (congrArg Value.bool (decide_eq_true hb401)) ?_
               refine lw_no (d := 56) rfl rfl (congrArg Value.bool (decide_eq_true hb401)) ?_
               refine lw_no (d := 56) rfl rfl (congrArg Value.bool (decide_eq_true hb401)) ?_
               refine lw_v (.bool true) (dv_pick_t (T rfl (congrArg Value.bool (decide_eq_true hb401))) C) ?_
               refine lw_nil ?_
               refine rk_ct (T rfl rfl) ?_
               refine rk_seq ?_
               refine rk_reg ?_
               refine lw_v (.agg #[.bool false, .slice none 0 0]) (dv_build (pv := []) (l := [.bool false, .slice none 0 0]) zc65 pl65 trivial rfl) ?_
               refine lw_e (oe_store (v := .agg #[.bool false, .slice none 0 0]) (vs := [.bool false, .slice none 0 0]) (l := [.bool false, .slice none 0 0]) (T rfl f389) (T rfl rfl) sz65 rfl rfl rfl H395 rfl ?_)
               intro w402 s403 H404
               have E405 := below_st E394 N4 s403
               refine lw_v (.bool false) (dv_assign C) ?_
               refine lw_nil ?_
               refine rk_ret Try.func58 (v := .tuple #[.agg #[.bool false, .slice none 0 0], .bool false]) (res2 Try.results58 (rv_cells (l := [.bool false, .slice none 0 0]) agt65 sz65 rfl f389 H404 rfl) (rv_tmp rfl rfl)) ⟨_, rfl, ?_⟩
               have hno : ¬ (formD L ∧ (digD L).length ≤ 77) := (fun hh => not_formD hD (i := i) (by omega) (fun hd => by unfold isD at hd; omega) hh.1)
               exact ⟨_, _, _, _, 0, tu2 rfl (vf hno), E405, Num.zero, fun hh => absurd hh hno⟩
             · refine lw_vy (.string (bOf D)) (d := 56) rfl rfl (congrArg Value.bool (decide_eq_false hb401)) (dv_move (T rfl f390)) ?_
               refine lw_vy (.int .i64 ((i : Int))) (d := 56) rfl rfl (congrArg Value.bool (decide_eq_false hb401)) (dv_move (T rfl f393)) ?_
               have bg406 := okW.getD (okD hD hL) (by decide) i
               refine lw_vy (.int .u8 (D.getD i 0)) (d := 56) rfl rfl (congrArg Value.bool (decide_eq_false hb401)) (dv_indexS (L := D) (i := i) (j := (i : Int)) ut9 (T rfl rfl) (T rfl rfl) (okD hD hL) (by omega) (by first | omega | (simp; done) | (simp; omega))) ?_
               refine lw_vy (.bool (decide (57 < (D.getD i 0)))) (d := 56) rfl rfl (congrArg Value.bool (decide_eq_false hb401)) (dv_gtr (a := D.getD i 0) (b := 57) (T rfl rfl) C) ?_
               refine lw_v (.bool (decide (57 < (D.getD i 0)))) (dv_pick_f (T rfl (congrArg Value.bool (decide_eq_false hb401))) (T rfl rfl)) ?_
               refine lw_nil ?_
               by_cases hb407 : 57 < (D.getD i 0)
               · refine rk_ct (T rfl (congrArg Value.bool (decide_eq_true hb407))) ?_
                 refine rk_seq ?_
                 refine rk_reg ?_
                 refine lw_v (.agg #[.bool false, .slice none 0 0]) (dv_build (pv := []) (l := [.bool false, .slice none 0 0]) zc65 pl65 trivial rfl) ?_
                 refine lw_e (oe_store (v := .agg #[.bool false, .slice none 0 0]) (vs := [.bool false, .slice none 0 0]) (l := [.bool false, .slice none 0 0]) (T rfl f389) (T rfl rfl) sz65 rfl rfl rfl H395 rfl ?_)
                 intro w408 s409 H410
                 have E411 := below_st E394 N4 s409
                 refine lw_v (.bool false) (dv_assign C) ?_
                 refine lw_nil ?_
                 refine rk_ret Try.func58 (v := .tuple #[.agg #[.bool false, .slice none 0 0], .bool false]) (res2 Try.results58 (rv_cells (l := [.bool false, .slice none 0 0]) agt65 sz65 rfl f389 H410 rfl) (rv_tmp rfl rfl)) ⟨_, rfl, ?_⟩
                 have hno : ¬ (formD L ∧ (digD L).length ≤ 77) := (fun hh => not_formD hD (i := i) (by omega) (fun hd => by unfold isD at hd; omega) hh.1)
                 exact ⟨_, _, _, _, 0, tu2 rfl (vf hno), E411, Num.zero, fun hh => absurd hh hno⟩
               · refine rk_cf (T rfl (congrArg Value.bool (decide_eq_false hb407))) ?_
                 refine rk_skip ?_
                 refine rk_any (fun w => w.heap[b374]? = some (.cells #[.bool nz, .slice Az lz cz] 65)) [10] mo ?_
                 intro w412 d413
                 have E414 := below_ext E394 E394.size d413.ext
                 have H415 := (d413.ext.blk H396)
                 refine aw_load 0 (.agg #[.bool nz, .slice Az lz cz]) rfl (by kernel_rfl) .none H415 (fun _ s => dv_loads (l := [.bool nz, .slice Az lz cz]) agt65 sz65 (T rfl f392) s rfl) ?_
                 refine aw_pure 3 (.string (bOf D)) rfl (by kernel_rfl) .none H415 (fun _ => dv_move (T rfl f390)) ?_
                 refine aw_pure 4 (.int .i64 ((i : Int))) rfl (by kernel_rfl) .none H415 (fun _ => dv_move (T rfl f393)) ?_
                 have bg416 := okW.getD (okD hD hL) (by decide) i
                 refine aw_pure 5 (.int .u8 (D.getD i 0)) rfl (by kernel_rfl) .none H415 (fun _ => dv_indexS (L := D) (i := i) (j := (i : Int)) ut9 (T rfl rfl) (T rfl rfl) (okD hD hL) (by omega) (by first | omega | (simp; done) | (simp; omega))) ?_
                 refine aw_pure 6 (.int .u8 ((D.getD i 0) - 48)) rfl (by kernel_rfl) .none H415 (fun _ => dv_sub (a := D.getD i 0) (b := 48) (z := (D.getD i 0) - 48) (T rfl rfl) C (wn_u8 (by omega) (by omega))) ?_
                 refine aw_pure 7 (.int .i64 ((D.getD i 0) - 48)) rfl (by kernel_rfl) .none H415 (fun _ => dv_conv (a := (D.getD i 0) - 48) (z := (D.getD i 0) - 48) ui5 ui2 (T rfl rfl) (wr_i64 (by omega) (by omega))) ?_
                 refine aw_one 1 rfl (by kernel_rfl) .none (oe_callf (vs := [.int .i64 10]) co79 (ar1 C) (l1Int_ok  (by omega)) ?_)
                 rintro _ w422 ⟨nr417, A418, n419, c420, rfl, e423, h421⟩
                 have E424 := below_ext E414 E414.size e423
                 have lh421 := Num.len (by decide) h421
                 have H425 := (e423.blk H415)
                 refine ⟨.inr H425, ?_⟩
                 have h426 := ((h397.ext d413.ext).ext e423)
                 refine aw_one 2 rfl (by kernel_rfl) .none (oe_callf (vs := [.agg #[.bool nz, .slice Az lz cz], .agg #[.bool nr417, .slice A418 n419 c420]]) co78 (ar2 (T rfl rfl) (T rfl rfl)) (l1Mul_ok h426 h421 (by first | decide | omega) (by first | decide | omega)) ?_)
                 rintro _ w432 ⟨nr427, A428, n429, c430, rfl, e433, h431⟩
                 have E434 := below_ext E424 E424.size e433
                 have lh431 := Num.len (by decide) h431
                 have H435 := (e433.blk H425)
                 refine ⟨.inr H435, ?_⟩
                 refine aw_one 8 rfl (by kernel_rfl) .none (oe_callf (vs := [.int .i64 ((D.getD i 0) - 48)]) co79 (ar1 (T rfl rfl)) (l1Int_ok  (by omega)) ?_)
                 rintro _ w441 ⟨nr436, A437, n438, c439, rfl, e442, h440⟩
                 have E443 := below_ext E434 E434.size e442
                 have lh440 := Num.len (by decide) h440
                 have H444 := (e442.blk H435)
                 refine ⟨.inr H444, ?_⟩
                 have h445 := (h431.ext e442)
                 refine aw_one 9 rfl (by kernel_rfl) .none (oe_callf (vs := [.agg #[.bool nr427, .slice A428 n429 c430], .agg #[.bool nr436, .slice A437 n438 c439]]) co55 (ar2 (T rfl rfl) (T rfl rfl)) (l1Add_ok h445 h440 (by first | decide | omega) (by first | decide | omega)) ?_)
                 rintro _ w451 ⟨nr446, A447, n448, c449, rfl, e452, h450⟩
                 have E453 := below_ext E443 E443.size e452
                 have lh450 := Num.len (by decide) h450
                 have H454 := (e452.blk H444)
                 refine ⟨.inr H454, ?_⟩
                 refine aw_one 10 rfl (by kernel_rfl) .none (oe_store (v := .agg #[.bool nr446, .slice A447 n448 c449]) (vs := [.bool nr446, .slice A447 n448 c449]) (l := [.bool nr446, .slice A447 n448 c449]) (T rfl f392) (T rfl rfl) sz65 rfl rfl rfl H454 rfl ?_)
                 intro w455 s456 H457
                 have E458 := below_st E453 N377 s456
                 refine ⟨.inl rfl, ?_⟩
                 refine aw_done (by kernel_rfl) ?_
                 refine rk_inBlock ?_
                 refine rk_reg ?_
                 refine lw_v (.int .i64 ((i : Int))) (dv_move (T rfl f393)) ?_
                 refine lw_v (.int .i64 (((i : Int)) + 1)) (dv_add (a := (i : Int)) (b := 1) (z := ((i : Int)) + 1) (T rfl rfl) C (wr_i64 (by omega) (by omega))) ?_
                 refine lw_v (.int .i64 (((i : Int)) + 1)) (dv_assign (T rfl rfl)) ?_
                 refine lw_nil ?_
                 have h459 := (h450.st s456 H454 (by decide))
                 have hd460 : ∀ c ∈ D.take (i + 1), isD c := isD_take (by omega) hdg ⟨by omega, by omega⟩
                 have H461 := (s456.blk (e452.blk (e442.blk (e433.blk (e423.blk (d413.ext.blk H395))))) (by omega))
                 exact ih386 (D.length - ((i + 1))) _ _ (by rw [hd398]; omega) ⟨(i + 1), nr446, A447, n448, c449, rfl, f389, f390, f391, f392, (vi (by omega)), E458, H461, H457, (h459.tight (valD_take (by omega)).symm (valD_sz hd460 (by simp; omega))), (by omega), hd460⟩
           · refine rk_cf (T rfl (congrArg Value.bool (decide_eq_false hb399))) ?_
             refine rk_exit rfl ?_
             refine rk_seq ?_
             refine rk_seq ?_
             refine rk_reg ?_
             refine lw_v (.bool ng) (dv_move (T rfl f391)) ?_
             refine lw_nil ?_
             rcases Bool.eq_false_or_eq_true (ng) with hb462 | hb462
             · refine rk_ct (T rfl (congrArg Value.bool hb462)) ?_
               refine rk_reg ?_
               refine lw_v (.agg #[.bool nz, .slice Az lz cz]) (dv_loads (l := [.bool nz, .slice Az lz cz]) agt65 sz65 (T rfl f392) H396 rfl) ?_
               refine lw_e (oe_callf (vs := [.agg #[.bool nz, .slice Az lz cz]]) co96 (ar1 (T rfl rfl)) (l1Neg_ok h397 ) ?_)
               rintro _ w468 ⟨nr463, A464, n465, c466, rfl, e469, h467⟩
               have E470 := below_ext E394 E394.size e469
               have lh467 := Num.len (by decide) h467
               have H471 := (e469.blk H396)
               refine lw_e (oe_store (v := .agg #[.bool nr463, .slice A464 n465 c466]) (vs := [.bool nr463, .slice A464 n465 c466]) (l := [.bool nr463, .slice A464 n465 c466]) (T rfl f392) (T rfl rfl) sz65 rfl rfl rfl H471 rfl ?_)
               intro w472 s473 H474
               have E475 := below_st E470 N377 s473
               refine lw_nil ?_
               refine rk_seq ?_
               refine rk_reg ?_
               refine lw_v (.agg #[.bool nr463, .slice A464 n465 c466]) (dv_loads (l := [.bool nr463, .slice A464 n465 c466]) agt65 sz65 (T rfl f392) H474 rfl) ?_
               have H476 := (s473.blk (e469.blk H395) (by omega))
               refine lw_e (oe_store (v := .agg #[.bool nr463, .slice A464 n465 c466]) (vs := [.bool nr463, .slice A464 n465 c466]) (l := [.bool nr463, .slice A464 n465 c466]) (T rfl f389) (T rfl rfl) sz65 rfl rfl rfl H476 rfl ?_)
               intro w477 s478 H479
               have E480 := below_st E475 N4 s478
               refine lw_v (.bool true) (dv_assign C) ?_
               refine lw_nil ?_
               refine rk_ret Try.func58 (v := .tuple #[.agg #[.bool nr463, .slice A464 n465 c466], .bool true]) (res2 Try.results58 (rv_cells (l := [.bool nr463, .slice A464 n465 c466]) agt65 sz65 rfl f389 H479 rfl) (rv_tmp rfl rfl)) ⟨_, rfl, ?_⟩
               have h481 := ((h467.st s473 H471 (by decide)).st s478 H476 (by decide))
               have hz1 := numD_of2 (i := i) hD hng (by omega)
               have hz2 := (numD_of (i := i) hD hng (by omega) hdg).2
               have hbn : ng = true := by assumption
               have hzz : -(valD (D.take i)) = numD L := by rw [← hz1, hbn]; rfl
               exact ⟨_, _, _, _, _, tu2 rfl (vt ⟨(formD_iff hD hng).2 ⟨by omega, hz2, fun h48 => by first | (exfalso; omega) | (exact absurd h48 (by assumption)) | exact ⟨by assumption, by omega⟩⟩, by rw [hD]; omega⟩), E480, h481, fun _ => hzz⟩
             · refine rk_cf (T rfl (congrArg Value.bool hb462)) ?_
               refine rk_skip ?_
               refine rk_seq ?_
               refine rk_reg ?_
               refine lw_v (.agg #[.bool nz, .slice Az lz cz]) (dv_loads (l := [.bool nz, .slice Az lz cz]) agt65 sz65 (T rfl f392) H396 rfl) ?_
               refine lw_e (oe_store (v := .agg #[.bool nz, .slice Az lz cz]) (vs := [.bool nz, .slice Az lz cz]) (l := [.bool nz, .slice Az lz cz]) (T rfl f389) (T rfl rfl) sz65 rfl rfl rfl H395 rfl ?_)
               intro w482 s483 H484
               have E485 := below_st E394 N4 s483
               refine lw_v (.bool true) (dv_assign C) ?_
               refine lw_nil ?_
               refine rk_ret Try.func58 (v := .tuple #[.agg #[.bool nz, .slice Az lz cz], .bool true]) (res2 Try.results58 (rv_cells (l := [.bool nz, .slice Az lz cz]) agt65 sz65 rfl f389 H484 rfl) (rv_tmp rfl rfl)) ⟨_, rfl, ?_⟩
               have h486 := (h397.st s483 H395 (by decide))
               have hz1 := numD_of2 (i := i) hD hng (by omega)
               have hz2 := (numD_of (i := i) hD hng (by omega) hdg).2
               have hbn : ng = false := by assumption
               have hzz : valD (D.take i) = numD L := by rw [← hz1, hbn]; rfl
               exact ⟨_, _, _, _, _, tu2 rfl (vt ⟨(formD_iff hD hng).2 ⟨by omega, hz2, fun h48 => by first | (exfalso; omega) | (exact absurd h48 (by assumption)) | exact ⟨by assumption, by omega⟩⟩, by rw [hD]; omega⟩), E485, h486, fun _ => hzz⟩
   · refine rk_seq ?_
     refine rk_reg ?_
     refine lw_v (.bool false) (dv_move (T rfl rfl)) ?_
     refine lw_nil ?_
     refine rk_cf (T rfl rfl) ?_
     refine rk_skip ?_
     exact hj250 _ _ ⟨L, false, rfl, rfl, rfl, rfl, rfl, E5, n3.blk, (digD_f (getD0 (by assumption))).1, (digD_f (getD0 (by assumption))).2, (Nat.le_refl _)⟩
set_option maxHeartbeats 1000000 in
theorem iReadWide_ok {w : World} {L : List Int} (hL : okW 256 L) (hl : L.length ≤ 1048576) : Ct Try.prog 24 [.string (bOf L)] w fun v w1 => v = .tuple #[.agg #[.int .u64 (wv3 (rdZ L)), .int .u64 (wv2 (rdZ L)), .int .u64 (wv1 (rdZ L)), .int .u64 (wv0 (rdZ L))], .bool (decide (rdS L))] ∧ Ext w w1 := by
 refine ct_run (n := 18) Try.func24 rfl Try.ntmps24 rfl ?_
 have E0 : Below w.heap.size w w := Below.refl _ _
 refine rk_seq ?_
 refine rk_reg ?_
 refine lw_e (oe_alloc ze26 ?_)
 intro b1 w2 n3
 have N4 : w.heap.size ≤ b1 := n3.eq ▸ E0.size
 have E5 := below_ext E0 E0.size n3.ext
 refine lw_v (.bool false) (dv_assign C) ?_
 refine lw_nil ?_
 refine rk_seq ?_
 refine rk_reg ?_
 refine lw_v (.string (bOf L)) (dv_move (T rfl rfl)) ?_
 refine lw_e (oe_callf (vs := [.string (bOf L)]) co59 (ar1 (T rfl rfl)) (readNum_ok (S := 400) (hL) (by first | omega | (simp; done) | (simp; omega)) (by decide)) ?_)
 rintro _ w13 ⟨nr6, A7, n8, c9, zr10, rfl, e14, h11, hzr12⟩
 have E15 := below_ext E5 E5.size e14
 have lh11 := Num.len (by decide) h11
 refine lw_v (.tuple #[.agg #[.bool nr6, .slice A7 n8 c9], .bool (decide (canD L ∧ L.length ≤ 100))]) (dv_move (T rfl rfl)) ?_
 refine lw_v (.agg #[.bool nr6, .slice A7 n8 c9]) (dv_extract (vs := #[.agg #[.bool nr6, .slice A7 n8 c9], .bool (decide (canD L ∧ L.length ≤ 100))]) (T rfl rfl) rfl) ?_
 refine lw_v (.bool (decide (canD L ∧ L.length ≤ 100))) (dv_extract (vs := #[.agg #[.bool nr6, .slice A7 n8 c9], .bool (decide (canD L ∧ L.length ≤ 100))]) (T rfl rfl) rfl) ?_
 refine lw_e (oe_alloc ze59 ?_)
 intro b16 w17 n18
 have N19 : w.heap.size ≤ b16 := n18.eq ▸ E15.size
 have H20 := (e14.blk n3.blk)
 have : b1 < b16 := n18.eq ▸ lt_of_blk H20
 have E21 := below_ext E15 E15.size n18.ext
 refine lw_e (oe_store (v := .agg #[.bool nr6, .slice A7 n8 c9]) (vs := [.bool nr6, .slice A7 n8 c9]) (l := [.bool nr6, .slice A7 n8 c9]) (T rfl rfl) (T rfl rfl) sz59 rfl rfl rfl n18.blk rfl ?_)
 intro w22 s23 H24
 have E25 := below_st E21 N19 s23
 refine lw_v (.bool (decide (canD L ∧ L.length ≤ 100))) (dv_assign (T rfl rfl)) ?_
 refine lw_nil ?_
 refine rk_seq ?_
 refine rk_seq ?_
 refine rk_reg ?_
 refine lw_v (.bool (decide (canD L ∧ L.length ≤ 100))) (dv_move (T rfl rfl)) ?_
 refine lw_v (.bool (decide (¬ (canD L ∧ L.length ≤ 100)))) (dv_notd (p := canD L ∧ L.length ≤ 100) (T rfl rfl)) ?_
 refine lw_nil ?_
 by_cases hb26 : canD L ∧ L.length ≤ 100
 · refine rk_cf (T rfl (congrArg Value.bool (decide_eq_false (not_not_intro hb26)))) ?_
   refine rk_skip ?_
   refine rk_seq ?_
   refine rk_reg ?_
   refine lw_v (.agg #[.bool nr6, .slice A7 n8 c9]) (dv_loads (l := [.bool nr6, .slice A7 n8 c9]) agt59 sz59 (T rfl rfl) H24 rfl) ?_
   have h27 := ((h11.ext n18.ext).st s23 n18.blk (by decide))
   refine lw_e (oe_callf (vs := [.agg #[.bool nr6, .slice A7 n8 c9]]) co51 (ar1 (T rfl rfl)) (nwide_ok h27 (by first | decide | omega)) ?_)
   rintro _ w29 ⟨rfl, e30⟩
   have E31 := below_ext E25 E25.size e30
   have bw28 := w_rg (zr10)
   refine lw_v (.agg #[.int .u64 (wv3 zr10), .int .u64 (wv2 zr10), .int .u64 (wv1 zr10), .int .u64 (wv0 zr10)]) (dv_extract (vs := #[.agg #[.int .u64 (wv3 zr10), .int .u64 (wv2 zr10), .int .u64 (wv1 zr10), .int .u64 (wv0 zr10)], .bool (decide (fits zr10))]) (T rfl rfl) rfl) ?_
   refine lw_v (.bool (decide (fits zr10))) (dv_extract (vs := #[.agg #[.int .u64 (wv3 zr10), .int .u64 (wv2 zr10), .int .u64 (wv1 zr10), .int .u64 (wv0 zr10)], .bool (decide (fits zr10))]) (T rfl rfl) rfl) ?_
   have H32 := (e30.blk (s23.blk (n18.ext.blk H20) (by omega)))
   refine lw_e (oe_store (v := .agg #[.int .u64 (wv3 zr10), .int .u64 (wv2 zr10), .int .u64 (wv1 zr10), .int .u64 (wv0 zr10)]) (vs := [.int .u64 (wv3 zr10), .int .u64 (wv2 zr10), .int .u64 (wv1 zr10), .int .u64 (wv0 zr10)]) (l := [.int .u64 (wv3 zr10), .int .u64 (wv2 zr10), .int .u64 (wv1 zr10), .int .u64 (wv0 zr10)]) (T rfl rfl) (T rfl rfl) sz26 rfl rfl rfl H32 rfl ?_)
   intro w33 s34 H35
   have E36 := below_st E31 N4 s34
   refine lw_v (.bool (decide (fits zr10))) (dv_assign (T rfl rfl)) ?_
   refine lw_nil ?_
   refine rk_ret Try.func24 (v := .tuple #[.agg #[.int .u64 (wv3 zr10), .int .u64 (wv2 zr10), .int .u64 (wv1 zr10), .int .u64 (wv0 zr10)], .bool (decide (fits zr10))]) (res2 Try.results24 (rv_cells (l := [.int .u64 (wv3 zr10), .int .u64 (wv2 zr10), .int .u64 (wv1 zr10), .int .u64 (wv0 zr10)]) agt26 sz26 rfl rfl H35 rfl) (rv_tmp rfl rfl)) ⟨_, rfl, ?_⟩
   have hP := hzr12 (by assumption)
   have hi : fits zr10 ↔ rdS L := by rw [hP]; exact ⟨fun hh => rd_impl.1 ⟨by assumption, hh⟩, fun hh => hh.2⟩
   have hc : canD L := (by assumption : canD L ∧ L.length ≤ 100).1
   exact ⟨(tu2 (ag4 (vi (by rw [hP]; exact wq3 hc)) (vi (by rw [hP]; exact wq2 hc)) (vi (by rw [hP]; exact wq1 hc)) (vi (by rw [hP]; exact wq0 hc))) (vb hi)), E36⟩
 · refine rk_ct (T rfl (congrArg Value.bool (decide_eq_true hb26))) ?_
   refine rk_seq ?_
   refine rk_reg ?_
   refine lw_v (.agg #[.int .u64 0, .int .u64 0, .int .u64 0, .int .u64 0]) (dv_build (pv := []) (l := [.int .u64 0, .int .u64 0, .int .u64 0, .int .u64 0]) zc26 pl26 trivial rfl) ?_
   have H37 := (s23.blk (n18.ext.blk H20) (by omega))
   refine lw_e (oe_store (v := .agg #[.int .u64 0, .int .u64 0, .int .u64 0, .int .u64 0]) (vs := [.int .u64 0, .int .u64 0, .int .u64 0, .int .u64 0]) (l := [.int .u64 0, .int .u64 0, .int .u64 0, .int .u64 0]) (T rfl rfl) (T rfl rfl) sz26 rfl rfl rfl H37 rfl ?_)
   intro w38 s39 H40
   have E41 := below_st E25 N4 s39
   refine lw_v (.bool false) (dv_assign C) ?_
   refine lw_nil ?_
   refine rk_ret Try.func24 (v := .tuple #[.agg #[.int .u64 0, .int .u64 0, .int .u64 0, .int .u64 0], .bool false]) (res2 Try.results24 (rv_cells (l := [.int .u64 0, .int .u64 0, .int .u64 0, .int .u64 0]) agt26 sz26 rfl rfl H40 rfl) (rv_tmp rfl rfl)) ⟨_, rfl, ?_⟩
   have hS : ¬ rdS L := fun hh => absurd (rd_impl.2 hh).1 (by assumption)
   exact ⟨(tu2 (ag4 (vi (wf3 hS)) (vi (wf2 hS)) (vi (wf1 hS)) (vi (wf0 hS))) (vf hS)), E41⟩
set_option maxHeartbeats 1000000 in
theorem sReadWide_ok {w : World} {L : List Int} (hL : okW 256 L) (hl : L.length ≤ 1048576) : Ct Try.prog 23 [.string (bOf L)] w fun v w1 => v = .tuple #[.agg #[.int .u64 (wv3 (rdZ L)), .int .u64 (wv2 (rdZ L)), .int .u64 (wv1 (rdZ L)), .int .u64 (wv0 (rdZ L))], .bool (decide (rdS L))] ∧ Ext w w1 := by
 refine ct_run (n := 18) Try.func23 rfl Try.ntmps23 rfl ?_
 have E0 : Below w.heap.size w w := Below.refl _ _
 refine rk_seq ?_
 refine rk_reg ?_
 refine lw_e (oe_alloc ze26 ?_)
 intro b1 w2 n3
 have N4 : w.heap.size ≤ b1 := n3.eq ▸ E0.size
 have E5 := below_ext E0 E0.size n3.ext
 refine lw_v (.bool false) (dv_assign C) ?_
 refine lw_nil ?_
 refine rk_seq ?_
 refine rk_reg ?_
 refine lw_v (.string (bOf L)) (dv_move (T rfl rfl)) ?_
 refine lw_e (oe_callf (vs := [.string (bOf L), .int .i64 77]) co58 (ar2 (T rfl rfl) C) (l1Read_ok (S := 400) (hL) (by first | omega | (simp; done) | (simp; omega)) (by decide)) ?_)
 rintro _ w13 ⟨nr6, A7, n8, c9, zr10, rfl, e14, h11, hzr12⟩
 have E15 := below_ext E5 E5.size e14
 have lh11 := Num.len (by decide) h11
 refine lw_v (.tuple #[.agg #[.bool nr6, .slice A7 n8 c9], .bool (decide (formD L ∧ (digD L).length ≤ 77))]) (dv_move (T rfl rfl)) ?_
 refine lw_v (.agg #[.bool nr6, .slice A7 n8 c9]) (dv_extract (vs := #[.agg #[.bool nr6, .slice A7 n8 c9], .bool (decide (formD L ∧ (digD L).length ≤ 77))]) (T rfl rfl) rfl) ?_
 refine lw_v (.bool (decide (formD L ∧ (digD L).length ≤ 77))) (dv_extract (vs := #[.agg #[.bool nr6, .slice A7 n8 c9], .bool (decide (formD L ∧ (digD L).length ≤ 77))]) (T rfl rfl) rfl) ?_
 refine lw_e (oe_alloc ze65 ?_)
 intro b16 w17 n18
 have N19 : w.heap.size ≤ b16 := n18.eq ▸ E15.size
 have H20 := (e14.blk n3.blk)
 have : b1 < b16 := n18.eq ▸ lt_of_blk H20
 have E21 := below_ext E15 E15.size n18.ext
 refine lw_e (oe_store (v := .agg #[.bool nr6, .slice A7 n8 c9]) (vs := [.bool nr6, .slice A7 n8 c9]) (l := [.bool nr6, .slice A7 n8 c9]) (T rfl rfl) (T rfl rfl) sz65 rfl rfl rfl n18.blk rfl ?_)
 intro w22 s23 H24
 have E25 := below_st E21 N19 s23
 refine lw_v (.bool (decide (formD L ∧ (digD L).length ≤ 77))) (dv_assign (T rfl rfl)) ?_
 refine lw_nil ?_
 refine rk_seq ?_
 refine rk_seq ?_
 refine rk_reg ?_
 refine lw_v (.bool (decide (formD L ∧ (digD L).length ≤ 77))) (dv_move (T rfl rfl)) ?_
 refine lw_v (.bool (decide (¬ (formD L ∧ (digD L).length ≤ 77)))) (dv_notd (p := formD L ∧ (digD L).length ≤ 77) (T rfl rfl)) ?_
 refine lw_nil ?_
 by_cases hb26 : formD L ∧ (digD L).length ≤ 77
 · refine rk_cf (T rfl (congrArg Value.bool (decide_eq_false (not_not_intro hb26)))) ?_
   refine rk_skip ?_
   refine rk_seq ?_
   refine rk_reg ?_
   refine lw_v (.agg #[.bool nr6, .slice A7 n8 c9]) (dv_loads (l := [.bool nr6, .slice A7 n8 c9]) agt65 sz65 (T rfl rfl) H24 rfl) ?_
   have h27 := ((h11.ext n18.ext).st s23 n18.blk (by decide))
   refine lw_e (oe_callf (vs := [.agg #[.bool nr6, .slice A7 n8 c9]]) co54 (ar1 (T rfl rfl)) (l1Wide_ok h27 (by first | decide | omega)) ?_)
   rintro _ w29 ⟨rfl, e30⟩
   have E31 := below_ext E25 E25.size e30
   have bw28 := w_rg (zr10)
   refine lw_v (.agg #[.int .u64 (wv3 zr10), .int .u64 (wv2 zr10), .int .u64 (wv1 zr10), .int .u64 (wv0 zr10)]) (dv_extract (vs := #[.agg #[.int .u64 (wv3 zr10), .int .u64 (wv2 zr10), .int .u64 (wv1 zr10), .int .u64 (wv0 zr10)], .bool (decide (fits zr10))]) (T rfl rfl) rfl) ?_
   refine lw_v (.bool (decide (fits zr10))) (dv_extract (vs := #[.agg #[.int .u64 (wv3 zr10), .int .u64 (wv2 zr10), .int .u64 (wv1 zr10), .int .u64 (wv0 zr10)], .bool (decide (fits zr10))]) (T rfl rfl) rfl) ?_
   have H32 := (e30.blk (s23.blk (n18.ext.blk H20) (by omega)))
   refine lw_e (oe_store (v := .agg #[.int .u64 (wv3 zr10), .int .u64 (wv2 zr10), .int .u64 (wv1 zr10), .int .u64 (wv0 zr10)]) (vs := [.int .u64 (wv3 zr10), .int .u64 (wv2 zr10), .int .u64 (wv1 zr10), .int .u64 (wv0 zr10)]) (l := [.int .u64 (wv3 zr10), .int .u64 (wv2 zr10), .int .u64 (wv1 zr10), .int .u64 (wv0 zr10)]) (T rfl rfl) (T rfl rfl) sz26 rfl rfl rfl H32 rfl ?_)
   intro w33 s34 H35
   have E36 := below_st E31 N4 s34
   refine lw_v (.bool (decide (fits zr10))) (dv_assign (T rfl rfl)) ?_
   refine lw_nil ?_
   refine rk_ret Try.func23 (v := .tuple #[.agg #[.int .u64 (wv3 zr10), .int .u64 (wv2 zr10), .int .u64 (wv1 zr10), .int .u64 (wv0 zr10)], .bool (decide (fits zr10))]) (res2 Try.results23 (rv_cells (l := [.int .u64 (wv3 zr10), .int .u64 (wv2 zr10), .int .u64 (wv1 zr10), .int .u64 (wv0 zr10)]) agt26 sz26 rfl rfl H35 rfl) (rv_tmp rfl rfl)) ⟨_, rfl, ?_⟩
   have hP := hzr12 (by assumption)
   have hi : fits zr10 ↔ rdS L := by rw [hP]; exact ⟨fun hh => rd_spec.1 ⟨by assumption, hh⟩, fun hh => hh.2⟩
   have hc : canD L := canD_of_form (by assumption : formD L ∧ (digD L).length ≤ 77).1
   exact ⟨(tu2 (ag4 (vi (by rw [hP]; exact wq3 hc)) (vi (by rw [hP]; exact wq2 hc)) (vi (by rw [hP]; exact wq1 hc)) (vi (by rw [hP]; exact wq0 hc))) (vb hi)), E36⟩
 · refine rk_ct (T rfl (congrArg Value.bool (decide_eq_true hb26))) ?_
   refine rk_seq ?_
   refine rk_reg ?_
   refine lw_v (.agg #[.int .u64 0, .int .u64 0, .int .u64 0, .int .u64 0]) (dv_build (pv := []) (l := [.int .u64 0, .int .u64 0, .int .u64 0, .int .u64 0]) zc26 pl26 trivial rfl) ?_
   have H37 := (s23.blk (n18.ext.blk H20) (by omega))
   refine lw_e (oe_store (v := .agg #[.int .u64 0, .int .u64 0, .int .u64 0, .int .u64 0]) (vs := [.int .u64 0, .int .u64 0, .int .u64 0, .int .u64 0]) (l := [.int .u64 0, .int .u64 0, .int .u64 0, .int .u64 0]) (T rfl rfl) (T rfl rfl) sz26 rfl rfl rfl H37 rfl ?_)
   intro w38 s39 H40
   have E41 := below_st E25 N4 s39
   refine lw_v (.bool false) (dv_assign C) ?_
   refine lw_nil ?_
   refine rk_ret Try.func23 (v := .tuple #[.agg #[.int .u64 0, .int .u64 0, .int .u64 0, .int .u64 0], .bool false]) (res2 Try.results23 (rv_cells (l := [.int .u64 0, .int .u64 0, .int .u64 0, .int .u64 0]) agt26 sz26 rfl rfl H40 rfl) (rv_tmp rfl rfl)) ⟨_, rfl, ?_⟩
   have hS : ¬ rdS L := fun hh => absurd (rd_spec.2 hh).1 (by assumption)
   exact ⟨(tu2 (ag4 (vi (wf3 hS)) (vi (wf2 hS)) (vi (wf1 hS)) (vi (wf0 hS))) (vf hS)), E41⟩
end Go.Proofs.Ytfmkadgjoechnaa.W
set_option linter.unusedVariables false
set_option linter.unusedSimpArgs false
namespace Go.Proofs.Ytfmkadgjoechnaa.W
open Go Go.RowKit Go.Proofs.Ytfmkadgjoechnaa.Fw
attribute [local irreducible] RunK LW AW DV OE Ct
theorem agt126 : aggB Try.prog 126 = some true := by kernel_rfl
theorem agt135 : aggB Try.prog 135 = some true := by kernel_rfl
theorem agt49 : aggB Try.prog 49 = some true := by kernel_rfl
theorem co107 : callOk Try.prog 107 = true := by kernel_rfl
theorem co108 : callOk Try.prog 108 = true := by kernel_rfl
theorem co109 : callOk Try.prog 109 = true := by kernel_rfl
theorem co116 : callOk Try.prog 116 = true := by kernel_rfl
theorem co117 : callOk Try.prog 117 = true := by kernel_rfl
theorem co22 : callOk Try.prog 22 = true := by kernel_rfl
theorem co23 : callOk Try.prog 23 = true := by kernel_rfl
theorem co24 : callOk Try.prog 24 = true := by kernel_rfl
theorem co25 : callOk Try.prog 25 = true := by kernel_rfl
theorem co31 : callOk Try.prog 31 = true := by kernel_rfl
theorem co47 : callOk Try.prog 47 = true := by kernel_rfl
theorem co48 : callOk Try.prog 48 = true := by kernel_rfl
theorem co67 : callOk Try.prog 67 = true := by kernel_rfl
theorem co71 : callOk Try.prog 71 = true := by kernel_rfl
theorem fo126_0 : fieldOffB Try.prog 126 0 = some 0 := by kernel_rfl
theorem fo126_1 : fieldOffB Try.prog 126 1 = some 2 := by kernel_rfl
theorem fo126_2 : fieldOffB Try.prog 126 2 = some 4 := by kernel_rfl
theorem fo135_0 : fieldOffB Try.prog 135 0 = some 0 := by kernel_rfl
theorem fo135_1 : fieldOffB Try.prog 135 1 = some 2 := by kernel_rfl
theorem fo135_2 : fieldOffB Try.prog 135 2 = some 4 := by kernel_rfl
theorem fo49_0 : fieldOffB Try.prog 49 0 = some 0 := by kernel_rfl
theorem fo49_1 : fieldOffB Try.prog 49 1 = some 4 := by kernel_rfl
theorem fo49_2 : fieldOffB Try.prog 49 2 = some 8 := by kernel_rfl
theorem pl126 : placesB Try.prog 126 = some [(0, 2), (2, 2), (4, 2)] := by kernel_rfl
theorem pl135 : placesB Try.prog 135 = some [(0, 2), (2, 2), (4, 2)] := by kernel_rfl
theorem sz126 : sizeB Try.prog 126 = some 6 := by kernel_rfl
theorem sz135 : sizeB Try.prog 135 = some 6 := by kernel_rfl
theorem sz49 : sizeB Try.prog 49 = some 12 := by kernel_rfl
theorem zc126 : zcB Try.prog 126 = some [.bool false, .slice none 0 0, .bool false, .slice none 0 0, .bool false, .slice none 0 0] := by kernel_rfl
theorem zc135 : zcB Try.prog 135 = some [.bool false, .slice none 0 0, .bool false, .slice none 0 0, .bool false, .slice none 0 0] := by kernel_rfl
theorem ze126 : zeroB Try.prog 126 = some #[.bool false, .slice none 0 0, .bool false, .slice none 0 0, .bool false, .slice none 0 0] := by kernel_rfl
theorem ze135 : zeroB Try.prog 135 = some #[.bool false, .slice none 0 0, .bool false, .slice none 0 0, .bool false, .slice none 0 0] := by kernel_rfl
set_option maxHeartbeats 1000000 in
theorem l3Small_ok {w : World}  {na : Bool} {Aa : Option Addr} {la ca : Nat} {x : Int} {sx : Nat} (ha : Num 32 95 .u32 w na Aa la ca x sx) {nb : Bool} {Ab : Option Addr} {lb cb : Nat} {y : Int} {sy : Nat} (hb : Num 32 95 .u32 w nb Ab lb cb y sy) {nm : Bool} {Am : Option Addr} {lm cm : Nat} {u : Int} {su : Nat} (hm : Num 32 95 .u32 w nm Am lm cm u su) (hbsx : sx ≤ 100000) (hbsy : sy ≤ 100000) (hbsu : su ≤ 100000)  : Ct Try.prog 116 [.agg #[.bool na, .slice Aa la ca, .bool nb, .slice Ab lb cb, .bool nm, .slice Am lm cm]] w fun v w1 => v = .bool (decide (sm3 x y u)) ∧ Ext w w1 := by
 refine ct_run (n := 22) Try.func116 rfl Try.ntmps116 rfl ?_
 have E0 : Below w.heap.size w w := Below.refl _ _
 have lha := Num.len (by decide) ha
 have lhb := Num.len (by decide) hb
 have lhm := Num.len (by decide) hm
 refine rk_seq ?_
 refine rk_reg ?_
 refine lw_e (oe_box (v := .agg #[.bool na, .slice Aa la ca, .bool nb, .slice Ab lb cb, .bool nm, .slice Am lm cm]) (cs := #[.bool na, .slice Aa la ca, .bool nb, .slice Ab lb cb, .bool nm, .slice Am lm cm]) (T rfl rfl) rfl ?_)
 intro b1 w2 n3
 have N4 : w.heap.size ≤ b1 := n3.eq ▸ E0.size
 have E5 := below_ext E0 E0.size n3.ext
 refine lw_v (.bool false) (dv_assign C) ?_
 refine lw_nil ?_
 refine rk_seq ?_
 refine rk_reg ?_
 refine lw_v (.pointer (some ⟨b1, 0, none⟩)) (dv_fieldAddr (a := ⟨b1, 0, none⟩) (a' := ⟨b1, 0, none⟩) fo126_0 (T rfl rfl) rfl) ?_
 refine lw_v (.pointer (some ⟨b1, 1, none⟩)) (dv_fieldAddr (a := ⟨b1, 0, none⟩) (a' := ⟨b1, 1, none⟩) fo65_1 (T rfl rfl) rfl) ?_
 refine lw_v (.slice Aa la ca) (dv_load1 (b := b1) (o := 1) agt63 (T rfl rfl) n3.blk rfl) ?_
 have h6 := (ha.ext n3.ext)
 refine lw_e (oe_callf (vs := [.slice Aa la ca]) co92 (ar1 (T rfl rfl)) (l1Bits_wc h6.wc (by first | omega | (simp; done) | (simp; omega))) ?_)
 rintro _ w7 ⟨rfl, e8⟩
 have E9 := below_ext E5 E5.size e8
 refine lw_v (.bool (decide (((nbits ((x.natAbs : Int)).toNat : Int)) ≤ 80))) (dv_leq (a := (nbits ((x.natAbs : Int)).toNat : Int)) (b := 80) (T rfl rfl) C) ?_
 refine lw_v (.bool (decide (((nbits ((x.natAbs : Int)).toNat : Int)) ≤ 80))) (dv_move (T rfl rfl)) ?_
 by_cases hb10 : ((nbits ((x.natAbs : Int)).toNat : Int)) ≤ 80
 · refine lw_vy (.pointer (some ⟨b1, 2, none⟩)) (d := 8) rfl rfl (congrArg Value.bool (decide_eq_true hb10)) (dv_fieldAddr (a := ⟨b1, 0, none⟩) (a' := ⟨b1, 2, none⟩) fo126_1 (T rfl rfl) rfl) ?_
   refine lw_vy (.pointer (some ⟨b1, 3, none⟩)) (d := 8) rfl rfl (congrArg Value.bool (decide_eq_true hb10)) (dv_fieldAddr (a := ⟨b1, 2, none⟩) (a' := ⟨b1, 3, none⟩) fo65_1 (T rfl rfl) rfl) ?_
   have H11 := (e8.blk n3.blk)
   refine lw_vy (.slice Ab lb cb) (d := 8) rfl rfl (congrArg Value.bool (decide_eq_true hb10)) (dv_load1 (b := b1) (o := 3) agt63 (T rfl rfl) H11 rfl) ?_
   have h12 := ((hb.ext n3.ext).ext e8)
   refine lw_ey (d := 8) rfl rfl (congrArg Value.bool (decide_eq_true hb10)) (oe_callf (vs := [.slice Ab lb cb]) co92 (ar1 (T rfl rfl)) (l1Bits_wc h12.wc (by first | omega | (simp; done) | (simp; omega))) ?_)
   rintro _ w13 ⟨rfl, e14⟩
   have E15 := below_ext E9 E9.size e14
   refine lw_vy (.bool (decide (((nbits ((y.natAbs : Int)).toNat : Int)) ≤ 80))) (d := 8) rfl rfl (congrArg Value.bool (decide_eq_true hb10)) (dv_leq (a := (nbits ((y.natAbs : Int)).toNat : Int)) (b := 80) (T rfl rfl) C) ?_
   refine lw_v (.bool (decide (((nbits ((y.natAbs : Int)).toNat : Int)) ≤ 80))) (dv_pick_t (T rfl (congrArg Value.bool (decide_eq_true hb10))) (T rfl rfl)) ?_
   refine lw_v (.bool (decide (((nbits ((y.natAbs : Int)).toNat : Int)) ≤ 80))) (dv_move (T rfl rfl)) ?_
   by_cases hb16 : ((nbits ((y.natAbs : Int)).toNat : Int)) ≤ 80
   · refine lw_vy (.pointer (some ⟨b1, 4, none⟩)) (d := 15) rfl rfl (congrArg Value.bool (decide_eq_true hb16)) (dv_fieldAddr (a := ⟨b1, 0, none⟩) (a' := ⟨b1, 4, none⟩) fo126_2 (T rfl rfl) rfl) ?_
     refine lw_vy (.pointer (some ⟨b1, 5, none⟩)) (d := 15) rfl rfl (congrArg Value.bool (decide_eq_true hb16)) (dv_fieldAddr (a := ⟨b1, 4, none⟩) (a' := ⟨b1, 5, none⟩) fo65_1 (T rfl rfl) rfl) ?_
     have H17 := (e14.blk H11)
     refine lw_vy (.slice Am lm cm) (d := 15) rfl rfl (congrArg Value.bool (decide_eq_true hb16)) (dv_load1 (b := b1) (o := 5) agt63 (T rfl rfl) H17 rfl) ?_
     have h18 := (((hm.ext n3.ext).ext e8).ext e14)
     refine lw_ey (d := 15) rfl rfl (congrArg Value.bool (decide_eq_true hb16)) (oe_callf (vs := [.slice Am lm cm]) co92 (ar1 (T rfl rfl)) (l1Bits_wc h18.wc (by first | omega | (simp; done) | (simp; omega))) ?_)
     rintro _ w19 ⟨rfl, e20⟩
     have E21 := below_ext E15 E15.size e20
     refine lw_vy (.bool (decide (((nbits ((u.natAbs : Int)).toNat : Int)) ≤ 80))) (d := 15) rfl rfl (congrArg Value.bool (decide_eq_true hb16)) (dv_leq (a := (nbits ((u.natAbs : Int)).toNat : Int)) (b := 80) (T rfl rfl) C) ?_
     refine lw_v (.bool (decide (((nbits ((u.natAbs : Int)).toNat : Int)) ≤ 80))) (dv_pick_t (T rfl (congrArg Value.bool (decide_eq_true hb16))) (T rfl rfl)) ?_
     refine lw_v (.bool (decide (((nbits ((u.natAbs : Int)).toNat : Int)) ≤ 80))) (dv_assign (T rfl rfl)) ?_
     refine lw_nil ?_
     refine rk_ret Try.func116 (v := .bool (decide (((nbits ((u.natAbs : Int)).toNat : Int)) ≤ 80))) (res1 Try.results116 (rv_tmp rfl rfl)) ⟨_, rfl, ?_⟩
     exact ⟨(vb (by unfold sm3; omega)), E21⟩
   · refine lw_no (d := 15) rfl rfl (congrArg Value.bool (decide_eq_false hb16)) ?_
     refine lw_no (d := 15) rfl rfl (congrArg Value.bool (decide_eq_false hb16)) ?_
     refine lw_no (d := 15) rfl rfl (congrArg Value.bool (decide_eq_false hb16)) ?_
     refine lw_no (d := 15) rfl rfl (congrArg Value.bool (decide_eq_false hb16)) ?_
     refine lw_no (d := 15) rfl rfl (congrArg Value.bool (decide_eq_false hb16)) ?_
     refine lw_v (.bool false) (dv_pick_f (T rfl (congrArg Value.bool (decide_eq_false hb16))) C) ?_
     refine lw_v (.bool false) (dv_assign (T rfl rfl)) ?_
     refine lw_nil ?_
     refine rk_ret Try.func116 (v := .bool false) (res1 Try.results116 (rv_tmp rfl rfl)) ⟨_, rfl, ?_⟩
     exact ⟨(vf (by unfold sm3; omega)), E15⟩
 · refine lw_no (d := 8) rfl rfl (congrArg Value.bool (decide_eq_false hb10)) ?_
   refine lw_no (d := 8) rfl rfl (congrArg Value.bool (decide_eq_false hb10)) ?_
   refine lw_no (d := 8) rfl rfl (congrArg Value.bool (decide_eq_false hb10)) ?_
   refine lw_no (d := 8) rfl rfl (congrArg Value.bool (decide_eq_false hb10)) ?_
   refine lw_no (d := 8) rfl rfl (congrArg Value.bool (decide_eq_false hb10)) ?_
   refine lw_v (.bool false) (dv_pick_f (T rfl (congrArg Value.bool (decide_eq_false hb10))) C) ?_
   refine lw_v (.bool false) (dv_move (T rfl rfl)) ?_
   refine lw_no (d := 15) rfl rfl (rfl) ?_
   refine lw_no (d := 15) rfl rfl (rfl) ?_
   refine lw_no (d := 15) rfl rfl (rfl) ?_
   refine lw_no (d := 15) rfl rfl (rfl) ?_
   refine lw_no (d := 15) rfl rfl (rfl) ?_
   refine lw_v (.bool false) (dv_pick_f (T rfl rfl) C) ?_
   refine lw_v (.bool false) (dv_assign (T rfl rfl)) ?_
   refine lw_nil ?_
   refine rk_ret Try.func116 (v := .bool false) (res1 Try.results116 (rv_tmp rfl rfl)) ⟨_, rfl, ?_⟩
   exact ⟨(vf (by unfold sm3; omega)), E9⟩
set_option maxHeartbeats 1000000 in
theorem spot_ok {w : World}  {x y u : Int} (fx_ : fits x) (fy_ : fits y) (fu_ : fits u)   : Ct Try.prog 117 [.agg #[.int .u64 (wv3 x), .int .u64 (wv2 x), .int .u64 (wv1 x), .int .u64 (wv0 x), .int .u64 (wv3 y), .int .u64 (wv2 y), .int .u64 (wv1 y), .int .u64 (wv0 y), .int .u64 (wv3 u), .int .u64 (wv2 u), .int .u64 (wv1 u), .int .u64 (wv0 u)]] w fun v w1 => ∃ nr0_ A0_ l0_ c0_ nr1_ A1_ l1_ c1_ nr2_ A2_ l2_ c2_, v = .agg #[.bool nr0_, .slice A0_ l0_ c0_, .bool nr1_, .slice A1_ l1_ c1_, .bool nr2_, .slice A2_ l2_ c2_] ∧ Ext w w1 ∧ Num 64 24 .u64 w1 nr0_ A0_ l0_ c0_ (x) (256) ∧ Num 64 24 .u64 w1 nr1_ A1_ l1_ c1_ (y) (256) ∧ Num 64 24 .u64 w1 nr2_ A2_ l2_ c2_ (u) (256) := by
 refine ct_run (n := 13) Try.func117 rfl Try.ntmps117 rfl ?_
 have E0 : Below w.heap.size w w := Below.refl _ _
 refine rk_seq ?_
 refine rk_reg ?_
 refine lw_e (oe_box (v := .agg #[.int .u64 (wv3 x), .int .u64 (wv2 x), .int .u64 (wv1 x), .int .u64 (wv0 x), .int .u64 (wv3 y), .int .u64 (wv2 y), .int .u64 (wv1 y), .int .u64 (wv0 y), .int .u64 (wv3 u), .int .u64 (wv2 u), .int .u64 (wv1 u), .int .u64 (wv0 u)]) (cs := #[.int .u64 (wv3 x), .int .u64 (wv2 x), .int .u64 (wv1 x), .int .u64 (wv0 x), .int .u64 (wv3 y), .int .u64 (wv2 y), .int .u64 (wv1 y), .int .u64 (wv0 y), .int .u64 (wv3 u), .int .u64 (wv2 u), .int .u64 (wv1 u), .int .u64 (wv0 u)]) (T rfl rfl) rfl ?_)
 intro b1 w2 n3
 have N4 : w.heap.size ≤ b1 := n3.eq ▸ E0.size
 have E5 := below_ext E0 E0.size n3.ext
 refine lw_e (oe_alloc ze135 ?_)
 intro b6 w7 n8
 have N9 : w.heap.size ≤ b6 := n8.eq ▸ E5.size
 have : b1 < b6 := n8.eq ▸ lt_of_blk n3.blk
 have E10 := below_ext E5 E5.size n8.ext
 refine lw_nil ?_
 refine rk_seq ?_
 refine rk_any (fun w => w.heap[b1]? = some (.cells #[.int .u64 (wv3 x), .int .u64 (wv2 x), .int .u64 (wv1 x), .int .u64 (wv0 x), .int .u64 (wv3 y), .int .u64 (wv2 y), .int .u64 (wv1 y), .int .u64 (wv0 y), .int .u64 (wv3 u), .int .u64 (wv2 u), .int .u64 (wv1 u), .int .u64 (wv0 u)] 49)) [10] mo ?_
 intro w11 d12
 have E13 := below_ext E10 E10.size d12.ext
 have H14 := (d12.ext.blk (n8.ext.blk n3.blk))
 refine aw_pure 0 (.pointer (some ⟨b1, 0, none⟩)) rfl (by kernel_rfl) .none H14 (fun _ => dv_fieldAddr (a := ⟨b1, 0, none⟩) (a' := ⟨b1, 0, none⟩) fo49_0 (T rfl rfl) rfl) ?_
 refine aw_load 1 (.agg #[.int .u64 (wv3 x), .int .u64 (wv2 x), .int .u64 (wv1 x), .int .u64 (wv0 x)]) rfl (by kernel_rfl) .none H14 (fun _ s => dv_loads (l := [.int .u64 (wv3 x), .int .u64 (wv2 x), .int .u64 (wv1 x), .int .u64 (wv0 x)]) agt26 sz26 (T rfl rfl) s rfl) ?_
 refine aw_pure 3 (.pointer (some ⟨b1, 4, none⟩)) rfl (by kernel_rfl) .none H14 (fun _ => dv_fieldAddr (a := ⟨b1, 0, none⟩) (a' := ⟨b1, 4, none⟩) fo49_1 (T rfl rfl) rfl) ?_
 refine aw_load 4 (.agg #[.int .u64 (wv3 y), .int .u64 (wv2 y), .int .u64 (wv1 y), .int .u64 (wv0 y)]) rfl (by kernel_rfl) .none H14 (fun _ s => dv_loads (l := [.int .u64 (wv3 y), .int .u64 (wv2 y), .int .u64 (wv1 y), .int .u64 (wv0 y)]) agt26 sz26 (T rfl rfl) s rfl) ?_
 refine aw_pure 6 (.pointer (some ⟨b1, 8, none⟩)) rfl (by kernel_rfl) .none H14 (fun _ => dv_fieldAddr (a := ⟨b1, 0, none⟩) (a' := ⟨b1, 8, none⟩) fo49_2 (T rfl rfl) rfl) ?_
 refine aw_load 7 (.agg #[.int .u64 (wv3 u), .int .u64 (wv2 u), .int .u64 (wv1 u), .int .u64 (wv0 u)]) rfl (by kernel_rfl) .none H14 (fun _ s => dv_loads (l := [.int .u64 (wv3 u), .int .u64 (wv2 u), .int .u64 (wv1 u), .int .u64 (wv0 u)]) agt26 sz26 (T rfl rfl) s rfl) ?_
 refine aw_one 2 rfl (by kernel_rfl) .none (oe_callf (vs := [.agg #[.int .u64 (wv3 x), .int .u64 (wv2 x), .int .u64 (wv1 x), .int .u64 (wv0 x)]]) co46 (ar1 (T rfl rfl)) (wnumz_ok (z := x) fx_) ?_)
 rintro _ w20 ⟨nr15, A16, n17, c18, rfl, e21, h19⟩
 have E22 := below_ext E13 E13.size e21
 have lh19 := Num.len (by decide) h19
 have H23 := (e21.blk H14)
 refine ⟨.inr H23, ?_⟩
 refine aw_one 5 rfl (by kernel_rfl) .none (oe_callf (vs := [.agg #[.int .u64 (wv3 y), .int .u64 (wv2 y), .int .u64 (wv1 y), .int .u64 (wv0 y)]]) co46 (ar1 (T rfl rfl)) (wnumz_ok (z := y) fy_) ?_)
 rintro _ w29 ⟨nr24, A25, n26, c27, rfl, e30, h28⟩
 have E31 := below_ext E22 E22.size e30
 have lh28 := Num.len (by decide) h28
 have H32 := (e30.blk H23)
 refine ⟨.inr H32, ?_⟩
 refine aw_one 8 rfl (by kernel_rfl) .none (oe_callf (vs := [.agg #[.int .u64 (wv3 u), .int .u64 (wv2 u), .int .u64 (wv1 u), .int .u64 (wv0 u)]]) co46 (ar1 (T rfl rfl)) (wnumz_ok (z := u) fu_) ?_)
 rintro _ w38 ⟨nr33, A34, n35, c36, rfl, e39, h37⟩
 have E40 := below_ext E31 E31.size e39
 have lh37 := Num.len (by decide) h37
 have H41 := (e39.blk H32)
 refine ⟨.inr H41, ?_⟩
 refine aw_pure 9 (.agg #[.bool nr15, .slice A16 n17 c18, .bool nr24, .slice A25 n26 c27, .bool nr33, .slice A34 n35 c36]) rfl (by kernel_rfl) .none H41 (fun _ => dv_build (pv := [(0, .agg #[.bool nr15, .slice A16 n17 c18]), (1, .agg #[.bool nr24, .slice A25 n26 c27]), (2, .agg #[.bool nr33, .slice A34 n35 c36])]) (l := [.bool nr15, .slice A16 n17 c18, .bool nr24, .slice A25 n26 c27, .bool nr33, .slice A34 n35 c36]) zc135 pl135 ⟨rfl, (T rfl rfl), ⟨rfl, (T rfl rfl), ⟨rfl, (T rfl rfl), trivial⟩⟩⟩ rfl) ?_
 have H42 := (e39.blk (e30.blk (e21.blk (d12.ext.blk n8.blk))))
 refine aw_one 10 rfl (by kernel_rfl) .none (oe_store (v := .agg #[.bool nr15, .slice A16 n17 c18, .bool nr24, .slice A25 n26 c27, .bool nr33, .slice A34 n35 c36]) (vs := [.bool nr15, .slice A16 n17 c18, .bool nr24, .slice A25 n26 c27, .bool nr33, .slice A34 n35 c36]) (l := [.bool nr15, .slice A16 n17 c18, .bool nr24, .slice A25 n26 c27, .bool nr33, .slice A34 n35 c36]) (T rfl rfl) (T rfl rfl) sz135 rfl rfl rfl H42 rfl ?_)
 intro w43 s44 H45
 have E46 := below_st E40 N9 s44
 refine ⟨.inl rfl, ?_⟩
 refine aw_done (by kernel_rfl) ?_
 refine rk_ret Try.func117 (v := .agg #[.bool nr15, .slice A16 n17 c18, .bool nr24, .slice A25 n26 c27, .bool nr33, .slice A34 n35 c36]) (res1 Try.results117 (rv_cells (l := [.bool nr15, .slice A16 n17 c18, .bool nr24, .slice A25 n26 c27, .bool nr33, .slice A34 n35 c36]) agt135 sz135 rfl rfl H45 rfl)) ⟨_, rfl, ?_⟩
 have h47 := (((h19.ext e30).ext e39).st s44 H42 (by decide))
 have h48 := ((h28.ext e39).st s44 H42 (by decide))
 have h49 := (h37.st s44 H42 (by decide))
 exact ⟨_, _, _, _, _, _, _, _, _, _, _, _, rfl, E46, h47.to rfl (Nat.le_refl _), h48.to rfl (Nat.le_refl _), h49.to rfl (Nat.le_refl _)⟩
set_option maxHeartbeats 1000000 in
theorem l3Of_ok {w : World}  {x y u : Int} (fx_ : fits x) (fy_ : fits y) (fu_ : fits u)   : Ct Try.prog 108 [.agg #[.int .u64 (wv3 x), .int .u64 (wv2 x), .int .u64 (wv1 x), .int .u64 (wv0 x), .int .u64 (wv3 y), .int .u64 (wv2 y), .int .u64 (wv1 y), .int .u64 (wv0 y), .int .u64 (wv3 u), .int .u64 (wv2 u), .int .u64 (wv1 u), .int .u64 (wv0 u)]] w fun v w1 => ∃ nr0_ A0_ l0_ c0_ nr1_ A1_ l1_ c1_ nr2_ A2_ l2_ c2_, v = .agg #[.bool nr0_, .slice A0_ l0_ c0_, .bool nr1_, .slice A1_ l1_ c1_, .bool nr2_, .slice A2_ l2_ c2_] ∧ Ext w w1 ∧ Num 32 95 .u32 w1 nr0_ A0_ l0_ c0_ (x) (256) ∧ Num 32 95 .u32 w1 nr1_ A1_ l1_ c1_ (y) (256) ∧ Num 32 95 .u32 w1 nr2_ A2_ l2_ c2_ (u) (256) := by
 refine ct_run (n := 13) Try.func108 rfl Try.ntmps108 rfl ?_
 have E0 : Below w.heap.size w w := Below.refl _ _
 refine rk_seq ?_
 refine rk_reg ?_
 refine lw_e (oe_box (v := .agg #[.int .u64 (wv3 x), .int .u64 (wv2 x), .int .u64 (wv1 x), .int .u64 (wv0 x), .int .u64 (wv3 y), .int .u64 (wv2 y), .int .u64 (wv1 y), .int .u64 (wv0 y), .int .u64 (wv3 u), .int .u64 (wv2 u), .int .u64 (wv1 u), .int .u64 (wv0 u)]) (cs := #[.int .u64 (wv3 x), .int .u64 (wv2 x), .int .u64 (wv1 x), .int .u64 (wv0 x), .int .u64 (wv3 y), .int .u64 (wv2 y), .int .u64 (wv1 y), .int .u64 (wv0 y), .int .u64 (wv3 u), .int .u64 (wv2 u), .int .u64 (wv1 u), .int .u64 (wv0 u)]) (T rfl rfl) rfl ?_)
 intro b1 w2 n3
 have N4 : w.heap.size ≤ b1 := n3.eq ▸ E0.size
 have E5 := below_ext E0 E0.size n3.ext
 refine lw_e (oe_alloc ze126 ?_)
 intro b6 w7 n8
 have N9 : w.heap.size ≤ b6 := n8.eq ▸ E5.size
 have : b1 < b6 := n8.eq ▸ lt_of_blk n3.blk
 have E10 := below_ext E5 E5.size n8.ext
 refine lw_nil ?_
 refine rk_seq ?_
 refine rk_any (fun w => w.heap[b1]? = some (.cells #[.int .u64 (wv3 x), .int .u64 (wv2 x), .int .u64 (wv1 x), .int .u64 (wv0 x), .int .u64 (wv3 y), .int .u64 (wv2 y), .int .u64 (wv1 y), .int .u64 (wv0 y), .int .u64 (wv3 u), .int .u64 (wv2 u), .int .u64 (wv1 u), .int .u64 (wv0 u)] 49)) [10] mo ?_
 intro w11 d12
 have E13 := below_ext E10 E10.size d12.ext
 have H14 := (d12.ext.blk (n8.ext.blk n3.blk))
 refine aw_pure 0 (.pointer (some ⟨b1, 0, none⟩)) rfl (by kernel_rfl) .none H14 (fun _ => dv_fieldAddr (a := ⟨b1, 0, none⟩) (a' := ⟨b1, 0, none⟩) fo49_0 (T rfl rfl) rfl) ?_
 refine aw_load 1 (.agg #[.int .u64 (wv3 x), .int .u64 (wv2 x), .int .u64 (wv1 x), .int .u64 (wv0 x)]) rfl (by kernel_rfl) .none H14 (fun _ s => dv_loads (l := [.int .u64 (wv3 x), .int .u64 (wv2 x), .int .u64 (wv1 x), .int .u64 (wv0 x)]) agt26 sz26 (T rfl rfl) s rfl) ?_
 refine aw_pure 3 (.pointer (some ⟨b1, 4, none⟩)) rfl (by kernel_rfl) .none H14 (fun _ => dv_fieldAddr (a := ⟨b1, 0, none⟩) (a' := ⟨b1, 4, none⟩) fo49_1 (T rfl rfl) rfl) ?_
 refine aw_load 4 (.agg #[.int .u64 (wv3 y), .int .u64 (wv2 y), .int .u64 (wv1 y), .int .u64 (wv0 y)]) rfl (by kernel_rfl) .none H14 (fun _ s => dv_loads (l := [.int .u64 (wv3 y), .int .u64 (wv2 y), .int .u64 (wv1 y), .int .u64 (wv0 y)]) agt26 sz26 (T rfl rfl) s rfl) ?_
 refine aw_pure 6 (.pointer (some ⟨b1, 8, none⟩)) rfl (by kernel_rfl) .none H14 (fun _ => dv_fieldAddr (a := ⟨b1, 0, none⟩) (a' := ⟨b1, 8, none⟩) fo49_2 (T rfl rfl) rfl) ?_
 refine aw_load 7 (.agg #[.int .u64 (wv3 u), .int .u64 (wv2 u), .int .u64 (wv1 u), .int .u64 (wv0 u)]) rfl (by kernel_rfl) .none H14 (fun _ s => dv_loads (l := [.int .u64 (wv3 u), .int .u64 (wv2 u), .int .u64 (wv1 u), .int .u64 (wv0 u)]) agt26 sz26 (T rfl rfl) s rfl) ?_
 refine aw_one 2 rfl (by kernel_rfl) .none (oe_callf (vs := [.agg #[.int .u64 (wv3 x), .int .u64 (wv2 x), .int .u64 (wv1 x), .int .u64 (wv0 x)]]) co49 (ar1 (T rfl rfl)) (l1Fromz_ok (z := x) fx_) ?_)
 rintro _ w20 ⟨nr15, A16, n17, c18, rfl, e21, h19⟩
 have E22 := below_ext E13 E13.size e21
 have lh19 := Num.len (by decide) h19
 have H23 := (e21.blk H14)
 refine ⟨.inr H23, ?_⟩
 refine aw_one 5 rfl (by kernel_rfl) .none (oe_callf (vs := [.agg #[.int .u64 (wv3 y), .int .u64 (wv2 y), .int .u64 (wv1 y), .int .u64 (wv0 y)]]) co49 (ar1 (T rfl rfl)) (l1Fromz_ok (z := y) fy_) ?_)
 rintro _ w29 ⟨nr24, A25, n26, c27, rfl, e30, h28⟩
 have E31 := below_ext E22 E22.size e30
 have lh28 := Num.len (by decide) h28
 have H32 := (e30.blk H23)
 refine ⟨.inr H32, ?_⟩
 refine aw_one 8 rfl (by kernel_rfl) .none (oe_callf (vs := [.agg #[.int .u64 (wv3 u), .int .u64 (wv2 u), .int .u64 (wv1 u), .int .u64 (wv0 u)]]) co49 (ar1 (T rfl rfl)) (l1Fromz_ok (z := u) fu_) ?_)
 rintro _ w38 ⟨nr33, A34, n35, c36, rfl, e39, h37⟩
 have E40 := below_ext E31 E31.size e39
 have lh37 := Num.len (by decide) h37
 have H41 := (e39.blk H32)
 refine ⟨.inr H41, ?_⟩
 refine aw_pure 9 (.agg #[.bool nr15, .slice A16 n17 c18, .bool nr24, .slice A25 n26 c27, .bool nr33, .slice A34 n35 c36]) rfl (by kernel_rfl) .none H41 (fun _ => dv_build (pv := [(0, .agg #[.bool nr15, .slice A16 n17 c18]), (1, .agg #[.bool nr24, .slice A25 n26 c27]), (2, .agg #[.bool nr33, .slice A34 n35 c36])]) (l := [.bool nr15, .slice A16 n17 c18, .bool nr24, .slice A25 n26 c27, .bool nr33, .slice A34 n35 c36]) zc126 pl126 ⟨rfl, (T rfl rfl), ⟨rfl, (T rfl rfl), ⟨rfl, (T rfl rfl), trivial⟩⟩⟩ rfl) ?_
 have H42 := (e39.blk (e30.blk (e21.blk (d12.ext.blk n8.blk))))
 refine aw_one 10 rfl (by kernel_rfl) .none (oe_store (v := .agg #[.bool nr15, .slice A16 n17 c18, .bool nr24, .slice A25 n26 c27, .bool nr33, .slice A34 n35 c36]) (vs := [.bool nr15, .slice A16 n17 c18, .bool nr24, .slice A25 n26 c27, .bool nr33, .slice A34 n35 c36]) (l := [.bool nr15, .slice A16 n17 c18, .bool nr24, .slice A25 n26 c27, .bool nr33, .slice A34 n35 c36]) (T rfl rfl) (T rfl rfl) sz126 rfl rfl rfl H42 rfl ?_)
 intro w43 s44 H45
 have E46 := below_st E40 N9 s44
 refine ⟨.inl rfl, ?_⟩
 refine aw_done (by kernel_rfl) ?_
 refine rk_ret Try.func108 (v := .agg #[.bool nr15, .slice A16 n17 c18, .bool nr24, .slice A25 n26 c27, .bool nr33, .slice A34 n35 c36]) (res1 Try.results108 (rv_cells (l := [.bool nr15, .slice A16 n17 c18, .bool nr24, .slice A25 n26 c27, .bool nr33, .slice A34 n35 c36]) agt126 sz126 rfl rfl H45 rfl)) ⟨_, rfl, ?_⟩
 have h47 := (((h19.ext e30).ext e39).st s44 H42 (by decide))
 have h48 := ((h28.ext e39).st s44 H42 (by decide))
 have h49 := (h37.st s44 H42 (by decide))
 exact ⟨_, _, _, _, _, _, _, _, _, _, _, _, rfl, E46, h47.to rfl (Nat.le_refl _), h48.to rfl (Nat.le_refl _), h49.to rfl (Nat.le_refl _)⟩
set_option maxHeartbeats 1000000 in
theorem sPointOk_ok {w : World} {x y u : Int} (fx_ : fits x) (fy_ : fits y) (fu_ : fits u)  : Ct Try.prog 107 [.agg #[.int .u64 (wv3 x), .int .u64 (wv2 x), .int .u64 (wv1 x), .int .u64 (wv0 x), .int .u64 (wv3 y), .int .u64 (wv2 y), .int .u64 (wv1 y), .int .u64 (wv0 y), .int .u64 (wv3 u), .int .u64 (wv2 u), .int .u64 (wv1 u), .int .u64 (wv0 u)]] w fun v w1 => v = .bool (decide (pOk x y u)) ∧ Ext w w1 := by
 refine ct_run (n := 27) Try.func107 rfl Try.ntmps107 rfl ?_
 have E0 : Below w.heap.size w w := Below.refl _ _
 refine rk_seq ?_
 refine rk_reg ?_
 refine lw_e (oe_box (v := .agg #[.int .u64 (wv3 x), .int .u64 (wv2 x), .int .u64 (wv1 x), .int .u64 (wv0 x), .int .u64 (wv3 y), .int .u64 (wv2 y), .int .u64 (wv1 y), .int .u64 (wv0 y), .int .u64 (wv3 u), .int .u64 (wv2 u), .int .u64 (wv1 u), .int .u64 (wv0 u)]) (cs := #[.int .u64 (wv3 x), .int .u64 (wv2 x), .int .u64 (wv1 x), .int .u64 (wv0 x), .int .u64 (wv3 y), .int .u64 (wv2 y), .int .u64 (wv1 y), .int .u64 (wv0 y), .int .u64 (wv3 u), .int .u64 (wv2 u), .int .u64 (wv1 u), .int .u64 (wv0 u)]) (T rfl rfl) rfl ?_)
 intro b1 w2 n3
 have N4 : w.heap.size ≤ b1 := n3.eq ▸ E0.size
 have E5 := below_ext E0 E0.size n3.ext
 refine lw_v (.bool false) (dv_assign C) ?_
 refine lw_nil ?_
 refine rk_seq ?_
 refine rk_reg ?_
 refine lw_v (.agg #[.int .u64 (wv3 x), .int .u64 (wv2 x), .int .u64 (wv1 x), .int .u64 (wv0 x), .int .u64 (wv3 y), .int .u64 (wv2 y), .int .u64 (wv1 y), .int .u64 (wv0 y), .int .u64 (wv3 u), .int .u64 (wv2 u), .int .u64 (wv1 u), .int .u64 (wv0 u)]) (dv_loads (l := [.int .u64 (wv3 x), .int .u64 (wv2 x), .int .u64 (wv1 x), .int .u64 (wv0 x), .int .u64 (wv3 y), .int .u64 (wv2 y), .int .u64 (wv1 y), .int .u64 (wv0 y), .int .u64 (wv3 u), .int .u64 (wv2 u), .int .u64 (wv1 u), .int .u64 (wv0 u)]) agt49 sz49 (T rfl rfl) n3.blk rfl) ?_
 refine lw_e (oe_callf (vs := [.agg #[.int .u64 (wv3 x), .int .u64 (wv2 x), .int .u64 (wv1 x), .int .u64 (wv0 x), .int .u64 (wv3 y), .int .u64 (wv2 y), .int .u64 (wv1 y), .int .u64 (wv0 y), .int .u64 (wv3 u), .int .u64 (wv2 u), .int .u64 (wv1 u), .int .u64 (wv0 u)]]) co108 (ar1 (T rfl rfl)) (l3Of_ok fx_ fy_ fu_  ) ?_)
 rintro _ w21 ⟨nr6, A7, n8, c9, nr10, A11, n12, c13, nr14, A15, n16, c17, rfl, e22, h18, h19, h20⟩
 have E23 := below_ext E5 E5.size e22
 have lh18 := Num.len (by decide) h18
 have lh19 := Num.len (by decide) h19
 have lh20 := Num.len (by decide) h20
 refine lw_e (oe_alloc ze126 ?_)
 intro b24 w25 n26
 have N27 : w.heap.size ≤ b24 := n26.eq ▸ E23.size
 have H28 := (e22.blk n3.blk)
 have : b1 < b24 := n26.eq ▸ lt_of_blk H28
 have E29 := below_ext E23 E23.size n26.ext
 refine lw_e (oe_store (v := .agg #[.bool nr6, .slice A7 n8 c9, .bool nr10, .slice A11 n12 c13, .bool nr14, .slice A15 n16 c17]) (vs := [.bool nr6, .slice A7 n8 c9, .bool nr10, .slice A11 n12 c13, .bool nr14, .slice A15 n16 c17]) (l := [.bool nr6, .slice A7 n8 c9, .bool nr10, .slice A11 n12 c13, .bool nr14, .slice A15 n16 c17]) (T rfl rfl) (T rfl rfl) sz126 rfl rfl rfl n26.blk rfl ?_)
 intro w30 s31 H32
 have E33 := below_st E29 N27 s31
 refine lw_nil ?_
 refine rk_seq ?_
 refine rk_any (fun w => w.heap[b24]? = some (.cells #[.bool nr6, .slice A7 n8 c9, .bool nr10, .slice A11 n12 c13, .bool nr14, .slice A15 n16 c17] 126)) [21] mo ?_
 intro w34 d35
 have E36 := below_ext E33 E33.size d35.ext
 have H37 := (d35.ext.blk H32)
 refine aw_pure 0 (.pointer (some ⟨b24, 4, none⟩)) rfl (by kernel_rfl) .none H37 (fun _ => dv_fieldAddr (a := ⟨b24, 0, none⟩) (a' := ⟨b24, 4, none⟩) fo126_2 (T rfl rfl) rfl) ?_
 refine aw_load 1 (.agg #[.bool nr14, .slice A15 n16 c17]) rfl (by kernel_rfl) .none H37 (fun _ s => dv_loads (l := [.bool nr14, .slice A15 n16 c17]) agt65 sz65 (T rfl rfl) s rfl) ?_
 have h38 := (((h20.ext n26.ext).st s31 n26.blk (by decide)).ext d35.ext)
 refine aw_one 2 rfl (by kernel_rfl) .none (oe_callf (vs := [.agg #[.bool nr14, .slice A15 n16 c17]]) co84 (ar1 (T rfl rfl)) (l1Sign_ok h38 ) ?_)
 rintro _ w39 ⟨rfl, e40⟩
 have E41 := below_ext E36 E36.size e40
 have H42 := (e40.blk H37)
 refine ⟨.inr H42, ?_⟩
 refine aw_pure 3 (.bool (decide (0 < (sgnI u)))) rfl (by kernel_rfl) .none H42 (fun _ => dv_gtr (a := sgnI u) (b := 0) (T rfl rfl) C) ?_
 refine aw_pure 4 (.bool (decide (0 < (sgnI u)))) rfl (by kernel_rfl) .none H42 (fun _ => dv_move (T rfl rfl)) ?_
 by_cases hb43 : 0 < (sgnI u)
 · refine aw_load 5 (.agg #[.bool nr6, .slice A7 n8 c9, .bool nr10, .slice A11 n12 c13, .bool nr14, .slice A15 n16 c17]) rfl (by kernel_rfl) (.yes (d := 10) rfl rfl (congrArg Value.bool (decide_eq_true hb43))) H42 (fun _ s => dv_loads (l := [.bool nr6, .slice A7 n8 c9, .bool nr10, .slice A11 n12 c13, .bool nr14, .slice A15 n16 c17]) agt126 sz126 (T rfl rfl) s rfl) ?_
   have h44 := ((((h18.ext n26.ext).st s31 n26.blk (by decide)).ext d35.ext).ext e40)
   have h45 := ((((h19.ext n26.ext).st s31 n26.blk (by decide)).ext d35.ext).ext e40)
   have h46 := (h38.ext e40)
   refine aw_one 6 rfl (by kernel_rfl) (.yes (d := 10) rfl rfl (congrArg Value.bool (decide_eq_true hb43))) (oe_callf (vs := [.agg #[.bool nr6, .slice A7 n8 c9, .bool nr10, .slice A11 n12 c13, .bool nr14, .slice A15 n16 c17]]) co116 (ar1 (T rfl rfl)) (l3Small_ok h44 h45 h46 (by first | decide | omega) (by first | decide | omega) (by first | decide | omega) ) ?_)
   rintro _ w47 ⟨rfl, e48⟩
   have E49 := below_ext E41 E41.size e48
   have H50 := (e48.blk H42)
   refine ⟨.inr H50, ?_⟩
   refine aw_pure 7 (.bool (decide (sm3 x y u))) rfl (by kernel_rfl) .none H50 (fun _ => dv_pick_t (T rfl (congrArg Value.bool (decide_eq_true hb43))) (T rfl rfl)) ?_
   refine aw_pure 8 (.bool (decide (sm3 x y u))) rfl (by kernel_rfl) .none H50 (fun _ => dv_move (T rfl rfl)) ?_
   by_cases hb51 : sm3 x y u
   · refine aw_pure 9 (.pointer (some ⟨b24, 0, none⟩)) rfl (by kernel_rfl) (.yes (d := 14) rfl rfl (congrArg Value.bool (decide_eq_true hb51))) H50 (fun _ => dv_fieldAddr (a := ⟨b24, 0, none⟩) (a' := ⟨b24, 0, none⟩) fo126_0 (T rfl rfl) rfl) ?_
     refine aw_load 10 (.agg #[.bool nr6, .slice A7 n8 c9]) rfl (by kernel_rfl) (.yes (d := 14) rfl rfl (congrArg Value.bool (decide_eq_true hb51))) H50 (fun _ s => dv_loads (l := [.bool nr6, .slice A7 n8 c9]) agt65 sz65 (T rfl rfl) s rfl) ?_
     refine aw_pure 11 (.pointer (some ⟨b24, 2, none⟩)) rfl (by kernel_rfl) (.yes (d := 14) rfl rfl (congrArg Value.bool (decide_eq_true hb51))) H50 (fun _ => dv_fieldAddr (a := ⟨b24, 0, none⟩) (a' := ⟨b24, 2, none⟩) fo126_1 (T rfl rfl) rfl) ?_
     refine aw_load 12 (.agg #[.bool nr10, .slice A11 n12 c13]) rfl (by kernel_rfl) (.yes (d := 14) rfl rfl (congrArg Value.bool (decide_eq_true hb51))) H50 (fun _ s => dv_loads (l := [.bool nr10, .slice A11 n12 c13]) agt65 sz65 (T rfl rfl) s rfl) ?_
     refine aw_pure 14 (.pointer (some ⟨b24, 4, none⟩)) rfl (by kernel_rfl) (.yes (d := 14) rfl rfl (congrArg Value.bool (decide_eq_true hb51))) H50 (fun _ => dv_fieldAddr (a := ⟨b24, 0, none⟩) (a' := ⟨b24, 4, none⟩) fo126_2 (T rfl rfl) rfl) ?_
     refine aw_load 15 (.agg #[.bool nr14, .slice A15 n16 c17]) rfl (by kernel_rfl) (.yes (d := 14) rfl rfl (congrArg Value.bool (decide_eq_true hb51))) H50 (fun _ s => dv_loads (l := [.bool nr14, .slice A15 n16 c17]) agt65 sz65 (T rfl rfl) s rfl) ?_
     have h52 := (h44.ext e48)
     have h53 := (h45.ext e48)
     refine aw_one 13 rfl (by kernel_rfl) (.yes (d := 14) rfl rfl (congrArg Value.bool (decide_eq_true hb51))) (oe_callf (vs := [.agg #[.bool nr6, .slice A7 n8 c9], .agg #[.bool nr10, .slice A11 n12 c13]]) co64 (ar2 (T rfl rfl) (T rfl rfl)) (l1Gcd_ok h52 h53 (by first | decide | omega) (by first | decide | omega)) ?_)
     rintro _ w59 ⟨nr54, A55, n56, c57, rfl, e60, h58⟩
     have E61 := below_ext E49 E49.size e60
     have lh58 := Num.len (by decide) h58
     have H62 := (e60.blk H50)
     refine ⟨.inr H62, ?_⟩
     have h63 := ((h46.ext e48).ext e60)
     refine aw_one 16 rfl (by kernel_rfl) (.yes (d := 14) rfl rfl (congrArg Value.bool (decide_eq_true hb51))) (oe_callf (vs := [.agg #[.bool nr54, .slice A55 n56 c57], .agg #[.bool nr14, .slice A15 n16 c17]]) co64 (ar2 (T rfl rfl) (T rfl rfl)) (l1Gcd_ok h58 h63 (by first | decide | omega) (by first | decide | omega)) ?_)
     rintro _ w69 ⟨nr64, A65, n66, c67, rfl, e70, h68⟩
     have E71 := below_ext E61 E61.size e70
     have lh68 := Num.len (by decide) h68
     have H72 := (e70.blk H62)
     refine ⟨.inr H72, ?_⟩
     refine aw_one 17 rfl (by kernel_rfl) (.yes (d := 14) rfl rfl (congrArg Value.bool (decide_eq_true hb51))) (oe_callf (vs := [.int .i64 1]) co79 (ar1 C) (l1Int_ok  (by omega)) ?_)
     rintro _ w78 ⟨nr73, A74, n75, c76, rfl, e79, h77⟩
     have E80 := below_ext E71 E71.size e79
     have lh77 := Num.len (by decide) h77
     have H81 := (e79.blk H72)
     refine ⟨.inr H81, ?_⟩
     have h82 := (h68.ext e79)
     refine aw_one 18 rfl (by kernel_rfl) (.yes (d := 14) rfl rfl (congrArg Value.bool (decide_eq_true hb51))) (oe_callf (vs := [.agg #[.bool nr64, .slice A65 n66 c67], .agg #[.bool nr73, .slice A74 n75 c76]]) co48 (ar2 (T rfl rfl) (T rfl rfl)) (l1Cmp_ok h82 h77 (by first | decide | omega) (by first | decide | omega)) ?_)
     rintro _ w83 ⟨rfl, e84⟩
     have E85 := below_ext E80 E80.size e84
     have H86 := (e84.blk H81)
     refine ⟨.inr H86, ?_⟩
     refine aw_pure 19 (.bool (decide ((sgnI ((gI (gI x y) u) - 1)) = 0))) rfl (by kernel_rfl) (.yes (d := 14) rfl rfl (congrArg Value.bool (decide_eq_true hb51))) H86 (fun _ => dv_eql (a := sgnI ((gI (gI x y) u) - 1)) (b := 0) (T rfl rfl) C) ?_
     refine aw_pure 20 (.bool (decide ((sgnI ((gI (gI x y) u) - 1)) = 0))) rfl (by kernel_rfl) .none H86 (fun _ => dv_pick_t (T rfl (congrArg Value.bool (decide_eq_true hb51))) (T rfl rfl)) ?_
     refine aw_last 21 (.bool (decide ((sgnI ((gI (gI x y) u) - 1)) = 0))) rfl (by kernel_rfl) .none (fun _ => dv_assign (T rfl rfl)) ?_
     refine aw_done (by kernel_rfl) ?_
     refine rk_ret Try.func107 (v := .bool (decide ((sgnI ((gI (gI x y) u) - 1)) = 0))) (res1 Try.results107 (rv_tmp rfl rfl)) ⟨_, rfl, ?_⟩
     have h1 : sm3 x y u := by first | assumption | exact sm3_iff.2 (mx3.1 ‹_›)
     have h2 : 0 < u := sgnI_gt.1 (by assumption)
     have h3 := @sgnI_zero (gI3 x y u - 1)
     exact ⟨(vb ⟨fun hh => ⟨h2, h1, by have := h3.1 hh; omega⟩, fun hh => h3.2 (by have := hh.2.2; omega)⟩), E85⟩
   · refine aw_no 9 rfl (by kernel_rfl) (d := 14) rfl rfl (congrArg Value.bool (decide_eq_false hb51)) H50 ?_
     refine aw_no 10 rfl (by kernel_rfl) (d := 14) rfl rfl (congrArg Value.bool (decide_eq_false hb51)) H50 ?_
     refine aw_no 11 rfl (by kernel_rfl) (d := 14) rfl rfl (congrArg Value.bool (decide_eq_false hb51)) H50 ?_
     refine aw_no 12 rfl (by kernel_rfl) (d := 14) rfl rfl (congrArg Value.bool (decide_eq_false hb51)) H50 ?_
     refine aw_no 13 rfl (by kernel_rfl) (d := 14) rfl rfl (congrArg Value.bool (decide_eq_false hb51)) H50 ?_
     refine aw_no 14 rfl (by kernel_rfl) (d := 14) rfl rfl (congrArg Value.bool (decide_eq_false hb51)) H50 ?_
     refine aw_no 15 rfl (by kernel_rfl) (d := 14) rfl rfl (congrArg Value.bool (decide_eq_false hb51)) H50 ?_
     refine aw_no 16 rfl (by kernel_rfl) (d := 14) rfl rfl (congrArg Value.bool (decide_eq_false hb51)) H50 ?_
     refine aw_no 17 rfl (by kernel_rfl) (d := 14) rfl rfl (congrArg Value.bool (decide_eq_false hb51)) H50 ?_
     refine aw_no 18 rfl (by kernel_rfl) (d := 14) rfl rfl (congrArg Value.bool (decide_eq_false hb51)) H50 ?_
     refine aw_no 19 rfl (by kernel_rfl) (d := 14) rfl rfl (congrArg Value.bool (decide_eq_false hb51)) H50 ?_
     refine aw_pure 20 (.bool false) rfl (by kernel_rfl) .none H50 (fun _ => dv_pick_f (T rfl (congrArg Value.bool (decide_eq_false hb51))) C) ?_
     refine aw_last 21 (.bool false) rfl (by kernel_rfl) .none (fun _ => dv_assign (T rfl rfl)) ?_
     refine aw_done (by kernel_rfl) ?_
     refine rk_ret Try.func107 (v := .bool false) (res1 Try.results107 (rv_tmp rfl rfl)) ⟨_, rfl, ?_⟩
     exact ⟨(vf (by intro hh; have h1 := sgnI_gt.2 hh.1; have h2 := hh.2.1; first | (exact absurd h2 (by assumption)) | (exact absurd (mx3.2 (sm3_iff.1 h2)) (by assumption)) | contradiction | omega)), E49⟩
 · refine aw_no 5 rfl (by kernel_rfl) (d := 10) rfl rfl (congrArg Value.bool (decide_eq_false hb43)) H42 ?_
   refine aw_no 6 rfl (by kernel_rfl) (d := 10) rfl rfl (congrArg Value.bool (decide_eq_false hb43)) H42 ?_
   refine aw_pure 7 (.bool false) rfl (by kernel_rfl) .none H42 (fun _ => dv_pick_f (T rfl (congrArg Value.bool (decide_eq_false hb43))) C) ?_
   refine aw_pure 8 (.bool false) rfl (by kernel_rfl) .none H42 (fun _ => dv_move (T rfl rfl)) ?_
   refine aw_no 9 rfl (by kernel_rfl) (d := 14) rfl rfl (rfl) H42 ?_
   refine aw_no 10 rfl (by kernel_rfl) (d := 14) rfl rfl (rfl) H42 ?_
   refine aw_no 11 rfl (by kernel_rfl) (d := 14) rfl rfl (rfl) H42 ?_
   refine aw_no 12 rfl (by kernel_rfl) (d := 14) rfl rfl (rfl) H42 ?_
   refine aw_no 13 rfl (by kernel_rfl) (d := 14) rfl rfl (rfl) H42 ?_
   refine aw_no 14 rfl (by kernel_rfl) (d := 14) rfl rfl (rfl) H42 ?_
   refine aw_no 15 rfl (by kernel_rfl) (d := 14) rfl rfl (rfl) H42 ?_
   refine aw_no 16 rfl (by kernel_rfl) (d := 14) rfl rfl (rfl) H42 ?_
   refine aw_no 17 rfl (by kernel_rfl) (d := 14) rfl rfl (rfl) H42 ?_
   refine aw_no 18 rfl (by kernel_rfl) (d := 14) rfl rfl (rfl) H42 ?_
   refine aw_no 19 rfl (by kernel_rfl) (d := 14) rfl rfl (rfl) H42 ?_
   refine aw_pure 20 (.bool false) rfl (by kernel_rfl) .none H42 (fun _ => dv_pick_f (T rfl rfl) C) ?_
   refine aw_last 21 (.bool false) rfl (by kernel_rfl) .none (fun _ => dv_assign (T rfl rfl)) ?_
   refine aw_done (by kernel_rfl) ?_
   refine rk_ret Try.func107 (v := .bool false) (res1 Try.results107 (rv_tmp rfl rfl)) ⟨_, rfl, ?_⟩
   exact ⟨(vf (by intro hh; have h1 := sgnI_gt.2 hh.1; have h2 := hh.2.1; first | (exact absurd h2 (by assumption)) | (exact absurd (mx3.2 (sm3_iff.1 h2)) (by assumption)) | contradiction | omega)), E41⟩
set_option maxHeartbeats 1000000 in
theorem iPointOk_ok {w : World} {x y u : Int} (fx_ : fits x) (fy_ : fits y) (fu_ : fits u)  : Ct Try.prog 109 [.agg #[.int .u64 (wv3 x), .int .u64 (wv2 x), .int .u64 (wv1 x), .int .u64 (wv0 x), .int .u64 (wv3 y), .int .u64 (wv2 y), .int .u64 (wv1 y), .int .u64 (wv0 y), .int .u64 (wv3 u), .int .u64 (wv2 u), .int .u64 (wv1 u), .int .u64 (wv0 u)]] w fun v w1 => v = .bool (decide (pOk x y u)) ∧ Ext w w1 := by
 refine ct_run (n := 36) Try.func109 rfl Try.ntmps109 rfl ?_
 have E0 : Below w.heap.size w w := Below.refl _ _
 refine rk_seq ?_
 refine rk_reg ?_
 refine lw_e (oe_box (v := .agg #[.int .u64 (wv3 x), .int .u64 (wv2 x), .int .u64 (wv1 x), .int .u64 (wv0 x), .int .u64 (wv3 y), .int .u64 (wv2 y), .int .u64 (wv1 y), .int .u64 (wv0 y), .int .u64 (wv3 u), .int .u64 (wv2 u), .int .u64 (wv1 u), .int .u64 (wv0 u)]) (cs := #[.int .u64 (wv3 x), .int .u64 (wv2 x), .int .u64 (wv1 x), .int .u64 (wv0 x), .int .u64 (wv3 y), .int .u64 (wv2 y), .int .u64 (wv1 y), .int .u64 (wv0 y), .int .u64 (wv3 u), .int .u64 (wv2 u), .int .u64 (wv1 u), .int .u64 (wv0 u)]) (T rfl rfl) rfl ?_)
 intro b1 w2 n3
 have N4 : w.heap.size ≤ b1 := n3.eq ▸ E0.size
 have E5 := below_ext E0 E0.size n3.ext
 refine lw_v (.bool false) (dv_assign C) ?_
 refine lw_nil ?_
 refine rk_seq ?_
 refine rk_reg ?_
 refine lw_v (.agg #[.int .u64 (wv3 x), .int .u64 (wv2 x), .int .u64 (wv1 x), .int .u64 (wv0 x), .int .u64 (wv3 y), .int .u64 (wv2 y), .int .u64 (wv1 y), .int .u64 (wv0 y), .int .u64 (wv3 u), .int .u64 (wv2 u), .int .u64 (wv1 u), .int .u64 (wv0 u)]) (dv_loads (l := [.int .u64 (wv3 x), .int .u64 (wv2 x), .int .u64 (wv1 x), .int .u64 (wv0 x), .int .u64 (wv3 y), .int .u64 (wv2 y), .int .u64 (wv1 y), .int .u64 (wv0 y), .int .u64 (wv3 u), .int .u64 (wv2 u), .int .u64 (wv1 u), .int .u64 (wv0 u)]) agt49 sz49 (T rfl rfl) n3.blk rfl) ?_
 refine lw_e (oe_callf (vs := [.agg #[.int .u64 (wv3 x), .int .u64 (wv2 x), .int .u64 (wv1 x), .int .u64 (wv0 x), .int .u64 (wv3 y), .int .u64 (wv2 y), .int .u64 (wv1 y), .int .u64 (wv0 y), .int .u64 (wv3 u), .int .u64 (wv2 u), .int .u64 (wv1 u), .int .u64 (wv0 u)]]) co117 (ar1 (T rfl rfl)) (spot_ok fx_ fy_ fu_  ) ?_)
 rintro _ w21 ⟨nr6, A7, n8, c9, nr10, A11, n12, c13, nr14, A15, n16, c17, rfl, e22, h18, h19, h20⟩
 have E23 := below_ext E5 E5.size e22
 have lh18 := Num.len (by decide) h18
 have lh19 := Num.len (by decide) h19
 have lh20 := Num.len (by decide) h20
 refine lw_e (oe_alloc ze135 ?_)
 intro b24 w25 n26
 have N27 : w.heap.size ≤ b24 := n26.eq ▸ E23.size
 have H28 := (e22.blk n3.blk)
 have : b1 < b24 := n26.eq ▸ lt_of_blk H28
 have E29 := below_ext E23 E23.size n26.ext
 refine lw_e (oe_store (v := .agg #[.bool nr6, .slice A7 n8 c9, .bool nr10, .slice A11 n12 c13, .bool nr14, .slice A15 n16 c17]) (vs := [.bool nr6, .slice A7 n8 c9, .bool nr10, .slice A11 n12 c13, .bool nr14, .slice A15 n16 c17]) (l := [.bool nr6, .slice A7 n8 c9, .bool nr10, .slice A11 n12 c13, .bool nr14, .slice A15 n16 c17]) (T rfl rfl) (T rfl rfl) sz135 rfl rfl rfl n26.blk rfl ?_)
 intro w30 s31 H32
 have E33 := below_st E29 N27 s31
 refine lw_nil ?_
 refine rk_seq ?_
 refine rk_any (fun w => w.heap[b24]? = some (.cells #[.bool nr6, .slice A7 n8 c9, .bool nr10, .slice A11 n12 c13, .bool nr14, .slice A15 n16 c17] 135)) [30] mo ?_
 intro w34 d35
 have E36 := below_ext E33 E33.size d35.ext
 have H37 := (d35.ext.blk H32)
 refine aw_pure 0 (.pointer (some ⟨b24, 4, none⟩)) rfl (by kernel_rfl) .none H37 (fun _ => dv_fieldAddr (a := ⟨b24, 0, none⟩) (a' := ⟨b24, 4, none⟩) fo135_2 (T rfl rfl) rfl) ?_
 refine aw_load 1 (.agg #[.bool nr14, .slice A15 n16 c17]) rfl (by kernel_rfl) .none H37 (fun _ s => dv_loads (l := [.bool nr14, .slice A15 n16 c17]) agt59 sz59 (T rfl rfl) s rfl) ?_
 have h38 := (((h20.ext n26.ext).st s31 n26.blk (by decide)).ext d35.ext)
 refine aw_one 2 rfl (by kernel_rfl) .none (oe_callf (vs := [.agg #[.bool nr14, .slice A15 n16 c17]]) co52 (ar1 (T rfl rfl)) (nsign_ok h38 ) ?_)
 rintro _ w39 ⟨rfl, e40⟩
 have E41 := below_ext E36 E36.size e40
 have H42 := (e40.blk H37)
 refine ⟨.inr H42, ?_⟩
 refine aw_pure 3 (.bool (decide (0 < (sgnI u)))) rfl (by kernel_rfl) .none H42 (fun _ => dv_gtr (a := sgnI u) (b := 0) (T rfl rfl) C) ?_
 refine aw_pure 4 (.bool (decide (0 < (sgnI u)))) rfl (by kernel_rfl) .none H42 (fun _ => dv_move (T rfl rfl)) ?_
 by_cases hb43 : 0 < (sgnI u)
 · refine aw_pure 5 (.pointer (some ⟨b24, 0, none⟩)) rfl (by kernel_rfl) (.yes (d := 10) rfl rfl (congrArg Value.bool (decide_eq_true hb43))) H42 (fun _ => dv_fieldAddr (a := ⟨b24, 0, none⟩) (a' := ⟨b24, 0, none⟩) fo135_0 (T rfl rfl) rfl) ?_
   refine aw_load 6 (.agg #[.bool nr6, .slice A7 n8 c9]) rfl (by kernel_rfl) (.yes (d := 10) rfl rfl (congrArg Value.bool (decide_eq_true hb43))) H42 (fun _ s => dv_loads (l := [.bool nr6, .slice A7 n8 c9]) agt59 sz59 (T rfl rfl) s rfl) ?_
   refine aw_pure 8 (.pointer (some ⟨b24, 2, none⟩)) rfl (by kernel_rfl) (.yes (d := 10) rfl rfl (congrArg Value.bool (decide_eq_true hb43))) H42 (fun _ => dv_fieldAddr (a := ⟨b24, 0, none⟩) (a' := ⟨b24, 2, none⟩) fo135_1 (T rfl rfl) rfl) ?_
   refine aw_load 9 (.agg #[.bool nr10, .slice A11 n12 c13]) rfl (by kernel_rfl) (.yes (d := 10) rfl rfl (congrArg Value.bool (decide_eq_true hb43))) H42 (fun _ s => dv_loads (l := [.bool nr10, .slice A11 n12 c13]) agt59 sz59 (T rfl rfl) s rfl) ?_
   refine aw_pure 11 (.pointer (some ⟨b24, 4, none⟩)) rfl (by kernel_rfl) (.yes (d := 10) rfl rfl (congrArg Value.bool (decide_eq_true hb43))) H42 (fun _ => dv_fieldAddr (a := ⟨b24, 0, none⟩) (a' := ⟨b24, 4, none⟩) fo135_2 (T rfl rfl) rfl) ?_
   refine aw_load 12 (.agg #[.bool nr14, .slice A15 n16 c17]) rfl (by kernel_rfl) (.yes (d := 10) rfl rfl (congrArg Value.bool (decide_eq_true hb43))) H42 (fun _ s => dv_loads (l := [.bool nr14, .slice A15 n16 c17]) agt59 sz59 (T rfl rfl) s rfl) ?_
   have h44 := ((((h18.ext n26.ext).st s31 n26.blk (by decide)).ext d35.ext).ext e40)
   refine aw_one 7 rfl (by kernel_rfl) (.yes (d := 10) rfl rfl (congrArg Value.bool (decide_eq_true hb43))) (oe_callf (vs := [.agg #[.bool nr6, .slice A7 n8 c9]]) co68 (ar1 (T rfl rfl)) (nsize_num h44 (by first | omega | (simp; done) | (simp; omega))) ?_)
   rintro _ w45 ⟨rfl, e46⟩
   have E47 := below_ext E41 E41.size e46
   have H48 := (e46.blk H42)
   refine ⟨.inr H48, ?_⟩
   have h49 := (((((h19.ext n26.ext).st s31 n26.blk (by decide)).ext d35.ext).ext e40).ext e46)
   refine aw_one 10 rfl (by kernel_rfl) (.yes (d := 10) rfl rfl (congrArg Value.bool (decide_eq_true hb43))) (oe_callf (vs := [.agg #[.bool nr10, .slice A11 n12 c13]]) co68 (ar1 (T rfl rfl)) (nsize_num h49 (by first | omega | (simp; done) | (simp; omega))) ?_)
   rintro _ w50 ⟨rfl, e51⟩
   have E52 := below_ext E47 E47.size e51
   have H53 := (e51.blk H48)
   refine ⟨.inr H53, ?_⟩
   have h54 := (((h38.ext e40).ext e46).ext e51)
   refine aw_one 13 rfl (by kernel_rfl) (.yes (d := 10) rfl rfl (congrArg Value.bool (decide_eq_true hb43))) (oe_callf (vs := [.agg #[.bool nr14, .slice A15 n16 c17]]) co68 (ar1 (T rfl rfl)) (nsize_num h54 (by first | omega | (simp; done) | (simp; omega))) ?_)
   rintro _ w55 ⟨rfl, e56⟩
   have E57 := below_ext E52 E52.size e56
   have H58 := (e56.blk H53)
   refine ⟨.inr H58, ?_⟩
   refine aw_pure 14 (.int .i64 (mx (mx ((nbits (x).natAbs : Int)) ((nbits (y).natAbs : Int))) ((nbits (u).natAbs : Int)))) rfl (by kernel_rfl) (.yes (d := 10) rfl rfl (congrArg Value.bool (decide_eq_true hb43))) H58 (fun _ => dv_max3 (a := (nbits (x).natAbs : Int)) (b := (nbits (y).natAbs : Int)) (c := (nbits (u).natAbs : Int)) (T rfl rfl) (T rfl rfl) (T rfl rfl)) ?_
   refine aw_pure 15 (.bool (decide ((mx (mx ((nbits (x).natAbs : Int)) ((nbits (y).natAbs : Int))) ((nbits (u).natAbs : Int))) ≤ 80))) rfl (by kernel_rfl) (.yes (d := 10) rfl rfl (congrArg Value.bool (decide_eq_true hb43))) H58 (fun _ => dv_leq (a := mx (mx ((nbits (x).natAbs : Int)) ((nbits (y).natAbs : Int))) ((nbits (u).natAbs : Int))) (b := 80) (T rfl rfl) C) ?_
   refine aw_pure 16 (.bool (decide ((mx (mx ((nbits (x).natAbs : Int)) ((nbits (y).natAbs : Int))) ((nbits (u).natAbs : Int))) ≤ 80))) rfl (by kernel_rfl) .none H58 (fun _ => dv_pick_t (T rfl (congrArg Value.bool (decide_eq_true hb43))) (T rfl rfl)) ?_
   refine aw_pure 17 (.bool (decide ((mx (mx ((nbits (x).natAbs : Int)) ((nbits (y).natAbs : Int))) ((nbits (u).natAbs : Int))) ≤ 80))) rfl (by kernel_rfl) .none H58 (fun _ => dv_move (T rfl rfl)) ?_
   by_cases hb59 : (mx (mx ((nbits (x).natAbs : Int)) ((nbits (y).natAbs : Int))) ((nbits (u).natAbs : Int))) ≤ 80
   · refine aw_pure 18 (.pointer (some ⟨b24, 0, none⟩)) rfl (by kernel_rfl) (.yes (d := 23) rfl rfl (congrArg Value.bool (decide_eq_true hb59))) H58 (fun _ => dv_fieldAddr (a := ⟨b24, 0, none⟩) (a' := ⟨b24, 0, none⟩) fo135_0 (T rfl rfl) rfl) ?_
     refine aw_load 19 (.agg #[.bool nr6, .slice A7 n8 c9]) rfl (by kernel_rfl) (.yes (d := 23) rfl rfl (congrArg Value.bool (decide_eq_true hb59))) H58 (fun _ s => dv_loads (l := [.bool nr6, .slice A7 n8 c9]) agt59 sz59 (T rfl rfl) s rfl) ?_
     refine aw_pure 20 (.pointer (some ⟨b24, 2, none⟩)) rfl (by kernel_rfl) (.yes (d := 23) rfl rfl (congrArg Value.bool (decide_eq_true hb59))) H58 (fun _ => dv_fieldAddr (a := ⟨b24, 0, none⟩) (a' := ⟨b24, 2, none⟩) fo135_1 (T rfl rfl) rfl) ?_
     refine aw_load 21 (.agg #[.bool nr10, .slice A11 n12 c13]) rfl (by kernel_rfl) (.yes (d := 23) rfl rfl (congrArg Value.bool (decide_eq_true hb59))) H58 (fun _ s => dv_loads (l := [.bool nr10, .slice A11 n12 c13]) agt59 sz59 (T rfl rfl) s rfl) ?_
     refine aw_pure 22 (.pointer (some ⟨b24, 4, none⟩)) rfl (by kernel_rfl) (.yes (d := 23) rfl rfl (congrArg Value.bool (decide_eq_true hb59))) H58 (fun _ => dv_fieldAddr (a := ⟨b24, 0, none⟩) (a' := ⟨b24, 4, none⟩) fo135_2 (T rfl rfl) rfl) ?_
     refine aw_load 23 (.agg #[.bool nr14, .slice A15 n16 c17]) rfl (by kernel_rfl) (.yes (d := 23) rfl rfl (congrArg Value.bool (decide_eq_true hb59))) H58 (fun _ s => dv_loads (l := [.bool nr14, .slice A15 n16 c17]) agt59 sz59 (T rfl rfl) s rfl) ?_
     refine aw_one 24 rfl (by kernel_rfl) (.yes (d := 23) rfl rfl (congrArg Value.bool (decide_eq_true hb59))) (oe_buildSlice (pv := [(0, .agg #[.bool nr6, .slice A7 n8 c9]), (1, .agg #[.bool nr10, .slice A11 n12 c13]), (2, .agg #[.bool nr14, .slice A15 n16 c17])]) (init := [.bool false, .slice none 0 0, .bool false, .slice none 0 0, .bool false, .slice none 0 0]) (l := [.bool nr6, .slice A7 n8 c9, .bool nr10, .slice A11 n12 c13, .bool nr14, .slice A15 n16 c17]) us113 sz59 rfl rfl zc59 (by kernel_rfl) ⟨rfl, (T rfl rfl), ⟨rfl, (T rfl rfl), ⟨rfl, (T rfl rfl), trivial⟩⟩⟩ rfl ?_)
     intro b60 w61 n62
     have N63 : w.heap.size ≤ b60 := n62.eq ▸ E57.size
     have : b24 < b60 := n62.eq ▸ lt_of_blk H58
     have E64 := below_ext E57 E57.size n62.ext
     have H65 := (n62.ext.blk H58)
     refine ⟨.inr H65, ?_⟩
     have h66 := ((((h44.ext e46).ext e51).ext e56).ext n62.ext)
     have h67 := (((h49.ext e51).ext e56).ext n62.ext)
     have h68 := ((h54.ext e56).ext n62.ext)
     refine aw_one 25 rfl (by kernel_rfl) (.yes (d := 23) rfl rfl (congrArg Value.bool (decide_eq_true hb59))) (oe_callf (vs := [.slice (some ⟨b60, 0, none⟩) 3 3]) co63 (ar1 (T rfl rfl)) (gcd3_ok h66 h67 h68 (by first | decide | omega) (by first | decide | omega) (by first | decide | omega) n62.blk) ?_)
     rintro _ w74 ⟨nr69, A70, n71, c72, rfl, e75, h73⟩
     have E76 := below_ext E64 E64.size e75
     have lh73 := Num.len (by decide) h73
     have H77 := (e75.blk H65)
     refine ⟨.inr H77, ?_⟩
     refine aw_one 26 rfl (by kernel_rfl) (.yes (d := 23) rfl rfl (congrArg Value.bool (decide_eq_true hb59))) (oe_callf (vs := [.int .i64 1]) co57 (ar1 C) (whole_ok  (by omega)) ?_)
     rintro _ w83 ⟨nr78, A79, n80, c81, rfl, e84, h82⟩
     have E85 := below_ext E76 E76.size e84
     have lh82 := Num.len (by decide) h82
     have H86 := (e84.blk H77)
     refine ⟨.inr H86, ?_⟩
     have h87 := (h73.ext e84)
     refine aw_one 27 rfl (by kernel_rfl) (.yes (d := 23) rfl rfl (congrArg Value.bool (decide_eq_true hb59))) (oe_callf (vs := [.agg #[.bool nr69, .slice A70 n71 c72], .agg #[.bool nr78, .slice A79 n80 c81]]) co47 (ar2 (T rfl rfl) (T rfl rfl)) (ncmp_ok h87 h82 (by first | decide | omega) (by first | decide | omega)) ?_)
     rintro _ w88 ⟨rfl, e89⟩
     have E90 := below_ext E85 E85.size e89
     have H91 := (e89.blk H86)
     refine ⟨.inr H91, ?_⟩
     refine aw_pure 28 (.bool (decide ((sgnI ((gI3 x y u) - 1)) = 0))) rfl (by kernel_rfl) (.yes (d := 23) rfl rfl (congrArg Value.bool (decide_eq_true hb59))) H91 (fun _ => dv_eql (a := sgnI ((gI3 x y u) - 1)) (b := 0) (T rfl rfl) C) ?_
     refine aw_pure 29 (.bool (decide ((sgnI ((gI3 x y u) - 1)) = 0))) rfl (by kernel_rfl) .none H91 (fun _ => dv_pick_t (T rfl (congrArg Value.bool (decide_eq_true hb59))) (T rfl rfl)) ?_
     refine aw_last 30 (.bool (decide ((sgnI ((gI3 x y u) - 1)) = 0))) rfl (by kernel_rfl) .none (fun _ => dv_assign (T rfl rfl)) ?_
     refine aw_done (by kernel_rfl) ?_
     refine rk_ret Try.func109 (v := .bool (decide ((sgnI ((gI3 x y u) - 1)) = 0))) (res1 Try.results109 (rv_tmp rfl rfl)) ⟨_, rfl, ?_⟩
     have h1 : sm3 x y u := by first | assumption | exact sm3_iff.2 (mx3.1 ‹_›)
     have h2 : 0 < u := sgnI_gt.1 (by assumption)
     have h3 := @sgnI_zero (gI3 x y u - 1)
     exact ⟨(vb ⟨fun hh => ⟨h2, h1, by have := h3.1 hh; omega⟩, fun hh => h3.2 (by have := hh.2.2; omega)⟩), E90⟩
   · refine aw_no 18 rfl (by kernel_rfl) (d := 23) rfl rfl (congrArg Value.bool (decide_eq_false hb59)) H58 ?_
     refine aw_no 19 rfl (by kernel_rfl) (d := 23) rfl rfl (congrArg Value.bool (decide_eq_false hb59)) H58 ?_
     refine aw_no 20 rfl (by kernel_rfl) (d := 23) rfl rfl (congrArg Value.bool (decide_eq_false hb59)) H58 ?_
     refine aw_no 21 rfl (by kernel_rfl) (d := 23) rfl rfl (congrArg Value.bool (decide_eq_false hb59)) H58 ?_
     refine aw_no 22 rfl (by kernel_rfl) (d := 23) rfl rfl (congrArg Value.bool (decide_eq_false hb59)) H58 ?_
     refine aw_no 23 rfl (by kernel_rfl) (d := 23) rfl rfl (congrArg Value.bool (decide_eq_false hb59)) H58 ?_
     refine aw_no 24 rfl (by kernel_rfl) (d := 23) rfl rfl (congrArg Value.bool (decide_eq_false hb59)) H58 ?_
     refine aw_no 25 rfl (by kernel_rfl) (d := 23) rfl rfl (congrArg Value.bool (decide_eq_false hb59)) H58 ?_
     refine aw_no 26 rfl (by kernel_rfl) (d := 23) rfl rfl (congrArg Value.bool (decide_eq_false hb59)) H58 ?_
     refine aw_no 27 rfl (by kernel_rfl) (d := 23) rfl rfl (congrArg Value.bool (decide_eq_false hb59)) H58 ?_
     refine aw_no 28 rfl (by kernel_rfl) (d := 23) rfl rfl (congrArg Value.bool (decide_eq_false hb59)) H58 ?_
     refine aw_pure 29 (.bool false) rfl (by kernel_rfl) .none H58 (fun _ => dv_pick_f (T rfl (congrArg Value.bool (decide_eq_false hb59))) C) ?_
     refine aw_last 30 (.bool false) rfl (by kernel_rfl) .none (fun _ => dv_assign (T rfl rfl)) ?_
     refine aw_done (by kernel_rfl) ?_
     refine rk_ret Try.func109 (v := .bool false) (res1 Try.results109 (rv_tmp rfl rfl)) ⟨_, rfl, ?_⟩
     exact ⟨(vf (by intro hh; have h1 := sgnI_gt.2 hh.1; have h2 := hh.2.1; first | (exact absurd h2 (by assumption)) | (exact absurd (mx3.2 (sm3_iff.1 h2)) (by assumption)) | contradiction | omega)), E57⟩
 · refine aw_no 5 rfl (by kernel_rfl) (d := 10) rfl rfl (congrArg Value.bool (decide_eq_false hb43)) H42 ?_
   refine aw_no 6 rfl (by kernel_rfl) (d := 10) rfl rfl (congrArg Value.bool (decide_eq_false hb43)) H42 ?_
   refine aw_no 7 rfl (by kernel_rfl) (d := 10) rfl rfl (congrArg Value.bool (decide_eq_false hb43)) H42 ?_
   refine aw_no 8 rfl (by kernel_rfl) (d := 10) rfl rfl (congrArg Value.bool (decide_eq_false hb43)) H42 ?_
   refine aw_no 9 rfl (by kernel_rfl) (d := 10) rfl rfl (congrArg Value.bool (decide_eq_false hb43)) H42 ?_
   refine aw_no 10 rfl (by kernel_rfl) (d := 10) rfl rfl (congrArg Value.bool (decide_eq_false hb43)) H42 ?_
   refine aw_no 11 rfl (by kernel_rfl) (d := 10) rfl rfl (congrArg Value.bool (decide_eq_false hb43)) H42 ?_
   refine aw_no 12 rfl (by kernel_rfl) (d := 10) rfl rfl (congrArg Value.bool (decide_eq_false hb43)) H42 ?_
   refine aw_no 13 rfl (by kernel_rfl) (d := 10) rfl rfl (congrArg Value.bool (decide_eq_false hb43)) H42 ?_
   refine aw_no 14 rfl (by kernel_rfl) (d := 10) rfl rfl (congrArg Value.bool (decide_eq_false hb43)) H42 ?_
   refine aw_no 15 rfl (by kernel_rfl) (d := 10) rfl rfl (congrArg Value.bool (decide_eq_false hb43)) H42 ?_
   refine aw_pure 16 (.bool false) rfl (by kernel_rfl) .none H42 (fun _ => dv_pick_f (T rfl (congrArg Value.bool (decide_eq_false hb43))) C) ?_
   refine aw_pure 17 (.bool false) rfl (by kernel_rfl) .none H42 (fun _ => dv_move (T rfl rfl)) ?_
   refine aw_no 18 rfl (by kernel_rfl) (d := 23) rfl rfl (rfl) H42 ?_
   refine aw_no 19 rfl (by kernel_rfl) (d := 23) rfl rfl (rfl) H42 ?_
   refine aw_no 20 rfl (by kernel_rfl) (d := 23) rfl rfl (rfl) H42 ?_
   refine aw_no 21 rfl (by kernel_rfl) (d := 23) rfl rfl (rfl) H42 ?_
   refine aw_no 22 rfl (by kernel_rfl) (d := 23) rfl rfl (rfl) H42 ?_
   refine aw_no 23 rfl (by kernel_rfl) (d := 23) rfl rfl (rfl) H42 ?_
   refine aw_no 24 rfl (by kernel_rfl) (d := 23) rfl rfl (rfl) H42 ?_
   refine aw_no 25 rfl (by kernel_rfl) (d := 23) rfl rfl (rfl) H42 ?_
   refine aw_no 26 rfl (by kernel_rfl) (d := 23) rfl rfl (rfl) H42 ?_
   refine aw_no 27 rfl (by kernel_rfl) (d := 23) rfl rfl (rfl) H42 ?_
   refine aw_no 28 rfl (by kernel_rfl) (d := 23) rfl rfl (rfl) H42 ?_
   refine aw_pure 29 (.bool false) rfl (by kernel_rfl) .none H42 (fun _ => dv_pick_f (T rfl rfl) C) ?_
   refine aw_last 30 (.bool false) rfl (by kernel_rfl) .none (fun _ => dv_assign (T rfl rfl)) ?_
   refine aw_done (by kernel_rfl) ?_
   refine rk_ret Try.func109 (v := .bool false) (res1 Try.results109 (rv_tmp rfl rfl)) ⟨_, rfl, ?_⟩
   exact ⟨(vf (by intro hh; have h1 := sgnI_gt.2 hh.1; have h2 := hh.2.1; first | (exact absurd h2 (by assumption)) | (exact absurd (mx3.2 (sm3_iff.1 h2)) (by assumption)) | contradiction | omega)), E41⟩
set_option maxHeartbeats 1000000 in
theorem iWideText_ok {w : World} {x : Int} (fx_ : fits x)  : Ct Try.prog 31 [.agg #[.int .u64 (wv3 x), .int .u64 (wv2 x), .int .u64 (wv1 x), .int .u64 (wv0 x)]] w fun v w1 => v = .string (bOf (txtL x)) ∧ Ext w w1 := by
 refine ct_run (n := 6) Try.func31 rfl Try.ntmps31 rfl ?_
 have E0 : Below w.heap.size w w := Below.refl _ _
 refine rk_seq ?_
 refine rk_reg ?_
 refine lw_e (oe_box (v := .agg #[.int .u64 (wv3 x), .int .u64 (wv2 x), .int .u64 (wv1 x), .int .u64 (wv0 x)]) (cs := #[.int .u64 (wv3 x), .int .u64 (wv2 x), .int .u64 (wv1 x), .int .u64 (wv0 x)]) (T rfl rfl) rfl ?_)
 intro b1 w2 n3
 have N4 : w.heap.size ≤ b1 := n3.eq ▸ E0.size
 have E5 := below_ext E0 E0.size n3.ext
 refine lw_v (.string (bOf [])) (dv_assign C) ?_
 refine lw_nil ?_
 refine rk_seq ?_
 refine rk_reg ?_
 refine lw_v (.agg #[.int .u64 (wv3 x), .int .u64 (wv2 x), .int .u64 (wv1 x), .int .u64 (wv0 x)]) (dv_loads (l := [.int .u64 (wv3 x), .int .u64 (wv2 x), .int .u64 (wv1 x), .int .u64 (wv0 x)]) agt26 sz26 (T rfl rfl) n3.blk rfl) ?_
 refine lw_e (oe_callf (vs := [.agg #[.int .u64 (wv3 x), .int .u64 (wv2 x), .int .u64 (wv1 x), .int .u64 (wv0 x)]]) co46 (ar1 (T rfl rfl)) (wnumz_ok (z := x) fx_) ?_)
 rintro _ w11 ⟨nr6, A7, n8, c9, rfl, e12, h10⟩
 have E13 := below_ext E5 E5.size e12
 have lh10 := Num.len (by decide) h10
 refine lw_e (oe_callf (vs := [.agg #[.bool nr6, .slice A7 n8 c9]]) co66 (ar1 (T rfl rfl)) (ntext_ok h10 (by first | decide | omega)) ?_)
 rintro _ w15 ⟨rfl, e16⟩
 have E17 := below_ext E13 E13.size e16
 have ht14 := txt_len (h10).lt
 refine lw_v (.string (bOf (txtL x))) (dv_assign (T rfl rfl)) ?_
 refine lw_nil ?_
 refine rk_ret Try.func31 (v := .string (bOf (txtL x))) (res1 Try.results31 (rv_tmp rfl rfl)) ⟨_, rfl, ?_⟩
 exact ⟨rfl, E17⟩
set_option maxHeartbeats 1000000 in
theorem iWideOf_ok {w : World} {x : Int}  (hx : -9223372036854775808 ≤ x ∧ x < 9223372036854775808) : Ct Try.prog 22 [.int .i64 x] w fun v w1 => v = .agg #[.int .u64 (wv3 x), .int .u64 (wv2 x), .int .u64 (wv1 x), .int .u64 (wv0 x)] ∧ Ext w w1 := by
 refine ct_run (n := 12) Try.func22 rfl Try.ntmps22 rfl ?_
 have E0 : Below w.heap.size w w := Below.refl _ _
 refine rk_seq ?_
 refine rk_reg ?_
 refine lw_e (oe_alloc ze26 ?_)
 intro b1 w2 n3
 have N4 : w.heap.size ≤ b1 := n3.eq ▸ E0.size
 have E5 := below_ext E0 E0.size n3.ext
 refine lw_nil ?_
 refine rk_seq ?_
 refine rk_reg ?_
 refine lw_v (.int .i64 x) (dv_move (T rfl rfl)) ?_
 refine lw_e (oe_callf (vs := [.int .i64 x]) co57 (ar1 (T rfl rfl)) (whole_ok  (by omega)) ?_)
 rintro _ w11 ⟨nr6, A7, n8, c9, rfl, e12, h10⟩
 have E13 := below_ext E5 E5.size e12
 have lh10 := Num.len (by decide) h10
 refine lw_e (oe_callf (vs := [.agg #[.bool nr6, .slice A7 n8 c9]]) co51 (ar1 (T rfl rfl)) (nwide_ok h10 (by first | decide | omega)) ?_)
 rintro _ w15 ⟨rfl, e16⟩
 have E17 := below_ext E13 E13.size e16
 have bw14 := w_rg (x)
 refine lw_v (.tuple #[.agg #[.int .u64 (wv3 x), .int .u64 (wv2 x), .int .u64 (wv1 x), .int .u64 (wv0 x)], .bool (decide (fits x))]) (dv_move (T rfl rfl)) ?_
 refine lw_v (.agg #[.int .u64 (wv3 x), .int .u64 (wv2 x), .int .u64 (wv1 x), .int .u64 (wv0 x)]) (dv_extract (vs := #[.agg #[.int .u64 (wv3 x), .int .u64 (wv2 x), .int .u64 (wv1 x), .int .u64 (wv0 x)], .bool (decide (fits x))]) (T rfl rfl) rfl) ?_
 refine lw_v (.bool (decide (fits x))) (dv_extract (vs := #[.agg #[.int .u64 (wv3 x), .int .u64 (wv2 x), .int .u64 (wv1 x), .int .u64 (wv0 x)], .bool (decide (fits x))]) (T rfl rfl) rfl) ?_
 refine lw_e (oe_alloc ze26 ?_)
 intro b18 w19 n20
 have N21 : w.heap.size ≤ b18 := n20.eq ▸ E17.size
 have H22 := (e16.blk (e12.blk n3.blk))
 have : b1 < b18 := n20.eq ▸ lt_of_blk H22
 have E23 := below_ext E17 E17.size n20.ext
 refine lw_e (oe_store (v := .agg #[.int .u64 (wv3 x), .int .u64 (wv2 x), .int .u64 (wv1 x), .int .u64 (wv0 x)]) (vs := [.int .u64 (wv3 x), .int .u64 (wv2 x), .int .u64 (wv1 x), .int .u64 (wv0 x)]) (l := [.int .u64 (wv3 x), .int .u64 (wv2 x), .int .u64 (wv1 x), .int .u64 (wv0 x)]) (T rfl rfl) (T rfl rfl) sz26 rfl rfl rfl n20.blk rfl ?_)
 intro w24 s25 H26
 have E27 := below_st E23 N21 s25
 refine lw_v (.bool (decide (fits x))) (dv_assign (T rfl rfl)) ?_
 refine lw_nil ?_
 refine rk_seq ?_
 refine rk_reg ?_
 refine lw_v (.agg #[.int .u64 (wv3 x), .int .u64 (wv2 x), .int .u64 (wv1 x), .int .u64 (wv0 x)]) (dv_loads (l := [.int .u64 (wv3 x), .int .u64 (wv2 x), .int .u64 (wv1 x), .int .u64 (wv0 x)]) agt26 sz26 (T rfl rfl) H26 rfl) ?_
 have H28 := (s25.blk (n20.ext.blk H22) (by omega))
 refine lw_e (oe_store (v := .agg #[.int .u64 (wv3 x), .int .u64 (wv2 x), .int .u64 (wv1 x), .int .u64 (wv0 x)]) (vs := [.int .u64 (wv3 x), .int .u64 (wv2 x), .int .u64 (wv1 x), .int .u64 (wv0 x)]) (l := [.int .u64 (wv3 x), .int .u64 (wv2 x), .int .u64 (wv1 x), .int .u64 (wv0 x)]) (T rfl rfl) (T rfl rfl) sz26 rfl rfl rfl H28 rfl ?_)
 intro w29 s30 H31
 have E32 := below_st E27 N4 s30
 refine lw_nil ?_
 refine rk_ret Try.func22 (v := .agg #[.int .u64 (wv3 x), .int .u64 (wv2 x), .int .u64 (wv1 x), .int .u64 (wv0 x)]) (res1 Try.results22 (rv_cells (l := [.int .u64 (wv3 x), .int .u64 (wv2 x), .int .u64 (wv1 x), .int .u64 (wv0 x)]) agt26 sz26 rfl rfl H31 rfl)) ⟨_, rfl, ?_⟩
 exact ⟨rfl, E32⟩
set_option maxHeartbeats 1000000 in
theorem iPointText_ok {w : World} {x y u : Int} (fx_ : fits x) (fy_ : fits y) (fu_ : fits u)  : Ct Try.prog 74 [.agg #[.int .u64 (wv3 x), .int .u64 (wv2 x), .int .u64 (wv1 x), .int .u64 (wv0 x), .int .u64 (wv3 y), .int .u64 (wv2 y), .int .u64 (wv1 y), .int .u64 (wv0 y), .int .u64 (wv3 u), .int .u64 (wv2 u), .int .u64 (wv1 u), .int .u64 (wv0 u)]] w fun v w1 => v = .string (bOf (pTxt x y u)) ∧ Ext w w1 := by
 refine ct_run (n := 26) Try.func74 rfl Try.ntmps74 rfl ?_
 have E0 : Below w.heap.size w w := Below.refl _ _
 have htx := txt_len (fits_natAbs fx_)
 have hty := txt_len (fits_natAbs fy_)
 have htu := txt_len (fits_natAbs fu_)
 refine rk_seq ?_
 refine rk_reg ?_
 refine lw_e (oe_box (v := .agg #[.int .u64 (wv3 x), .int .u64 (wv2 x), .int .u64 (wv1 x), .int .u64 (wv0 x), .int .u64 (wv3 y), .int .u64 (wv2 y), .int .u64 (wv1 y), .int .u64 (wv0 y), .int .u64 (wv3 u), .int .u64 (wv2 u), .int .u64 (wv1 u), .int .u64 (wv0 u)]) (cs := #[.int .u64 (wv3 x), .int .u64 (wv2 x), .int .u64 (wv1 x), .int .u64 (wv0 x), .int .u64 (wv3 y), .int .u64 (wv2 y), .int .u64 (wv1 y), .int .u64 (wv0 y), .int .u64 (wv3 u), .int .u64 (wv2 u), .int .u64 (wv1 u), .int .u64 (wv0 u)]) (T rfl rfl) rfl ?_)
 intro b1 w2 n3
 have N4 : w.heap.size ≤ b1 := n3.eq ▸ E0.size
 have E5 := below_ext E0 E0.size n3.ext
 refine lw_v (.string (bOf [])) (dv_assign C) ?_
 refine lw_nil ?_
 refine rk_seq ?_
 refine rk_seq ?_
 refine rk_reg ?_
 refine lw_v (.agg #[.int .u64 (wv3 x), .int .u64 (wv2 x), .int .u64 (wv1 x), .int .u64 (wv0 x), .int .u64 (wv3 y), .int .u64 (wv2 y), .int .u64 (wv1 y), .int .u64 (wv0 y), .int .u64 (wv3 u), .int .u64 (wv2 u), .int .u64 (wv1 u), .int .u64 (wv0 u)]) (dv_loads (l := [.int .u64 (wv3 x), .int .u64 (wv2 x), .int .u64 (wv1 x), .int .u64 (wv0 x), .int .u64 (wv3 y), .int .u64 (wv2 y), .int .u64 (wv1 y), .int .u64 (wv0 y), .int .u64 (wv3 u), .int .u64 (wv2 u), .int .u64 (wv1 u), .int .u64 (wv0 u)]) agt49 sz49 (T rfl rfl) n3.blk rfl) ?_
 refine lw_e (oe_callf (vs := [.agg #[.int .u64 (wv3 x), .int .u64 (wv2 x), .int .u64 (wv1 x), .int .u64 (wv0 x), .int .u64 (wv3 y), .int .u64 (wv2 y), .int .u64 (wv1 y), .int .u64 (wv0 y), .int .u64 (wv3 u), .int .u64 (wv2 u), .int .u64 (wv1 u), .int .u64 (wv0 u)]]) co109 (ar1 (T rfl rfl)) (iPointOk_ok (x := x) (y := y) (u := u) fx_ fy_ fu_ ) ?_)
 rintro _ w6 ⟨rfl, e7⟩
 have E8 := below_ext E5 E5.size e7
 refine lw_v (.bool (decide (¬ (pOk x y u)))) (dv_notd (p := pOk x y u) (T rfl rfl)) ?_
 refine lw_nil ?_
 by_cases hb9 : pOk x y u
 · refine rk_cf (T rfl (congrArg Value.bool (decide_eq_false (not_not_intro hb9)))) ?_
   refine rk_skip ?_
   refine rk_seq ?_
   refine rk_any (fun w => w.heap[b1]? = some (.cells #[.int .u64 (wv3 x), .int .u64 (wv2 x), .int .u64 (wv1 x), .int .u64 (wv0 x), .int .u64 (wv3 y), .int .u64 (wv2 y), .int .u64 (wv1 y), .int .u64 (wv0 y), .int .u64 (wv3 u), .int .u64 (wv2 u), .int .u64 (wv1 u), .int .u64 (wv0 u)] 49)) [8] mo ?_
   intro w10 d11
   have E12 := below_ext E8 E8.size d11.ext
   have H13 := (d11.ext.blk (e7.blk n3.blk))
   refine aw_pure 0 (.pointer (some ⟨b1, 0, none⟩)) rfl (by kernel_rfl) .none H13 (fun _ => dv_fieldAddr (a := ⟨b1, 0, none⟩) (a' := ⟨b1, 0, none⟩) fo49_0 (T rfl rfl) rfl) ?_
   refine aw_load 1 (.agg #[.int .u64 (wv3 x), .int .u64 (wv2 x), .int .u64 (wv1 x), .int .u64 (wv0 x)]) rfl (by kernel_rfl) .none H13 (fun _ s => dv_loads (l := [.int .u64 (wv3 x), .int .u64 (wv2 x), .int .u64 (wv1 x), .int .u64 (wv0 x)]) agt26 sz26 (T rfl rfl) s rfl) ?_
   refine aw_pure 4 (.pointer (some ⟨b1, 4, none⟩)) rfl (by kernel_rfl) .none H13 (fun _ => dv_fieldAddr (a := ⟨b1, 0, none⟩) (a' := ⟨b1, 4, none⟩) fo49_1 (T rfl rfl) rfl) ?_
   refine aw_load 5 (.agg #[.int .u64 (wv3 y), .int .u64 (wv2 y), .int .u64 (wv1 y), .int .u64 (wv0 y)]) rfl (by kernel_rfl) .none H13 (fun _ s => dv_loads (l := [.int .u64 (wv3 y), .int .u64 (wv2 y), .int .u64 (wv1 y), .int .u64 (wv0 y)]) agt26 sz26 (T rfl rfl) s rfl) ?_
   refine aw_one 2 rfl (by kernel_rfl) .none (oe_callf (vs := [.agg #[.int .u64 (wv3 x), .int .u64 (wv2 x), .int .u64 (wv1 x), .int .u64 (wv0 x)]]) co31 (ar1 (T rfl rfl)) (iWideText_ok (x := x) fx_ ) ?_)
   rintro _ w14 ⟨rfl, e15⟩
   have E16 := below_ext E12 E12.size e15
   have H17 := (e15.blk H13)
   refine ⟨.inr H17, ?_⟩
   refine aw_pure 3 (.string (bOf ((txtL x) ++ [44]))) rfl (by kernel_rfl) .none H17 (fun _ => dv_addS (L := (txtL x)) (M := [44]) (T rfl rfl) C (by simp; omega)) ?_
   refine aw_one 6 rfl (by kernel_rfl) .none (oe_callf (vs := [.agg #[.int .u64 (wv3 y), .int .u64 (wv2 y), .int .u64 (wv1 y), .int .u64 (wv0 y)]]) co31 (ar1 (T rfl rfl)) (iWideText_ok (x := y) fy_ ) ?_)
   rintro _ w18 ⟨rfl, e19⟩
   have E20 := below_ext E16 E16.size e19
   have H21 := (e19.blk H17)
   refine ⟨.inr H21, ?_⟩
   refine aw_pure 7 (.string (bOf (((txtL x) ++ [44]) ++ (txtL y)))) rfl (by kernel_rfl) .none H21 (fun _ => dv_addS (L := ((txtL x) ++ [44])) (M := (txtL y)) (T rfl rfl) (T rfl rfl) (by simp; omega)) ?_
   refine aw_last 8 (.string (bOf (((txtL x) ++ [44]) ++ (txtL y)))) rfl (by kernel_rfl) .none (fun _ => dv_assign (T rfl rfl)) ?_
   refine aw_done (by kernel_rfl) ?_
   refine rk_seq ?_
   refine rk_seq ?_
   refine rk_any (fun w => w.heap[b1]? = some (.cells #[.int .u64 (wv3 x), .int .u64 (wv2 x), .int .u64 (wv1 x), .int .u64 (wv0 x), .int .u64 (wv3 y), .int .u64 (wv2 y), .int .u64 (wv1 y), .int .u64 (wv0 y), .int .u64 (wv3 u), .int .u64 (wv2 u), .int .u64 (wv1 u), .int .u64 (wv0 u)] 49)) [] mo ?_
   intro w22 d23
   have E24 := below_ext E20 E20.size d23.ext
   have H25 := (d23.ext.blk H21)
   refine aw_pure 0 (.pointer (some ⟨b1, 8, none⟩)) rfl (by kernel_rfl) .none H25 (fun _ => dv_fieldAddr (a := ⟨b1, 0, none⟩) (a' := ⟨b1, 8, none⟩) fo49_2 (T rfl rfl) rfl) ?_
   refine aw_load 1 (.agg #[.int .u64 (wv3 u), .int .u64 (wv2 u), .int .u64 (wv1 u), .int .u64 (wv0 u)]) rfl (by kernel_rfl) .none H25 (fun _ s => dv_loads (l := [.int .u64 (wv3 u), .int .u64 (wv2 u), .int .u64 (wv1 u), .int .u64 (wv0 u)]) agt26 sz26 (T rfl rfl) s rfl) ?_
   refine aw_one 2 rfl (by kernel_rfl) .none (oe_callf (vs := [.int .i64 1]) co22 (ar1 C) (iWideOf_ok (x := 1)  (by omega)) ?_)
   rintro _ w26 ⟨rfl, e27⟩
   have E28 := below_ext E24 E24.size e27
   have H29 := (e27.blk H25)
   refine ⟨.inr H29, ?_⟩
   refine aw_pure 3 (.bool (decide (([wv3 u, wv2 u, wv1 u, wv0 u] : List Int) ≠ [wv3 (1 : Int), wv2 (1 : Int), wv1 (1 : Int), wv0 (1 : Int)]))) rfl (by kernel_rfl) .none H29 (fun _ => dv_neqs (k := .u64) (la := [wv3 u, wv2 u, wv1 u, wv0 u]) (lb := [wv3 (1 : Int), wv2 (1 : Int), wv1 (1 : Int), wv0 (1 : Int)]) fl26 eg26 (T rfl rfl) (T rfl rfl) rfl rfl) ?_
   refine aw_done (by kernel_rfl) ?_
   by_cases hb30 : ([wv3 u, wv2 u, wv1 u, wv0 u] : List Int) ≠ [wv3 (1 : Int), wv2 (1 : Int), wv1 (1 : Int), wv0 (1 : Int)]
   · have hz31 := fun hh => hb30 ((wl_eq fu_ (⟨by decide, by decide⟩ : fits 1)).2 hh)
     refine rk_ct (T rfl (congrArg Value.bool (decide_eq_true hb30))) ?_
     refine rk_reg ?_
     refine lw_v (.string (bOf (((txtL x) ++ [44]) ++ (txtL y)))) (dv_move (T rfl rfl)) ?_
     refine lw_v (.pointer (some ⟨b1, 8, none⟩)) (dv_fieldAddr (a := ⟨b1, 0, none⟩) (a' := ⟨b1, 8, none⟩) fo49_2 (T rfl rfl) rfl) ?_
     refine lw_v (.agg #[.int .u64 (wv3 u), .int .u64 (wv2 u), .int .u64 (wv1 u), .int .u64 (wv0 u)]) (dv_loads (l := [.int .u64 (wv3 u), .int .u64 (wv2 u), .int .u64 (wv1 u), .int .u64 (wv0 u)]) agt26 sz26 (T rfl rfl) H29 rfl) ?_
     refine lw_e (oe_callf (vs := [.agg #[.int .u64 (wv3 u), .int .u64 (wv2 u), .int .u64 (wv1 u), .int .u64 (wv0 u)]]) co31 (ar1 (T rfl rfl)) (iWideText_ok (x := u) fu_ ) ?_)
     rintro _ w32 ⟨rfl, e33⟩
     have E34 := below_ext E28 E28.size e33
     refine lw_v (.string (bOf ([47] ++ (txtL u)))) (dv_addS (L := [47]) (M := (txtL u)) C (T rfl rfl) (by simp; omega)) ?_
     refine lw_v (.string (bOf ((((txtL x) ++ [44]) ++ (txtL y)) ++ ([47] ++ (txtL u))))) (dv_addS (L := (((txtL x) ++ [44]) ++ (txtL y))) (M := ([47] ++ (txtL u))) (T rfl rfl) (T rfl rfl) (by simp; omega)) ?_
     refine lw_v (.string (bOf ((((txtL x) ++ [44]) ++ (txtL y)) ++ ([47] ++ (txtL u))))) (dv_assign (T rfl rfl)) ?_
     refine lw_nil ?_
     refine rk_seq ?_
     refine rk_reg ?_
     refine lw_v (.string (bOf ((((txtL x) ++ [44]) ++ (txtL y)) ++ ([47] ++ (txtL u))))) (dv_move (T rfl rfl)) ?_
     refine lw_v (.string (bOf ((((txtL x) ++ [44]) ++ (txtL y)) ++ ([47] ++ (txtL u))))) (dv_assign (T rfl rfl)) ?_
     refine lw_nil ?_
     refine rk_ret Try.func74 (v := .string (bOf ((((txtL x) ++ [44]) ++ (txtL y)) ++ ([47] ++ (txtL u))))) (res1 Try.results74 (rv_tmp rfl rfl)) ⟨_, rfl, ?_⟩
     exact ⟨(congrArg (fun l => Value.string (bOf l)) (by unfold pTxt; rw [if_pos (by first | assumption | simpa using ‹_›), if_neg (by first | assumption | (have := @sgnI_zero (u - 1); omega))]; try simp only [List.append_assoc])), E34⟩
   · have hz35 := (wl_eq fu_ (⟨by decide, by decide⟩ : fits 1)).1 (Decidable.not_not.1 hb30)
     refine rk_cf (T rfl (congrArg Value.bool (decide_eq_false hb30))) ?_
     refine rk_skip ?_
     refine rk_seq ?_
     refine rk_reg ?_
     refine lw_v (.string (bOf (((txtL x) ++ [44]) ++ (txtL y)))) (dv_move (T rfl rfl)) ?_
     refine lw_v (.string (bOf (((txtL x) ++ [44]) ++ (txtL y)))) (dv_assign (T rfl rfl)) ?_
     refine lw_nil ?_
     refine rk_ret Try.func74 (v := .string (bOf (((txtL x) ++ [44]) ++ (txtL y)))) (res1 Try.results74 (rv_tmp rfl rfl)) ⟨_, rfl, ?_⟩
     exact ⟨(congrArg (fun l => Value.string (bOf l)) (by unfold pTxt; rw [if_pos (by first | assumption | simpa using ‹_›), if_pos (by first | assumption | (have := @sgnI_zero (u - 1); omega))]; try simp only [List.append_assoc])), E28⟩
 · refine rk_ct (T rfl (congrArg Value.bool (decide_eq_true hb9))) ?_
   refine rk_seq ?_
   refine rk_reg ?_
   refine lw_v (.string (bOf [])) (dv_assign C) ?_
   refine lw_nil ?_
   refine rk_ret Try.func74 (v := .string (bOf [])) (res1 Try.results74 (rv_tmp rfl rfl)) ⟨_, rfl, ?_⟩
   exact ⟨(congrArg (fun l => Value.string (bOf l)) (by unfold pTxt; rw [if_neg (by first | assumption | simpa using ‹_›)])), E8⟩
set_option maxHeartbeats 1000000 in
theorem sPointText_ok {w : World} {x y u : Int} (fx_ : fits x) (fy_ : fits y) (fu_ : fits u)  : Ct Try.prog 73 [.agg #[.int .u64 (wv3 x), .int .u64 (wv2 x), .int .u64 (wv1 x), .int .u64 (wv0 x), .int .u64 (wv3 y), .int .u64 (wv2 y), .int .u64 (wv1 y), .int .u64 (wv0 y), .int .u64 (wv3 u), .int .u64 (wv2 u), .int .u64 (wv1 u), .int .u64 (wv0 u)]] w fun v w1 => v = .string (bOf (pTxt x y u)) ∧ Ext w w1 := by
 refine ct_run (n := 30) Try.func73 rfl Try.ntmps73 rfl ?_
 have E0 : Below w.heap.size w w := Below.refl _ _
 have htx := txt_len (fits_natAbs fx_)
 have hty := txt_len (fits_natAbs fy_)
 have htu := txt_len (fits_natAbs fu_)
 refine rk_seq ?_
 refine rk_reg ?_
 refine lw_e (oe_box (v := .agg #[.int .u64 (wv3 x), .int .u64 (wv2 x), .int .u64 (wv1 x), .int .u64 (wv0 x), .int .u64 (wv3 y), .int .u64 (wv2 y), .int .u64 (wv1 y), .int .u64 (wv0 y), .int .u64 (wv3 u), .int .u64 (wv2 u), .int .u64 (wv1 u), .int .u64 (wv0 u)]) (cs := #[.int .u64 (wv3 x), .int .u64 (wv2 x), .int .u64 (wv1 x), .int .u64 (wv0 x), .int .u64 (wv3 y), .int .u64 (wv2 y), .int .u64 (wv1 y), .int .u64 (wv0 y), .int .u64 (wv3 u), .int .u64 (wv2 u), .int .u64 (wv1 u), .int .u64 (wv0 u)]) (T rfl rfl) rfl ?_)
 intro b1 w2 n3
 have N4 : w.heap.size ≤ b1 := n3.eq ▸ E0.size
 have E5 := below_ext E0 E0.size n3.ext
 refine lw_v (.string (bOf [])) (dv_assign C) ?_
 refine lw_nil ?_
 refine rk_seq ?_
 refine rk_seq ?_
 refine rk_reg ?_
 refine lw_v (.agg #[.int .u64 (wv3 x), .int .u64 (wv2 x), .int .u64 (wv1 x), .int .u64 (wv0 x), .int .u64 (wv3 y), .int .u64 (wv2 y), .int .u64 (wv1 y), .int .u64 (wv0 y), .int .u64 (wv3 u), .int .u64 (wv2 u), .int .u64 (wv1 u), .int .u64 (wv0 u)]) (dv_loads (l := [.int .u64 (wv3 x), .int .u64 (wv2 x), .int .u64 (wv1 x), .int .u64 (wv0 x), .int .u64 (wv3 y), .int .u64 (wv2 y), .int .u64 (wv1 y), .int .u64 (wv0 y), .int .u64 (wv3 u), .int .u64 (wv2 u), .int .u64 (wv1 u), .int .u64 (wv0 u)]) agt49 sz49 (T rfl rfl) n3.blk rfl) ?_
 refine lw_e (oe_callf (vs := [.agg #[.int .u64 (wv3 x), .int .u64 (wv2 x), .int .u64 (wv1 x), .int .u64 (wv0 x), .int .u64 (wv3 y), .int .u64 (wv2 y), .int .u64 (wv1 y), .int .u64 (wv0 y), .int .u64 (wv3 u), .int .u64 (wv2 u), .int .u64 (wv1 u), .int .u64 (wv0 u)]]) co107 (ar1 (T rfl rfl)) (sPointOk_ok (x := x) (y := y) (u := u) fx_ fy_ fu_ ) ?_)
 rintro _ w6 ⟨rfl, e7⟩
 have E8 := below_ext E5 E5.size e7
 refine lw_v (.bool (decide (¬ (pOk x y u)))) (dv_notd (p := pOk x y u) (T rfl rfl)) ?_
 refine lw_nil ?_
 by_cases hb9 : pOk x y u
 · refine rk_cf (T rfl (congrArg Value.bool (decide_eq_false (not_not_intro hb9)))) ?_
   refine rk_skip ?_
   refine rk_seq ?_
   refine rk_reg ?_
   have H10 := (e7.blk n3.blk)
   refine lw_v (.agg #[.int .u64 (wv3 x), .int .u64 (wv2 x), .int .u64 (wv1 x), .int .u64 (wv0 x), .int .u64 (wv3 y), .int .u64 (wv2 y), .int .u64 (wv1 y), .int .u64 (wv0 y), .int .u64 (wv3 u), .int .u64 (wv2 u), .int .u64 (wv1 u), .int .u64 (wv0 u)]) (dv_loads (l := [.int .u64 (wv3 x), .int .u64 (wv2 x), .int .u64 (wv1 x), .int .u64 (wv0 x), .int .u64 (wv3 y), .int .u64 (wv2 y), .int .u64 (wv1 y), .int .u64 (wv0 y), .int .u64 (wv3 u), .int .u64 (wv2 u), .int .u64 (wv1 u), .int .u64 (wv0 u)]) agt49 sz49 (T rfl rfl) H10 rfl) ?_
   refine lw_e (oe_callf (vs := [.agg #[.int .u64 (wv3 x), .int .u64 (wv2 x), .int .u64 (wv1 x), .int .u64 (wv0 x), .int .u64 (wv3 y), .int .u64 (wv2 y), .int .u64 (wv1 y), .int .u64 (wv0 y), .int .u64 (wv3 u), .int .u64 (wv2 u), .int .u64 (wv1 u), .int .u64 (wv0 u)]]) co108 (ar1 (T rfl rfl)) (l3Of_ok fx_ fy_ fu_  ) ?_)
   rintro _ w26 ⟨nr11, A12, n13, c14, nr15, A16, n17, c18, nr19, A20, n21, c22, rfl, e27, h23, h24, h25⟩
   have E28 := below_ext E8 E8.size e27
   have lh23 := Num.len (by decide) h23
   have lh24 := Num.len (by decide) h24
   have lh25 := Num.len (by decide) h25
   refine lw_e (oe_alloc ze126 ?_)
   intro b29 w30 n31
   have N32 : w.heap.size ≤ b29 := n31.eq ▸ E28.size
   have H33 := (e27.blk H10)
   have : b1 < b29 := n31.eq ▸ lt_of_blk H33
   have E34 := below_ext E28 E28.size n31.ext
   refine lw_e (oe_store (v := .agg #[.bool nr11, .slice A12 n13 c14, .bool nr15, .slice A16 n17 c18, .bool nr19, .slice A20 n21 c22]) (vs := [.bool nr11, .slice A12 n13 c14, .bool nr15, .slice A16 n17 c18, .bool nr19, .slice A20 n21 c22]) (l := [.bool nr11, .slice A12 n13 c14, .bool nr15, .slice A16 n17 c18, .bool nr19, .slice A20 n21 c22]) (T rfl rfl) (T rfl rfl) sz126 rfl rfl rfl n31.blk rfl ?_)
   intro w35 s36 H37
   have E38 := below_st E34 N32 s36
   refine lw_nil ?_
   refine rk_seq ?_
   refine rk_any (fun w => w.heap[b29]? = some (.cells #[.bool nr11, .slice A12 n13 c14, .bool nr15, .slice A16 n17 c18, .bool nr19, .slice A20 n21 c22] 126)) [8] mo ?_
   intro w39 d40
   have E41 := below_ext E38 E38.size d40.ext
   have H42 := (d40.ext.blk H37)
   refine aw_pure 0 (.pointer (some ⟨b29, 0, none⟩)) rfl (by kernel_rfl) .none H42 (fun _ => dv_fieldAddr (a := ⟨b29, 0, none⟩) (a' := ⟨b29, 0, none⟩) fo126_0 (T rfl rfl) rfl) ?_
   refine aw_load 1 (.agg #[.bool nr11, .slice A12 n13 c14]) rfl (by kernel_rfl) .none H42 (fun _ s => dv_loads (l := [.bool nr11, .slice A12 n13 c14]) agt65 sz65 (T rfl rfl) s rfl) ?_
   refine aw_pure 4 (.pointer (some ⟨b29, 2, none⟩)) rfl (by kernel_rfl) .none H42 (fun _ => dv_fieldAddr (a := ⟨b29, 0, none⟩) (a' := ⟨b29, 2, none⟩) fo126_1 (T rfl rfl) rfl) ?_
   refine aw_load 5 (.agg #[.bool nr15, .slice A16 n17 c18]) rfl (by kernel_rfl) .none H42 (fun _ s => dv_loads (l := [.bool nr15, .slice A16 n17 c18]) agt65 sz65 (T rfl rfl) s rfl) ?_
   have h43 := (((h23.ext n31.ext).st s36 n31.blk (by decide)).ext d40.ext)
   refine aw_one 2 rfl (by kernel_rfl) .none (oe_callf (vs := [.agg #[.bool nr11, .slice A12 n13 c14]]) co67 (ar1 (T rfl rfl)) (l1Text_ok h43 (by first | decide | omega)) ?_)
   rintro _ w45 ⟨rfl, e46⟩
   have E47 := below_ext E41 E41.size e46
   have ht44 := txt_len (h43).lt
   have H48 := (e46.blk H42)
   refine ⟨.inr H48, ?_⟩
   refine aw_pure 3 (.string (bOf ((txtL x) ++ [44]))) rfl (by kernel_rfl) .none H48 (fun _ => dv_addS (L := (txtL x)) (M := [44]) (T rfl rfl) C (by simp; omega)) ?_
   have h49 := ((((h24.ext n31.ext).st s36 n31.blk (by decide)).ext d40.ext).ext e46)
   refine aw_one 6 rfl (by kernel_rfl) .none (oe_callf (vs := [.agg #[.bool nr15, .slice A16 n17 c18]]) co67 (ar1 (T rfl rfl)) (l1Text_ok h49 (by first | decide | omega)) ?_)
   rintro _ w51 ⟨rfl, e52⟩
   have E53 := below_ext E47 E47.size e52
   have ht50 := txt_len (h49).lt
   have H54 := (e52.blk H48)
   refine ⟨.inr H54, ?_⟩
   refine aw_pure 7 (.string (bOf (((txtL x) ++ [44]) ++ (txtL y)))) rfl (by kernel_rfl) .none H54 (fun _ => dv_addS (L := ((txtL x) ++ [44])) (M := (txtL y)) (T rfl rfl) (T rfl rfl) (by simp; omega)) ?_
   refine aw_last 8 (.string (bOf (((txtL x) ++ [44]) ++ (txtL y)))) rfl (by kernel_rfl) .none (fun _ => dv_assign (T rfl rfl)) ?_
   refine aw_done (by kernel_rfl) ?_
   refine rk_seq ?_
   refine rk_seq ?_
   refine rk_any (fun w => w.heap[b29]? = some (.cells #[.bool nr11, .slice A12 n13 c14, .bool nr15, .slice A16 n17 c18, .bool nr19, .slice A20 n21 c22] 126)) [] mo ?_
   intro w55 d56
   have E57 := below_ext E53 E53.size d56.ext
   have H58 := (d56.ext.blk H54)
   refine aw_pure 0 (.pointer (some ⟨b29, 4, none⟩)) rfl (by kernel_rfl) .none H58 (fun _ => dv_fieldAddr (a := ⟨b29, 0, none⟩) (a' := ⟨b29, 4, none⟩) fo126_2 (T rfl rfl) rfl) ?_
   refine aw_load 1 (.agg #[.bool nr19, .slice A20 n21 c22]) rfl (by kernel_rfl) .none H58 (fun _ s => dv_loads (l := [.bool nr19, .slice A20 n21 c22]) agt65 sz65 (T rfl rfl) s rfl) ?_
   refine aw_one 2 rfl (by kernel_rfl) .none (oe_callf (vs := [.int .i64 1]) co79 (ar1 C) (l1Int_ok  (by omega)) ?_)
   rintro _ w64 ⟨nr59, A60, n61, c62, rfl, e65, h63⟩
   have E66 := below_ext E57 E57.size e65
   have lh63 := Num.len (by decide) h63
   have H67 := (e65.blk H58)
   refine ⟨.inr H67, ?_⟩
   have h68 := (((((((h25.ext n31.ext).st s36 n31.blk (by decide)).ext d40.ext).ext e46).ext e52).ext d56.ext).ext e65)
   refine aw_one 3 rfl (by kernel_rfl) .none (oe_callf (vs := [.agg #[.bool nr19, .slice A20 n21 c22], .agg #[.bool nr59, .slice A60 n61 c62]]) co48 (ar2 (T rfl rfl) (T rfl rfl)) (l1Cmp_ok h68 h63 (by first | decide | omega) (by first | decide | omega)) ?_)
   rintro _ w69 ⟨rfl, e70⟩
   have E71 := below_ext E66 E66.size e70
   have H72 := (e70.blk H67)
   refine ⟨.inr H72, ?_⟩
   refine aw_pure 4 (.bool (decide ((sgnI (u - 1)) = 0))) rfl (by kernel_rfl) .none H72 (fun _ => dv_eql (a := sgnI (u - 1)) (b := 0) (T rfl rfl) C) ?_
   refine aw_done (by kernel_rfl) ?_
   by_cases hb73 : (sgnI (u - 1)) = 0
   · refine rk_ct (T rfl (congrArg Value.bool (decide_eq_true hb73))) ?_
     refine rk_seq ?_
     refine rk_reg ?_
     refine lw_v (.string (bOf (((txtL x) ++ [44]) ++ (txtL y)))) (dv_move (T rfl rfl)) ?_
     refine lw_v (.string (bOf (((txtL x) ++ [44]) ++ (txtL y)))) (dv_assign (T rfl rfl)) ?_
     refine lw_nil ?_
     refine rk_ret Try.func73 (v := .string (bOf (((txtL x) ++ [44]) ++ (txtL y)))) (res1 Try.results73 (rv_tmp rfl rfl)) ⟨_, rfl, ?_⟩
     exact ⟨(congrArg (fun l => Value.string (bOf l)) (by unfold pTxt; rw [if_pos (by first | assumption | simpa using ‹_›), if_pos (by first | assumption | (have := @sgnI_zero (u - 1); omega))]; try simp only [List.append_assoc])), E71⟩
   · refine rk_cf (T rfl (congrArg Value.bool (decide_eq_false hb73))) ?_
     refine rk_skip ?_
     refine rk_seq ?_
     refine rk_reg ?_
     refine lw_v (.string (bOf (((txtL x) ++ [44]) ++ (txtL y)))) (dv_move (T rfl rfl)) ?_
     refine lw_v (.string (bOf ((((txtL x) ++ [44]) ++ (txtL y)) ++ [47]))) (dv_addS (L := (((txtL x) ++ [44]) ++ (txtL y))) (M := [47]) (T rfl rfl) C (by simp; omega)) ?_
     refine lw_v (.pointer (some ⟨b29, 4, none⟩)) (dv_fieldAddr (a := ⟨b29, 0, none⟩) (a' := ⟨b29, 4, none⟩) fo126_2 (T rfl rfl) rfl) ?_
     refine lw_v (.agg #[.bool nr19, .slice A20 n21 c22]) (dv_loads (l := [.bool nr19, .slice A20 n21 c22]) agt65 sz65 (T rfl rfl) H72 rfl) ?_
     have h74 := (h68.ext e70)
     refine lw_e (oe_callf (vs := [.agg #[.bool nr19, .slice A20 n21 c22]]) co67 (ar1 (T rfl rfl)) (l1Text_ok h74 (by first | decide | omega)) ?_)
     rintro _ w76 ⟨rfl, e77⟩
     have E78 := below_ext E71 E71.size e77
     have ht75 := txt_len (h74).lt
     refine lw_v (.string (bOf (((((txtL x) ++ [44]) ++ (txtL y)) ++ [47]) ++ (txtL u)))) (dv_addS (L := ((((txtL x) ++ [44]) ++ (txtL y)) ++ [47])) (M := (txtL u)) (T rfl rfl) (T rfl rfl) (by simp; omega)) ?_
     refine lw_v (.string (bOf (((((txtL x) ++ [44]) ++ (txtL y)) ++ [47]) ++ (txtL u)))) (dv_assign (T rfl rfl)) ?_
     refine lw_nil ?_
     refine rk_ret Try.func73 (v := .string (bOf (((((txtL x) ++ [44]) ++ (txtL y)) ++ [47]) ++ (txtL u)))) (res1 Try.results73 (rv_tmp rfl rfl)) ⟨_, rfl, ?_⟩
     exact ⟨(congrArg (fun l => Value.string (bOf l)) (by unfold pTxt; rw [if_pos (by first | assumption | simpa using ‹_›), if_neg (by first | assumption | (have := @sgnI_zero (u - 1); omega))]; try simp only [List.append_assoc])), E78⟩
 · refine rk_ct (T rfl (congrArg Value.bool (decide_eq_true hb9))) ?_
   refine rk_seq ?_
   refine rk_reg ?_
   refine lw_v (.string (bOf [])) (dv_assign C) ?_
   refine lw_nil ?_
   refine rk_ret Try.func73 (v := .string (bOf [])) (res1 Try.results73 (rv_tmp rfl rfl)) ⟨_, rfl, ?_⟩
   exact ⟨(congrArg (fun l => Value.string (bOf l)) (by unfold pTxt; rw [if_neg (by first | assumption | simpa using ‹_›)])), E8⟩
end Go.Proofs.Ytfmkadgjoechnaa.W
