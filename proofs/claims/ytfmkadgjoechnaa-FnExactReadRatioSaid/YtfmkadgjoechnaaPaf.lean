/- Walks and plain mathematics, packed by a program of this session: declarations that the rows reach. -/
import Derived.Test.YtfmkadgjoechnaaPae
set_option linter.unusedVariables false
set_option linter.unusedSimpArgs false
namespace Go.Proofs.Ytfmkadgjoechnaa.W
open Go Go.RowKit Go.Proofs.Ytfmkadgjoechnaa.Fw
attribute [local irreducible] RunK LW AW DV OE Ct
theorem co56 : callOk Try.prog 56 = true := by kernel_rfl
theorem co58 : callOk Try.prog 58 = true := by kernel_rfl
theorem co59 : callOk Try.prog 59 = true := by kernel_rfl
theorem co66 : callOk Try.prog 66 = true := by kernel_rfl
theorem co78 : callOk Try.prog 78 = true := by kernel_rfl
set_option maxHeartbeats 1000000 in
theorem readNum_ok {w : World} {L : List Int} {S : Nat} (hL : okW 256 L) (hl : L.length ≤ 1048576) (hS : 400 ≤ S ∧ S ≤ 1000) : Ct Try.prog 59 [.string (bOf L)] w fun v w1 => ∃ nr A' n c' z, v = .tuple #[.agg #[.bool nr, .slice A' n c'], .bool (decide (canD L ∧ L.length ≤ 100))] ∧ Ext w w1 ∧ Num 64 24 .u64 w1 nr A' n c' z S ∧ (canD L ∧ L.length ≤ 100 → z = numD L) := by
 refine ct_run (n := 65) Try.func59 rfl Try.ntmps59 rfl ?_
 have E0 : Below w.heap.size w w := Below.refl _ _
 refine rk_seq ?_
 refine rk_reg ?_
 refine lw_e (oe_alloc ze59 ?_)
 intro b1 w2 n3
 have N4 : w.heap.size ≤ b1 := n3.eq ▸ E0.size
 have E5 := below_ext E0 E0.size n3.ext
 refine lw_v (.bool false) (dv_assign C) ?_
 refine lw_nil ?_
 refine rk_seq ?_
 refine rk_reg ?_
 refine lw_v (.string (bOf L)) (dv_move (T rfl rfl)) ?_
 refine lw_v (.string (bOf L)) (dv_assign (T rfl rfl)) ?_
 refine lw_v (.bool false) (dv_assign C) ?_
 refine lw_nil ?_
 refine rk_seq ?_
 refine rk_join (fun fr wl => ∃ (D : List Int) (ng : Bool), fr 0 = .string (bOf L) ∧ fr 2 = .pointer (some ⟨b1, 0, none⟩) ∧ fr 3 = .bool false ∧ fr 4 = .string (bOf D) ∧ fr 5 = .bool ng ∧ Below w.heap.size w wl ∧ wl.heap[b1]? = some (.cells #[.bool false, .slice none 0 0] 59) ∧ (digD L = D) ∧ (negD L = ng) ∧ (D.length ≤ L.length)) ?_ (fun hj8 => ?_)
 · intro fr9 w6 hI7
   obtain ⟨D, ng, f10, f11, f12, f13, f14, E15, H16, hD, hng, hDl⟩ := hI7
   refine rk_seq ?_
   refine rk_seq ?_
   refine rk_reg ?_
   refine lw_v (.string (bOf D)) (dv_move (T rfl f13)) ?_
   refine lw_v (.int .i64 ((D.length : Int))) (dv_lenS (L := D) ut9 (T rfl rfl)) ?_
   refine lw_v (.bool (decide (((D.length : Int)) = 0))) (dv_eql (a := (D.length : Int)) (b := 0) (T rfl rfl) C) ?_
   refine lw_v (.bool (decide (((D.length : Int)) = 0))) (dv_move (T rfl rfl)) ?_
   by_cases hb17 : ((D.length : Int)) = 0
   · refine lw_no (d := 22) rfl rfl (congrArg Value.bool (decide_eq_true hb17)) ?_
     refine lw_no (d := 22) rfl rfl (congrArg Value.bool (decide_eq_true hb17)) ?_
     refine lw_no (d := 22) rfl rfl (congrArg Value.bool (decide_eq_true hb17)) ?_
     refine lw_v (.bool true) (dv_pick_t (T rfl (congrArg Value.bool (decide_eq_true hb17))) C) ?_
     refine lw_nil ?_
     refine rk_ct (T rfl rfl) ?_
     refine rk_seq ?_
     refine rk_reg ?_
     refine lw_v (.agg #[.bool false, .slice none 0 0]) (dv_build (pv := []) (l := [.bool false, .slice none 0 0]) zc59 pl59 trivial rfl) ?_
     refine lw_e (oe_store (v := .agg #[.bool false, .slice none 0 0]) (vs := [.bool false, .slice none 0 0]) (l := [.bool false, .slice none 0 0]) (T rfl f11) (T rfl rfl) sz59 rfl rfl rfl H16 rfl ?_)
     intro w18 s19 H20
     have E21 := below_st E15 N4 s19
     refine lw_v (.bool false) (dv_assign C) ?_
     refine lw_nil ?_
     refine rk_ret Try.func59 (v := .tuple #[.agg #[.bool false, .slice none 0 0], .bool false]) (res2 Try.results59 (rv_cells (l := [.bool false, .slice none 0 0]) agt59 sz59 rfl f11 H20 rfl) (rv_tmp rfl rfl)) ⟨_, rfl, ?_⟩
     have hno : ¬ (canD L ∧ L.length ≤ 100) := (fun hh => by have h1 := (form_of_canD hh.1).1; rw [hD] at h1; have h2 := hh.2; omega)
     exact ⟨_, _, _, _, 0, tu2 rfl (vf hno), E21, Num.zero, fun hh => absurd hh hno⟩
   · refine lw_vy (.string (bOf L)) (d := 22) rfl rfl (congrArg Value.bool (decide_eq_false hb17)) (dv_move (T rfl f10)) ?_
     refine lw_vy (.int .i64 ((L.length : Int))) (d := 22) rfl rfl (congrArg Value.bool (decide_eq_false hb17)) (dv_lenS (L := L) ut9 (T rfl rfl)) ?_
     refine lw_vy (.bool (decide (100 < ((L.length : Int))))) (d := 22) rfl rfl (congrArg Value.bool (decide_eq_false hb17)) (dv_gtr (a := (L.length : Int)) (b := 100) (T rfl rfl) C) ?_
     refine lw_v (.bool (decide (100 < ((L.length : Int))))) (dv_pick_f (T rfl (congrArg Value.bool (decide_eq_false hb17))) (T rfl rfl)) ?_
     refine lw_nil ?_
     by_cases hb22 : 100 < ((L.length : Int))
     · refine rk_ct (T rfl (congrArg Value.bool (decide_eq_true hb22))) ?_
       refine rk_seq ?_
       refine rk_reg ?_
       refine lw_v (.agg #[.bool false, .slice none 0 0]) (dv_build (pv := []) (l := [.bool false, .slice none 0 0]) zc59 pl59 trivial rfl) ?_
       refine lw_e (oe_store (v := .agg #[.bool false, .slice none 0 0]) (vs := [.bool false, .slice none 0 0]) (l := [.bool false, .slice none 0 0]) (T rfl f11) (T rfl rfl) sz59 rfl rfl rfl H16 rfl ?_)
       intro w23 s24 H25
       have E26 := below_st E15 N4 s24
       refine lw_v (.bool false) (dv_assign C) ?_
       refine lw_nil ?_
       refine rk_ret Try.func59 (v := .tuple #[.agg #[.bool false, .slice none 0 0], .bool false]) (res2 Try.results59 (rv_cells (l := [.bool false, .slice none 0 0]) agt59 sz59 rfl f11 H25 rfl) (rv_tmp rfl rfl)) ⟨_, rfl, ?_⟩
       have hno : ¬ (canD L ∧ L.length ≤ 100) := (fun hh => by have h1 := (form_of_canD hh.1).1; rw [hD] at h1; have h2 := hh.2; omega)
       exact ⟨_, _, _, _, 0, tu2 rfl (vf hno), E26, Num.zero, fun hh => absurd hh hno⟩
     · refine rk_cf (T rfl (congrArg Value.bool (decide_eq_false hb22))) ?_
       refine rk_skip ?_
       refine rk_seq ?_
       refine rk_reg ?_
       refine lw_v (.agg #[.bool false, .slice none 0 0]) (dv_build (pv := []) (l := [.bool false, .slice none 0 0]) zc59 pl59 trivial rfl) ?_
       refine lw_e (oe_alloc ze59 ?_)
       intro b27 w28 n29
       have N30 : w.heap.size ≤ b27 := n29.eq ▸ E15.size
       have : b1 < b27 := n29.eq ▸ lt_of_blk H16
       have E31 := below_ext E15 E15.size n29.ext
       refine lw_e (oe_store (v := .agg #[.bool false, .slice none 0 0]) (vs := [.bool false, .slice none 0 0]) (l := [.bool false, .slice none 0 0]) (T rfl rfl) (T rfl rfl) sz59 rfl rfl rfl n29.blk rfl ?_)
       intro w32 s33 H34
       have E35 := below_st E31 N30 s33
       refine lw_nil ?_
       refine rk_seq ?_
       refine rk_seq ?_
       refine rk_reg ?_
       refine lw_v (.string (bOf D)) (dv_move (T rfl f13)) ?_
       refine lw_v (.int .i64 ((D.length : Int))) (dv_lenS (L := D) ut9 (T rfl rfl)) ?_
       refine lw_v (.int .i64 0) (dv_move C) ?_
       refine lw_nil ?_
       refine rk_block ?_
       have H36 := (s33.blk (n29.ext.blk H16) (by omega))
       refine rk_loop (fun dm_ fr wl => ∃ (i : Nat) (nz : Bool) (Az : Option Addr) (lz cz : Nat), dm_ = D.length - i ∧ fr 0 = .string (bOf L) ∧ fr 2 = .pointer (some ⟨b1, 0, none⟩) ∧ fr 4 = .string (bOf D) ∧ fr 5 = .bool ng ∧ fr 6 = .pointer (some ⟨b27, 0, none⟩) ∧ fr 30 = .int .i64 ((D.length : Int)) ∧ fr 31 = .int .i64 ((i : Int)) ∧ Below w.heap.size w wl ∧ wl.heap[b1]? = some (.cells #[.bool false, .slice none 0 0] 59) ∧ wl.heap[b27]? = some (.cells #[.bool nz, .slice Az lz cz] 59) ∧ Num 64 24 .u64 wl nz Az lz cz (valD (D.take i)) S ∧ (i ≤ D.length) ∧ (∀ c ∈ D.take i, isD c)) (D.length - 0) ⟨0, false, none, 0, 0, rfl, f10, f11, f13, f14, rfl, rfl, (vi (by omega)), E35, H36, H34, Num.zero, (Nat.zero_le _), (fun c hc => by cases hc)⟩ ?_
       intro d41 fr40 w37 hI38 ih39
       obtain ⟨i, nz, Az, lz, cz, hd53, f42, f43, f44, f45, f46, f47, f48, E49, H50, H51, h52, hi, hdg⟩ := hI38
       have lh52 := Num.len (by decide) h52
       refine rk_seq ?_
       refine rk_reg ?_
       refine lw_v (.bool (decide (((i : Int)) < ((D.length : Int))))) (dv_lss (a := (i : Int)) (b := (D.length : Int)) (T rfl f48) (T rfl f47)) ?_
       refine lw_nil ?_
       refine rk_seq ?_
       by_cases hb54 : ((i : Int)) < ((D.length : Int))
       · refine rk_ct (T rfl (congrArg Value.bool (decide_eq_true hb54))) ?_
         refine rk_skip ?_
         refine rk_seq ?_
         refine rk_block ?_
         refine rk_seq ?_
         refine rk_reg ?_
         refine lw_v (.int .i64 ((i : Int))) (dv_move (T rfl f48)) ?_
         refine lw_v (.int .i64 ((i : Int))) (dv_assign (T rfl rfl)) ?_
         refine lw_nil ?_
         refine rk_seq ?_
         refine rk_seq ?_
         refine rk_reg ?_
         refine lw_v (.string (bOf D)) (dv_move (T rfl f44)) ?_
         refine lw_v (.int .i64 ((i : Int))) (dv_move (T rfl rfl)) ?_
         have bg55 := okW.getD (okD hD hL) (by decide) i
         refine lw_v (.int .u8 (D.getD i 0)) (dv_indexS (L := D) (i := i) (j := (i : Int)) ut9 (T rfl rfl) (T rfl rfl) (okD hD hL) (by omega) (by first | omega | (simp; done) | (simp; omega))) ?_
         refine lw_v (.bool (decide ((D.getD i 0) < 48))) (dv_lss (a := D.getD i 0) (b := 48) (T rfl rfl) C) ?_
         refine lw_v (.bool (decide ((D.getD i 0) < 48))) (dv_move (T rfl rfl)) ?_
         by_cases hb56 : (D.getD i 0) < 48
         · refine lw_no (d := 38) rfl rfl (congrArg Value.bool (decide_eq_true hb56)) ?_
           refine lw_no (d := 38) rfl rfl (congrArg Value.bool (decide_eq_true hb56)) ?_
           refine lw_no (d := 38) rfl rfl (congrArg Value.bool (decide_eq_true hb56)) ?_
           refine lw_no (d := 38) rfl rfl (congrArg Value.bool (decide_eq_true hb56)) ?_
           refine lw_v (.bool true) (dv_pick_t (T rfl (congrArg Value.bool (decide_eq_true hb56))) C) ?_
           refine lw_nil ?_
           refine rk_ct (T rfl rfl) ?_
           refine rk_seq ?_
           refine rk_reg ?_
           refine lw_v (.agg #[.bool false, .slice none 0 0]) (dv_build (pv := []) (l := [.bool false, .slice none 0 0]) zc59 pl59 trivial rfl) ?_
           refine lw_e (oe_store (v := .agg #[.bool false, .slice none 0 0]) (vs := [.bool false, .slice none 0 0]) (l := [.bool false, .slice none 0 0]) (T rfl f43) (T rfl rfl) sz59 rfl rfl rfl H50 rfl ?_)
           intro w57 s58 H59
           have E60 := below_st E49 N4 s58
           refine lw_v (.bool false) (dv_assign C) ?_
           refine lw_nil ?_
           refine rk_ret Try.func59 (v := .tuple #[.agg #[.bool false, .slice none 0 0], .bool false]) (res2 Try.results59 (rv_cells (l := [.bool false, .slice none 0 0]) agt59 sz59 rfl f43 H59 rfl) (rv_tmp rfl rfl)) ⟨_, rfl, ?_⟩
           have hno : ¬ (canD L ∧ L.length ≤ 100) := (fun hh => not_formD hD (i := i) (by omega) (fun hd => by unfold isD at hd; omega) (form_of_canD hh.1))
           exact ⟨_, _, _, _, 0, tu2 rfl (vf hno), E60, Num.zero, fun hh => absurd hh hno⟩
         · refine lw_vy (.string (bOf D)) (d := 38) rfl rfl (congrArg Value.bool (decide_eq_false hb56)) (dv_move (T rfl f44)) ?_
           refine lw_vy (.int .i64 ((i : Int))) (d := 38) rfl rfl (congrArg Value.bool (decide_eq_false hb56)) (dv_move (T rfl rfl)) ?_
           have bg61 := okW.getD (okD hD hL) (by decide) i
           refine lw_vy (.int .u8 (D.getD i 0)) (d := 38) rfl rfl (congrArg Value.bool (decide_eq_false hb56)) (dv_indexS (L := D) (i := i) (j := (i : Int)) ut9 (T rfl rfl) (T rfl rfl) (okD hD hL) (by omega) (by first | omega | (simp; done) | (simp; omega))) ?_
           refine lw_vy (.bool (decide (57 < (D.getD i 0)))) (d := 38) rfl rfl (congrArg Value.bool (decide_eq_false hb56)) (dv_gtr (a := D.getD i 0) (b := 57) (T rfl rfl) C) ?_
           refine lw_v (.bool (decide (57 < (D.getD i 0)))) (dv_pick_f (T rfl (congrArg Value.bool (decide_eq_false hb56))) (T rfl rfl)) ?_
           refine lw_nil ?_
           by_cases hb62 : 57 < (D.getD i 0)
           · refine rk_ct (T rfl (congrArg Value.bool (decide_eq_true hb62))) ?_
             refine rk_seq ?_
             refine rk_reg ?_
             refine lw_v (.agg #[.bool false, .slice none 0 0]) (dv_build (pv := []) (l := [.bool false, .slice none 0 0]) zc59 pl59 trivial rfl) ?_
             refine lw_e (oe_store (v := .agg #[.bool false, .slice none 0 0]) (vs := [.bool false, .slice none 0 0]) (l := [.bool false, .slice none 0 0]) (T rfl f43) (T rfl rfl) sz59 rfl rfl rfl H50 rfl ?_)
             intro w63 s64 H65
             have E66 := below_st E49 N4 s64
             refine lw_v (.bool false) (dv_assign C) ?_
             refine lw_nil ?_
             refine rk_ret Try.func59 (v := .tuple #[.agg #[.bool false, .slice none 0 0], .bool false]) (res2 Try.results59 (rv_cells (l := [.bool false, .slice none 0 0]) agt59 sz59 rfl f43 H65 rfl) (rv_tmp rfl rfl)) ⟨_, rfl, ?_⟩
             have hno : ¬ (canD L ∧ L.length ≤ 100) := (fun hh => not_formD hD (i := i) (by omega) (fun hd => by unfold isD at hd; omega) (form_of_canD hh.1))
             exact ⟨_, _, _, _, 0, tu2 rfl (vf hno), E66, Num.zero, fun hh => absurd hh hno⟩
           · refine rk_cf (T rfl (congrArg Value.bool (decide_eq_false hb62))) ?_
             refine rk_skip ?_
             refine rk_any (fun w => w.heap[b27]? = some (.cells #[.bool nz, .slice Az lz cz] 59)) [10] mo ?_
             intro w67 d68
             have E69 := below_ext E49 E49.size d68.ext
             have H70 := (d68.ext.blk H51)
             refine aw_load 0 (.agg #[.bool nz, .slice Az lz cz]) rfl (by kernel_rfl) .none H70 (fun _ s => dv_loads (l := [.bool nz, .slice Az lz cz]) agt59 sz59 (T rfl f46) s rfl) ?_
             refine aw_pure 3 (.string (bOf D)) rfl (by kernel_rfl) .none H70 (fun _ => dv_move (T rfl f44)) ?_
             refine aw_pure 4 (.int .i64 ((i : Int))) rfl (by kernel_rfl) .none H70 (fun _ => dv_move (T rfl rfl)) ?_
             have bg71 := okW.getD (okD hD hL) (by decide) i
             refine aw_pure 5 (.int .u8 (D.getD i 0)) rfl (by kernel_rfl) .none H70 (fun _ => dv_indexS (L := D) (i := i) (j := (i : Int)) ut9 (T rfl rfl) (T rfl rfl) (okD hD hL) (by omega) (by first | omega | (simp; done) | (simp; omega))) ?_
             refine aw_pure 6 (.int .u8 ((D.getD i 0) - 48)) rfl (by kernel_rfl) .none H70 (fun _ => dv_sub (a := D.getD i 0) (b := 48) (z := (D.getD i 0) - 48) (T rfl rfl) C (wn_u8 (by omega) (by omega))) ?_
             refine aw_pure 7 (.int .i64 ((D.getD i 0) - 48)) rfl (by kernel_rfl) .none H70 (fun _ => dv_conv (a := (D.getD i 0) - 48) (z := (D.getD i 0) - 48) ui5 ui2 (T rfl rfl) (wr_i64 (by omega) (by omega))) ?_
             refine aw_one 1 rfl (by kernel_rfl) .none (oe_callf (vs := [.int .i64 10]) co57 (ar1 C) (whole_ok  (by omega)) ?_)
             rintro _ w77 ⟨nr72, A73, n74, c75, rfl, e78, h76⟩
             have E79 := below_ext E69 E69.size e78
             have lh76 := Num.len (by decide) h76
             have H80 := (e78.blk H70)
             refine ⟨.inr H80, ?_⟩
             have h81 := ((h52.ext d68.ext).ext e78)
             refine aw_one 2 rfl (by kernel_rfl) .none (oe_callf (vs := [.agg #[.bool nz, .slice Az lz cz], .agg #[.bool nr72, .slice A73 n74 c75]]) co56 (ar2 (T rfl rfl) (T rfl rfl)) (nby_ok h81 h76 (by first | decide | omega) (by first | decide | omega)) ?_)
             rintro _ w87 ⟨nr82, A83, n84, c85, rfl, e88, h86⟩
             have E89 := below_ext E79 E79.size e88
             have lh86 := Num.len (by decide) h86
             have H90 := (e88.blk H80)
             refine ⟨.inr H90, ?_⟩
             refine aw_one 8 rfl (by kernel_rfl) .none (oe_callf (vs := [.int .i64 ((D.getD i 0) - 48)]) co57 (ar1 (T rfl rfl)) (whole_ok  (by omega)) ?_)
             rintro _ w96 ⟨nr91, A92, n93, c94, rfl, e97, h95⟩
             have E98 := below_ext E89 E89.size e97
             have lh95 := Num.len (by decide) h95
             have H99 := (e97.blk H90)
             refine ⟨.inr H99, ?_⟩
             have h100 := (h86.ext e97)
             refine aw_one 9 rfl (by kernel_rfl) .none (oe_callf (vs := [.agg #[.bool nr82, .slice A83 n84 c85], .agg #[.bool nr91, .slice A92 n93 c94]]) co53 (ar2 (T rfl rfl) (T rfl rfl)) (plus_ok h100 h95 (by first | decide | omega) (by first | decide | omega)) ?_)
             rintro _ w106 ⟨nr101, A102, n103, c104, rfl, e107, h105⟩
             have E108 := below_ext E98 E98.size e107
             have lh105 := Num.len (by decide) h105
             have H109 := (e107.blk H99)
             refine ⟨.inr H109, ?_⟩
             refine aw_one 10 rfl (by kernel_rfl) .none (oe_store (v := .agg #[.bool nr101, .slice A102 n103 c104]) (vs := [.bool nr101, .slice A102 n103 c104]) (l := [.bool nr101, .slice A102 n103 c104]) (T rfl f46) (T rfl rfl) sz59 rfl rfl rfl H109 rfl ?_)
             intro w110 s111 H112
             have E113 := below_st E108 N30 s111
             refine ⟨.inl rfl, ?_⟩
             refine aw_done (by kernel_rfl) ?_
             refine rk_inBlock ?_
             refine rk_reg ?_
             refine lw_v (.int .i64 (((i : Int)) + 1)) (dv_add (a := (i : Int)) (b := 1) (z := ((i : Int)) + 1) (T rfl f48) C (wr_i64 (by omega) (by omega))) ?_
             refine lw_v (.int .i64 (((i : Int)) + 1)) (dv_move (T rfl rfl)) ?_
             refine lw_nil ?_
             have h114 := (h105.st s111 H109 (by decide))
             have hd115 : ∀ c ∈ D.take (i + 1), isD c := isD_take (by omega) hdg ⟨by omega, by omega⟩
             have H116 := (s111.blk (e107.blk (e97.blk (e88.blk (e78.blk (d68.ext.blk H50))))) (by omega))
             exact ih39 (D.length - ((i + 1))) _ _ (by rw [hd53]; omega) ⟨(i + 1), nr101, A102, n103, c104, rfl, f42, f43, f44, f45, f46, f47, (vi (by omega)), E113, H116, H112, (h114.tight (valD_take (by omega)).symm (valD_sz hd115 (by simp; omega))), (by omega), hd115⟩
       · refine rk_cf (T rfl (congrArg Value.bool (decide_eq_false hb54))) ?_
         refine rk_exit rfl ?_
         refine rk_seq ?_
         refine rk_reg ?_
         refine lw_v (.bool ng) (dv_move (T rfl f45)) ?_
         refine lw_v (.pointer (some ⟨b27, 1, none⟩)) (dv_fieldAddr (a := ⟨b27, 0, none⟩) (a' := ⟨b27, 1, none⟩) fo59_1 (T rfl f46) rfl) ?_
         refine lw_v (.slice Az lz cz) (dv_load1 (b := b27) (o := 1) agt57 (T rfl rfl) H51 rfl) ?_
         refine lw_e (oe_callf (vs := [.bool ng, .slice Az lz cz]) co81 (ar2 (T rfl rfl) (T rfl rfl)) (made_num (s := S) (neg := ng) h52.wc.ws (by first | omega | (simp; done) | (simp; omega)) h52.ltI) ?_)
         rintro _ w120 ⟨nb117, n118, rfl, e121, hn119⟩
         have E122 := below_ext E49 E49.size e121
         have lhn119 := Num.len (by decide) hn119
         have H123 := (e121.blk H51)
         refine lw_e (oe_store (v := .agg #[.bool nb117, .slice Az n118 cz]) (vs := [.bool nb117, .slice Az n118 cz]) (l := [.bool nb117, .slice Az n118 cz]) (T rfl f46) (T rfl rfl) sz59 rfl rfl rfl H123 rfl ?_)
         intro w124 s125 H126
         have E127 := below_st E122 N30 s125
         refine lw_nil ?_
         refine rk_seq ?_
         refine rk_any (fun w => w.heap[b27]? = some (.cells #[.bool nb117, .slice Az n118 cz] 59)) [6] mo ?_
         intro w128 d129
         have E130 := below_ext E127 E127.size d129.ext
         have H131 := (d129.ext.blk H126)
         refine aw_load 0 (.agg #[.bool nb117, .slice Az n118 cz]) rfl (by kernel_rfl) .none H131 (fun _ s => dv_loads (l := [.bool nb117, .slice Az n118 cz]) agt59 sz59 (T rfl f46) s rfl) ?_
         refine aw_load 1 (.agg #[.bool nb117, .slice Az n118 cz]) rfl (by kernel_rfl) .none H131 (fun _ s => dv_loads (l := [.bool nb117, .slice Az n118 cz]) agt59 sz59 (T rfl f46) s rfl) ?_
         refine aw_pure 3 (.string (bOf L)) rfl (by kernel_rfl) .none H131 (fun _ => dv_move (T rfl f42)) ?_
         have h132 := ((hn119.st s125 H123 (by decide)).ext d129.ext)
         refine aw_one 2 rfl (by kernel_rfl) .none (oe_callf (vs := [.agg #[.bool nb117, .slice Az n118 cz]]) co66 (ar1 (T rfl rfl)) (ntext_ok h132 (by first | decide | omega)) ?_)
         rintro _ w134 ⟨rfl, e135⟩
         have E136 := below_ext E130 E130.size e135
         have ht133 := txt_len (h132).lt
         have H137 := (e135.blk H131)
         refine ⟨.inr H137, ?_⟩
         refine aw_pure 4 (.bool (decide ((((txtL (sg ng (((valD (D.take i)).natAbs : Int))))) : List Int) = L))) rfl (by kernel_rfl) .none H137 (fun _ => dv_eqS (L := (txtL (sg ng (((valD (D.take i)).natAbs : Int))))) (M := L) (T rfl rfl) (T rfl rfl) ((okC_txt _)) ((hL))) ?_
         have H138 := (e135.blk (d129.ext.blk (s125.blk (e121.blk H50) (by omega))))
         refine aw_one 5 rfl (by kernel_rfl) .none (oe_store (v := .agg #[.bool nb117, .slice Az n118 cz]) (vs := [.bool nb117, .slice Az n118 cz]) (l := [.bool nb117, .slice Az n118 cz]) (T rfl f43) (T rfl rfl) sz59 rfl rfl rfl H138 rfl ?_)
         intro w139 s140 H141
         have E142 := below_st E136 N4 s140
         have H143 := (s140.blk H137 (by omega))
         refine ⟨.inr H143, ?_⟩
         refine aw_last 6 (.bool (decide ((((txtL (sg ng (((valD (D.take i)).natAbs : Int))))) : List Int) = L))) rfl (by kernel_rfl) .none (fun _ => dv_assign (T rfl rfl)) ?_
         refine aw_done (by kernel_rfl) ?_
         refine rk_ret Try.func59 (v := .tuple #[.agg #[.bool nb117, .slice Az n118 cz], .bool (decide ((((txtL (sg ng (((valD (D.take i)).natAbs : Int))))) : List Int) = L))]) (res2 Try.results59 (rv_cells (l := [.bool nb117, .slice Az n118 cz]) agt59 sz59 rfl f43 H141 rfl) (rv_tmp rfl rfl)) ⟨_, rfl, ?_⟩
         have h144 := ((h132.ext e135).st s140 H138 (by decide))
         obtain ⟨hz1, hz2⟩ := numD_of (i := i) hD hng (by omega) hdg
         exact ⟨_, _, _, _, _, tu2 rfl (vb (by rw [hz1]; exact ⟨fun hh => ⟨hh, by omega⟩, fun hh => hh.1⟩)), E142, h144, fun _ => hz1⟩
 · refine rk_seq ?_
   refine rk_reg ?_
   refine lw_v (.string (bOf L)) (dv_move (T rfl rfl)) ?_
   refine lw_v (.int .i64 ((L.length : Int))) (dv_lenS (L := L) ut9 (T rfl rfl)) ?_
   refine lw_v (.bool (decide (0 < ((L.length : Int))))) (dv_gtr (a := (L.length : Int)) (b := 0) (T rfl rfl) C) ?_
   refine lw_v (.bool (decide (0 < ((L.length : Int))))) (dv_move (T rfl rfl)) ?_
   by_cases hb145 : 0 < ((L.length : Int))
   · refine lw_vy (.string (bOf L)) (d := 12) rfl rfl (congrArg Value.bool (decide_eq_true hb145)) (dv_move (T rfl rfl)) ?_
     have bg146 := okW.getD (hL) (by decide) 0
     refine lw_vy (.int .u8 (L.getD 0 0)) (d := 12) rfl rfl (congrArg Value.bool (decide_eq_true hb145)) (dv_indexS (L := L) (i := 0) (j := 0) ut9 (T rfl rfl) C (hL) (by omega) (by first | omega | (simp; done) | (simp; omega))) ?_
     refine lw_vy (.bool (decide ((L.getD 0 0) = 45))) (d := 12) rfl rfl (congrArg Value.bool (decide_eq_true hb145)) (dv_eql (a := L.getD 0 0) (b := 45) (T rfl rfl) C) ?_
     refine lw_v (.bool (decide ((L.getD 0 0) = 45))) (dv_pick_t (T rfl (congrArg Value.bool (decide_eq_true hb145))) (T rfl rfl)) ?_
     refine lw_nil ?_
     by_cases hb147 : (L.getD 0 0) = 45
     · refine rk_ct (T rfl (congrArg Value.bool (decide_eq_true hb147))) ?_
       refine rk_reg ?_
       refine lw_v (.string (bOf L)) (dv_move (T rfl rfl)) ?_
       refine lw_v (.string (bOf (L.drop 1))) (dv_sliceSl (L := L) (i := 1) (j := 1) ut9 (T rfl rfl) C (by omega) (by first | omega | (simp; done) | (simp; omega))) ?_
       refine lw_v (.string (bOf (L.drop 1))) (dv_assign (T rfl rfl)) ?_
       refine lw_v (.bool true) (dv_assign C) ?_
       refine lw_nil ?_
       exact hj8 _ _ ⟨(L.drop 1), true, rfl, rfl, rfl, rfl, rfl, E5, n3.blk, (digD_t (by assumption)).1, (digD_t (by assumption)).2, (by simp)⟩
     · refine rk_cf (T rfl (congrArg Value.bool (decide_eq_false hb147))) ?_
       refine rk_skip ?_
       exact hj8 _ _ ⟨L, false, rfl, rfl, rfl, rfl, rfl, E5, n3.blk, (digD_f (by assumption)).1, (digD_f (by assumption)).2, (Nat.le_refl _)⟩
   · refine lw_no (d := 12) rfl rfl (congrArg Value.bool (decide_eq_false hb145)) ?_
     refine lw_no (d := 12) rfl rfl (congrArg Value.bool (decide_eq_false hb145)) ?_
     refine lw_no (d := 12) rfl rfl (congrArg Value.bool (decide_eq_false hb145)) ?_
     refine lw_v (.bool false) (dv_pick_f (T rfl (congrArg Value.bool (decide_eq_false hb145))) C) ?_
     refine lw_nil ?_
     refine rk_cf (T rfl rfl) ?_
     refine rk_skip ?_
     exact hj8 _ _ ⟨L, false, rfl, rfl, rfl, rfl, rfl, E5, n3.blk, (digD_f (getD0 (by assumption))).1, (digD_f (getD0 (by assumption))).2, (Nat.le_refl _)⟩
set_option maxHeartbeats 1000000 in
theorem l1Read_ok {w : World} {L : List Int} {S : Nat} (hL : okW 256 L) (hl : L.length ≤ 1048576) (hS : 400 ≤ S ∧ S ≤ 1000) : Ct Try.prog 58 [.string (bOf L), .int .i64 77] w fun v w1 => ∃ nr A' n c' z, v = .tuple #[.agg #[.bool nr, .slice A' n c'], .bool (decide (formD L ∧ (digD L).length ≤ 77))] ∧ Ext w w1 ∧ Num 32 95 .u32 w1 nr A' n c' z S ∧ (formD L ∧ (digD L).length ≤ 77 → z = numD L) := by
 refine ct_run (n := 77) Try.func58 rfl Try.ntmps58 rfl ?_
 have E0 : Below w.heap.size w w := Below.refl _ _
 refine rk_seq ?_
 refine rk_reg ?_
 refine lw_e (oe_alloc ze65 ?_)
 intro b1 w2 n3
 have N4 : w.heap.size ≤ b1 := n3.eq ▸ E0.size
 have E5 := below_ext E0 E0.size n3.ext
 refine lw_v (.bool false) (dv_assign C) ?_
 refine lw_nil ?_
 refine rk_seq ?_
 refine rk_reg ?_
 refine lw_v (.string (bOf L)) (dv_move (T rfl rfl)) ?_
 refine lw_v (.string (bOf L)) (dv_assign (T rfl rfl)) ?_
 refine lw_nil ?_
 refine rk_seq ?_
 refine rk_reg ?_
 refine lw_v (.string (bOf L)) (dv_move (T rfl rfl)) ?_
 refine lw_v (.int .i64 ((L.length : Int))) (dv_lenS (L := L) ut9 (T rfl rfl)) ?_
 refine lw_v (.bool (decide (0 < ((L.length : Int))))) (dv_gtr (a := (L.length : Int)) (b := 0) (T rfl rfl) C) ?_
 refine lw_v (.bool (decide (0 < ((L.length : Int))))) (dv_move (T rfl rfl)) ?_
 by_cases hb6 : 0 < ((L.length : Int))
 · refine lw_vy (.string (bOf L)) (d := 14) rfl rfl (congrArg Value.bool (decide_eq_true hb6)) (dv_move (T rfl rfl)) ?_
   have bg7 := okW.getD (hL) (by decide) 0
   refine lw_vy (.int .u8 (L.getD 0 0)) (d := 14) rfl rfl (congrArg Value.bool (decide_eq_true hb6)) (dv_indexS (L := L) (i := 0) (j := 0) ut9 (T rfl rfl) C (hL) (by omega) (by first | omega | (simp; done) | (simp; omega))) ?_
   refine lw_vy (.bool (decide ((L.getD 0 0) = 45))) (d := 14) rfl rfl (congrArg Value.bool (decide_eq_true hb6)) (dv_eql (a := L.getD 0 0) (b := 45) (T rfl rfl) C) ?_
   refine lw_v (.bool (decide ((L.getD 0 0) = 45))) (dv_pick_t (T rfl (congrArg Value.bool (decide_eq_true hb6))) (T rfl rfl)) ?_
   refine lw_v (.bool (decide ((L.getD 0 0) = 45))) (dv_assign (T rfl rfl)) ?_
   refine lw_nil ?_
   refine rk_seq ?_
   refine rk_join (fun fr wl => ∃ (D : List Int) (ng : Bool), fr 1 = .int .i64 77 ∧ fr 4 = .pointer (some ⟨b1, 0, none⟩) ∧ fr 5 = .bool false ∧ fr 6 = .string (bOf D) ∧ fr 7 = .bool ng ∧ Below w.heap.size w wl ∧ wl.heap[b1]? = some (.cells #[.bool false, .slice none 0 0] 65) ∧ (digD L = D) ∧ (negD L = ng) ∧ (D.length ≤ L.length)) ?_ (fun hj10 => ?_)
   · intro fr11 w8 hI9
     obtain ⟨D, ng, f12, f13, f14, f15, f16, E17, H18, hD, hng, hDl⟩ := hI9
     refine rk_seq ?_
     refine rk_seq ?_
     refine rk_reg ?_
     refine lw_v (.string (bOf D)) (dv_move (T rfl f15)) ?_
     refine lw_v (.int .i64 ((D.length : Int))) (dv_lenS (L := D) ut9 (T rfl rfl)) ?_
     refine lw_v (.bool (decide (((D.length : Int)) < 1))) (dv_lss (a := (D.length : Int)) (b := 1) (T rfl rfl) C) ?_
     refine lw_v (.bool (decide (((D.length : Int)) < 1))) (dv_move (T rfl rfl)) ?_
     by_cases hb19 : ((D.length : Int)) < 1
     · refine lw_no (d := 25) rfl rfl (congrArg Value.bool (decide_eq_true hb19)) ?_
       refine lw_no (d := 25) rfl rfl (congrArg Value.bool (decide_eq_true hb19)) ?_
       refine lw_no (d := 25) rfl rfl (congrArg Value.bool (decide_eq_true hb19)) ?_
       refine lw_no (d := 25) rfl rfl (congrArg Value.bool (decide_eq_true hb19)) ?_
       refine lw_v (.bool true) (dv_pick_t (T rfl (congrArg Value.bool (decide_eq_true hb19))) C) ?_
       refine lw_v (.bool true) (dv_move (T rfl rfl)) ?_
       refine lw_no (d := 31) rfl rfl (rfl) ?_
       refine lw_no (d := 31) rfl rfl (rfl) ?_
       refine lw_no (d := 31) rfl rfl (rfl) ?_
       refine lw_no (d := 31) rfl rfl (rfl) ?_
       refine lw_nou (d := 35) rfl rfl ?_
       refine lw_nou (d := 35) rfl rfl ?_
       refine lw_nou (d := 37) rfl rfl ?_
       refine lw_nou (d := 37) rfl rfl ?_
       refine lw_nou (d := 37) rfl rfl ?_
       refine lw_nou (d := 35) rfl rfl ?_
       refine lw_no (d := 31) rfl rfl (rfl) ?_
       refine lw_v (.bool true) (dv_pick_t (T rfl rfl) C) ?_
       refine lw_nil ?_
       refine rk_ct (T rfl rfl) ?_
       refine rk_seq ?_
       refine rk_reg ?_
       refine lw_v (.agg #[.bool false, .slice none 0 0]) (dv_build (pv := []) (l := [.bool false, .slice none 0 0]) zc65 pl65 trivial rfl) ?_
       refine lw_e (oe_store (v := .agg #[.bool false, .slice none 0 0]) (vs := [.bool false, .slice none 0 0]) (l := [.bool false, .slice none 0 0]) (T rfl f13) (T rfl rfl) sz65 rfl rfl rfl H18 rfl ?_)
       intro w20 s21 H22
       have E23 := below_st E17 N4 s21
       refine lw_v (.bool false) (dv_assign C) ?_
       refine lw_nil ?_
       refine rk_ret Try.func58 (v := .tuple #[.agg #[.bool false, .slice none 0 0], .bool false]) (res2 Try.results58 (rv_cells (l := [.bool false, .slice none 0 0]) agt65 sz65 rfl f13 H22 rfl) (rv_tmp rfl rfl)) ⟨_, rfl, ?_⟩
       have hno : ¬ (formD L ∧ (digD L).length ≤ 77) := (fun hh => by have h1 := (formD_iff hD hng).1 hh.1; have h2 := hh.2; rw [hD] at h2; first | omega | (have h3 := h1.2.2 (by assumption); first | omega | (have h4 := h3.1; simp_all)))
       exact ⟨_, _, _, _, 0, tu2 rfl (vf hno), E23, Num.zero, fun hh => absurd hh hno⟩
     · refine lw_vy (.string (bOf D)) (d := 25) rfl rfl (congrArg Value.bool (decide_eq_false hb19)) (dv_move (T rfl f15)) ?_
       refine lw_vy (.int .i64 ((D.length : Int))) (d := 25) rfl rfl (congrArg Value.bool (decide_eq_false hb19)) (dv_lenS (L := D) ut9 (T rfl rfl)) ?_
       refine lw_vy (.int .i64 77) (d := 25) rfl rfl (congrArg Value.bool (decide_eq_false hb19)) (dv_move (T rfl f12)) ?_
       refine lw_vy (.bool (decide (77 < ((D.length : Int))))) (d := 25) rfl rfl (congrArg Value.bool (decide_eq_false hb19)) (dv_gtr (a := (D.length : Int)) (b := 77) (T rfl rfl) (T rfl rfl)) ?_
       refine lw_v (.bool (decide (77 < ((D.length : Int))))) (dv_pick_f (T rfl (congrArg Value.bool (decide_eq_false hb19))) (T rfl rfl)) ?_
       refine lw_v (.bool (decide (77 < ((D.length : Int))))) (dv_move (T rfl rfl)) ?_
       by_cases hb24 : 77 < ((D.length : Int))
       · refine lw_no (d := 31) rfl rfl (congrArg Value.bool (decide_eq_true hb24)) ?_
         refine lw_no (d := 31) rfl rfl (congrArg Value.bool (decide_eq_true hb24)) ?_
         refine lw_no (d := 31) rfl rfl (congrArg Value.bool (decide_eq_true hb24)) ?_
         refine lw_no (d := 31) rfl rfl (congrArg Value.bool (decide_eq_true hb24)) ?_
         refine lw_nou (d := 35) rfl rfl ?_
         refine lw_nou (d := 35) rfl rfl ?_
         refine lw_nou (d := 37) rfl rfl ?_
         refine lw_nou (d := 37) rfl rfl ?_
         refine lw_nou (d := 37) rfl rfl ?_
         refine lw_nou (d := 35) rfl rfl ?_
         refine lw_no (d := 31) rfl rfl (congrArg Value.bool (decide_eq_true hb24)) ?_
         refine lw_v (.bool true) (dv_pick_t (T rfl (congrArg Value.bool (decide_eq_true hb24))) C) ?_
         refine lw_nil ?_
         refine rk_ct (T rfl rfl) ?_
         refine rk_seq ?_
         refine rk_reg ?_
         refine lw_v (.agg #[.bool false, .slice none 0 0]) (dv_build (pv := []) (l := [.bool false, .slice none 0 0]) zc65 pl65 trivial rfl) ?_
         refine lw_e (oe_store (v := .agg #[.bool false, .slice none 0 0]) (vs := [.bool false, .slice none 0 0]) (l := [.bool false, .slice none 0 0]) (T rfl f13) (T rfl rfl) sz65 rfl rfl rfl H18 rfl ?_)
         intro w25 s26 H27
         have E28 := below_st E17 N4 s26
         refine lw_v (.bool false) (dv_assign C) ?_
         refine lw_nil ?_
         refine rk_ret Try.func58 (v := .tuple #[.agg #[.bool false, .slice none 0 0], .bool false]) (res2 Try.results58 (rv_cells (l := [.bool false, .slice none 0 0]) agt65 sz65 rfl f13 H27 rfl) (rv_tmp rfl rfl)) ⟨_, rfl, ?_⟩
         have hno : ¬ (formD L ∧ (digD L).length ≤ 77) := (fun hh => by have h1 := (formD_iff hD hng).1 hh.1; have h2 := hh.2; rw [hD] at h2; first | omega | (have h3 := h1.2.2 (by assumption); first | omega | (have h4 := h3.1; simp_all)))
         exact ⟨_, _, _, _, 0, tu2 rfl (vf hno), E28, Num.zero, fun hh => absurd hh hno⟩
       · refine lw_vy (.string (bOf D)) (d := 31) rfl rfl (congrArg Value.bool (decide_eq_false hb24)) (dv_move (T rfl f15)) ?_
         have bg29 := okW.getD (okD hD hL) (by decide) 0
         refine lw_vy (.int .u8 (D.getD 0 0)) (d := 31) rfl rfl (congrArg Value.bool (decide_eq_false hb24)) (dv_indexS (L := D) (i := 0) (j := 0) ut9 (T rfl rfl) C (okD hD hL) (by omega) (by first | omega | (simp; done) | (simp; omega))) ?_
         refine lw_vy (.bool (decide ((D.getD 0 0) = 48))) (d := 31) rfl rfl (congrArg Value.bool (decide_eq_false hb24)) (dv_eql (a := D.getD 0 0) (b := 48) (T rfl rfl) C) ?_
         refine lw_vy (.bool (decide ((D.getD 0 0) = 48))) (d := 31) rfl rfl (congrArg Value.bool (decide_eq_false hb24)) (dv_move (T rfl rfl)) ?_
         by_cases hb30 : (D.getD 0 0) = 48
         · refine lw_vy (.bool ng) (d := 35) rfl rfl (congrArg Value.bool (decide_eq_true hb30)) (dv_move (T rfl f16)) ?_
           refine lw_vy (.bool ng) (d := 35) rfl rfl (congrArg Value.bool (decide_eq_true hb30)) (dv_move (T rfl rfl)) ?_
           rcases Bool.eq_false_or_eq_true (ng) with hb31 | hb31
           · refine lw_no (d := 37) rfl rfl (congrArg Value.bool hb31) ?_
             refine lw_no (d := 37) rfl rfl (congrArg Value.bool hb31) ?_
             refine lw_no (d := 37) rfl rfl (congrArg Value.bool hb31) ?_
             refine lw_vy (.bool true) (d := 35) rfl rfl (congrArg Value.bool (decide_eq_true hb30)) (dv_pick_t (T rfl (congrArg Value.bool hb31)) C) ?_
             refine lw_vy (.bool true) (d := 31) rfl rfl (congrArg Value.bool (decide_eq_false hb24)) (dv_pick_t (T rfl (congrArg Value.bool (decide_eq_true hb30))) (T rfl rfl)) ?_
             refine lw_v (.bool true) (dv_pick_f (T rfl (congrArg Value.bool (decide_eq_false hb24))) (T rfl rfl)) ?_
             refine lw_nil ?_
             refine rk_ct (T rfl rfl) ?_
             refine rk_seq ?_
             refine rk_reg ?_
             refine lw_v (.agg #[.bool false, .slice none 0 0]) (dv_build (pv := []) (l := [.bool false, .slice none 0 0]) zc65 pl65 trivial rfl) ?_
             refine lw_e (oe_store (v := .agg #[.bool false, .slice none 0 0]) (vs := [.bool false, .slice none 0 0]) (l := [.bool false, .slice none 0 0]) (T rfl f13) (T rfl rfl) sz65 rfl rfl rfl H18 rfl ?_)
             intro w32 s33 H34
             have E35 := below_st E17 N4 s33
             refine lw_v (.bool false) (dv_assign C) ?_
             refine lw_nil ?_
             refine rk_ret Try.func58 (v := .tuple #[.agg #[.bool false, .slice none 0 0], .bool false]) (res2 Try.results58 (rv_cells (l := [.bool false, .slice none 0 0]) agt65 sz65 rfl f13 H34 rfl) (rv_tmp rfl rfl)) ⟨_, rfl, ?_⟩
             have hno : ¬ (formD L ∧ (digD L).length ≤ 77) := (fun hh => by have h1 := (formD_iff hD hng).1 hh.1; have h2 := hh.2; rw [hD] at h2; first | omega | (have h3 := h1.2.2 (by assumption); first | omega | (have h4 := h3.1; simp_all)))
             exact ⟨_, _, _, _, 0, tu2 rfl (vf hno), E35, Num.zero, fun hh => absurd hh hno⟩
           · refine lw_vy (.string (bOf D)) (d := 37) rfl rfl (congrArg Value.bool hb31) (dv_move (T rfl f15)) ?_
             refine lw_vy (.int .i64 ((D.length : Int))) (d := 37) rfl rfl (congrArg Value.bool hb31) (dv_lenS (L := D) ut9 (T rfl rfl)) ?_
             refine lw_vy (.bool (decide (1 < ((D.length : Int))))) (d := 37) rfl rfl (congrArg Value.bool hb31) (dv_gtr (a := (D.length : Int)) (b := 1) (T rfl rfl) C) ?_
             refine lw_vy (.bool (decide (1 < ((D.length : Int))))) (d := 35) rfl rfl (congrArg Value.bool (decide_eq_true hb30)) (dv_pick_f (T rfl (congrArg Value.bool hb31)) (T rfl rfl)) ?_
             refine lw_vy (.bool (decide (1 < ((D.length : Int))))) (d := 31) rfl rfl (congrArg Value.bool (decide_eq_false hb24)) (dv_pick_t (T rfl (congrArg Value.bool (decide_eq_true hb30))) (T rfl rfl)) ?_
             refine lw_v (.bool (decide (1 < ((D.length : Int))))) (dv_pick_f (T rfl (congrArg Value.bool (decide_eq_false hb24))) (T rfl rfl)) ?_
             refine lw_nil ?_
             by_cases hb36 : 1 < ((D.length : Int))
             · refine rk_ct (T rfl (congrArg Value.bool (decide_eq_true hb36))) ?_
               refine rk_seq ?_
               refine rk_reg ?_
               refine lw_v (.agg #[.bool false, .slice none 0 0]) (dv_build (pv := []) (l := [.bool false, .slice none 0 0]) zc65 pl65 trivial rfl) ?_
               refine lw_e (oe_store (v := .agg #[.bool false, .slice none 0 0]) (vs := [.bool false, .slice none 0 0]) (l := [.bool false, .slice none 0 0]) (T rfl f13) (T rfl rfl) sz65 rfl rfl rfl H18 rfl ?_)
               intro w37 s38 H39
               have E40 := below_st E17 N4 s38
               refine lw_v (.bool false) (dv_assign C) ?_
               refine lw_nil ?_
               refine rk_ret Try.func58 (v := .tuple #[.agg #[.bool false, .slice none 0 0], .bool false]) (res2 Try.results58 (rv_cells (l := [.bool false, .slice none 0 0]) agt65 sz65 rfl f13 H39 rfl) (rv_tmp rfl rfl)) ⟨_, rfl, ?_⟩
               have hno : ¬ (formD L ∧ (digD L).length ≤ 77) := (fun hh => by have h1 := (formD_iff hD hng).1 hh.1; have h2 := hh.2; rw [hD] at h2; first | omega | (have h3 := h1.2.2 (by assumption); first | omega | (have h4 := h3.1; simp_all)))
               exact ⟨_, _, _, _, 0, tu2 rfl (vf hno), E40, Num.zero, fun hh => absurd hh hno⟩
             · refine rk_cf (T rfl (congrArg Value.bool (decide_eq_false hb36))) ?_
               refine rk_skip ?_
               refine rk_seq ?_
               refine rk_reg ?_
               refine lw_v (.agg #[.bool false, .slice none 0 0]) (dv_build (pv := []) (l := [.bool false, .slice none 0 0]) zc65 pl65 trivial rfl) ?_
               refine lw_e (oe_alloc ze65 ?_)
               intro b41 w42 n43
               have N44 : w.heap.size ≤ b41 := n43.eq ▸ E17.size
               have : b1 < b41 := n43.eq ▸ lt_of_blk H18
               have E45 := below_ext E17 E17.size n43.ext
               refine lw_e (oe_store (v := .agg #[.bool false, .slice none 0 0]) (vs := [.bool false, .slice none 0 0]) (l := [.bool false, .slice none 0 0]) (T rfl rfl) (T rfl rfl) sz65 rfl rfl rfl n43.blk rfl ?_)
               intro w46 s47 H48
               have E49 := below_st E45 N44 s47
               refine lw_nil ?_
               refine rk_seq ?_
               refine rk_seq ?_
               refine rk_reg ?_
               refine lw_v (.int .i64 0) (dv_assign C) ?_
               refine lw_nil ?_
               refine rk_block ?_
               have H50 := (s47.blk (n43.ext.blk H18) (by omega))
               refine rk_loop (fun dm_ fr wl => ∃ (i : Nat) (nz : Bool) (Az : Option Addr) (lz cz : Nat), dm_ = D.length - i ∧ fr 4 = .pointer (some ⟨b1, 0, none⟩) ∧ fr 6 = .string (bOf D) ∧ fr 7 = .bool ng ∧ fr 8 = .pointer (some ⟨b41, 0, none⟩) ∧ fr 9 = .int .i64 ((i : Int)) ∧ Below w.heap.size w wl ∧ wl.heap[b1]? = some (.cells #[.bool false, .slice none 0 0] 65) ∧ wl.heap[b41]? = some (.cells #[.bool nz, .slice Az lz cz] 65) ∧ Num 32 95 .u32 wl nz Az lz cz (valD (D.take i)) S ∧ (i ≤ D.length) ∧ (∀ c ∈ D.take i, isD c)) (D.length - 0) ⟨0, false, none, 0, 0, rfl, f13, f15, f16, rfl, (vi (by omega)), E49, H50, H48, Num.zero, (Nat.zero_le _), (fun c hc => by cases hc)⟩ ?_
               intro d55 fr54 w51 hI52 ih53
               obtain ⟨i, nz, Az, lz, cz, hd65, f56, f57, f58, f59, f60, E61, H62, H63, h64, hi, hdg⟩ := hI52
               have lh64 := Num.len (by decide) h64
               refine rk_seq ?_
               refine rk_seq ?_
               refine rk_reg ?_
               refine lw_v (.int .i64 ((i : Int))) (dv_move (T rfl f60)) ?_
               refine lw_v (.string (bOf D)) (dv_move (T rfl f57)) ?_
               refine lw_v (.int .i64 ((D.length : Int))) (dv_lenS (L := D) ut9 (T rfl rfl)) ?_
               refine lw_v (.bool (decide (((i : Int)) < ((D.length : Int))))) (dv_lss (a := (i : Int)) (b := (D.length : Int)) (T rfl rfl) (T rfl rfl)) ?_
               refine lw_nil ?_
               by_cases hb66 : ((i : Int)) < ((D.length : Int))
               · refine rk_ct (T rfl (congrArg Value.bool (decide_eq_true hb66))) ?_
                 refine rk_skip ?_
                 refine rk_seq ?_
                 refine rk_block ?_
                 refine rk_seq ?_
                 refine rk_seq ?_
                 refine rk_reg ?_
                 refine lw_v (.string (bOf D)) (dv_move (T rfl f57)) ?_
                 refine lw_v (.int .i64 ((i : Int))) (dv_move (T rfl f60)) ?_
                 have bg67 := okW.getD (okD hD hL) (by decide) i
                 refine lw_v (.int .u8 (D.getD i 0)) (dv_indexS (L := D) (i := i) (j := (i : Int)) ut9 (T rfl rfl) (T rfl rfl) (okD hD hL) (by omega) (by first | omega | (simp; done) | (simp; omega))) ?_
                 refine lw_v (.bool (decide ((D.getD i 0) < 48))) (dv_lss (a := D.getD i 0) (b := 48) (T rfl rfl) C) ?_
                 refine lw_v (.bool (decide ((D.getD i 0) < 48))) (dv_move (T rfl rfl)) ?_
                 by_cases hb68 : (D.getD i 0) < 48
                 · refine lw_no (d := 56) rfl rfl (congrArg Value.bool (decide_eq_true hb68)) ?_
                   refine lw_no (d := 56) rfl rfl (congrArg Value.bool (decide_eq_true hb68)) ?_
                   refine lw_no (d := 56) rfl rfl (congrArg Value.bool (decide_eq_true hb68)) ?_
                   refine lw_no (d := 56) rfl rfl (congrArg Value.bool (decide_eq_true hb68)) ?_
                   refine lw_v (.bool true) (dv_pick_t (T rfl (congrArg Value.bool (decide_eq_true hb68))) C) ?_
                   refine lw_nil ?_
                   refine rk_ct (T rfl rfl) ?_
                   refine rk_seq ?_
                   refine rk_reg ?_
                   refine lw_v (.agg #[.bool false, .slice none 0 0]) (dv_build (pv := []) (l := [.bool false, .slice none 0 0]) zc65 pl65 trivial rfl) ?_
                   refine lw_e (oe_store (v := .agg #[.bool false, .slice none 0 0]) (vs := [.bool false, .slice none 0 0]) (l := [.bool false, .slice none 0 0]) (T rfl f56) (T rfl rfl) sz65 rfl rfl rfl H62 rfl ?_)
                   intro w69 s70 H71
                   have E72 := below_st E61 N4 s70
                   refine lw_v (.bool false) (dv_assign C) ?_
                   refine lw_nil ?_
                   refine rk_ret Try.func58 (v := .tuple #[.agg #[.bool false, .slice none 0 0], .bool false]) (res2 Try.results58 (rv_cells (l := [.bool false, .slice none 0 0]) agt65 sz65 rfl f56 H71 rfl) (rv_tmp rfl rfl)) ⟨_, rfl, ?_⟩
                   have hno : ¬ (formD L ∧ (digD L).length ≤ 77) := (fun hh => not_formD hD (i := i) (by omega) (fun hd => by unfold isD at hd; omega) hh.1)
                   exact ⟨_, _, _, _, 0, tu2 rfl (vf hno), E72, Num.zero, fun hh => absurd hh hno⟩
                 · refine lw_vy (.string (bOf D)) (d := 56) rfl rfl (congrArg Value.bool (decide_eq_false hb68)) (dv_move (T rfl f57)) ?_
                   refine lw_vy (.int .i64 ((i : Int))) (d := 56) rfl rfl (congrArg Value.bool (decide_eq_false hb68)) (dv_move (T rfl f60)) ?_
                   have bg73 := okW.getD (okD hD hL) (by decide) i
                   refine lw_vy (.int .u8 (D.getD i 0)) (d := 56) rfl rfl (congrArg Value.bool (decide_eq_false hb68)) (dv_indexS (L := D) (i := i) (j := (i : Int)) ut9 (T rfl rfl) (T rfl rfl) (okD hD hL) (by omega) (by first | omega | (simp; done) | (simp; omega))) ?_
                   refine lw_vy (.bool (decide (57 < (D.getD i 0)))) (d := 56) rfl rfl (congrArg Value.bool (decide_eq_false hb68)) (dv_gtr (a := D.getD i 0) (b := 57) (T rfl rfl) C) ?_
                   refine lw_v (.bool (decide (57 < (D.getD i 0)))) (dv_pick_f (T rfl (congrArg Value.bool (decide_eq_false hb68))) (T rfl rfl)) ?_
                   refine lw_nil ?_
                   by_cases hb74 : 57 < (D.getD i 0)
                   · refine rk_ct (T rfl (congrArg Value.bool (decide_eq_true hb74))) ?_
                     refine rk_seq ?_
                     refine rk_reg ?_
                     refine lw_v (.agg #[.bool false, .slice none 0 0]) (dv_build (pv := []) (l := [.bool false, .slice none 0 0]) zc65 pl65 trivial rfl) ?_
                     refine lw_e (oe_store (v := .agg #[.bool false, .slice none 0 0]) (vs := [.bool false, .slice none 0 0]) (l := [.bool false, .slice none 0 0]) (T rfl f56) (T rfl rfl) sz65 rfl rfl rfl H62 rfl ?_)
                     intro w75 s76 H77
                     have E78 := below_st E61 N4 s76
                     refine lw_v (.bool false) (dv_assign C) ?_
                     refine lw_nil ?_
                     refine rk_ret Try.func58 (v := .tuple #[.agg #[.bool false, .slice none 0 0], .bool false]) (res2 Try.results58 (rv_cells (l := [.bool false, .slice none 0 0]) agt65 sz65 rfl f56 H77 rfl) (rv_tmp rfl rfl)) ⟨_, rfl, ?_⟩
                     have hno : ¬ (formD L ∧ (digD L).length ≤ 77) := (fun hh => not_formD hD (i := i) (by omega) (fun hd => by unfold isD at hd; omega) hh.1)
                     exact ⟨_, _, _, _, 0, tu2 rfl (vf hno), E78, Num.zero, fun hh => absurd hh hno⟩
                   · refine rk_cf (T rfl (congrArg Value.bool (decide_eq_false hb74))) ?_
                     refine rk_skip ?_
                     refine rk_any (fun w => w.heap[b41]? = some (.cells #[.bool nz, .slice Az lz cz] 65)) [10] mo ?_
                     intro w79 d80
                     have E81 := below_ext E61 E61.size d80.ext
                     have H82 := (d80.ext.blk H63)
                     refine aw_load 0 (.agg #[.bool nz, .slice Az lz cz]) rfl (by kernel_rfl) .none H82 (fun _ s => dv_loads (l := [.bool nz, .slice Az lz cz]) agt65 sz65 (T rfl f59) s rfl) ?_
                     refine aw_pure 3 (.string (bOf D)) rfl (by kernel_rfl) .none H82 (fun _ => dv_move (T rfl f57)) ?_
                     refine aw_pure 4 (.int .i64 ((i : Int))) rfl (by kernel_rfl) .none H82 (fun _ => dv_move (T rfl f60)) ?_
                     have bg83 := okW.getD (okD hD hL) (by decide) i
                     refine aw_pure 5 (.int .u8 (D.getD i 0)) rfl (by kernel_rfl) .none H82 (fun _ => dv_indexS (L := D) (i := i) (j := (i : Int)) ut9 (T rfl rfl) (T rfl rfl) (okD hD hL) (by omega) (by first | omega | (simp; done) | (simp; omega))) ?_
                     refine aw_pure 6 (.int .u8 ((D.getD i 0) - 48)) rfl (by kernel_rfl) .none H82 (fun _ => dv_sub (a := D.getD i 0) (b := 48) (z := (D.getD i 0) - 48) (T rfl rfl) C (wn_u8 (by omega) (by omega))) ?_
                     refine aw_pure 7 (.int .i64 ((D.getD i 0) - 48)) rfl (by kernel_rfl) .none H82 (fun _ => dv_conv (a := (D.getD i 0) - 48) (z := (D.getD i 0) - 48) ui5 ui2 (T rfl rfl) (wr_i64 (by omega) (by omega))) ?_
                     refine aw_one 1 rfl (by kernel_rfl) .none (oe_callf (vs := [.int .i64 10]) co79 (ar1 C) (l1Int_ok  (by omega)) ?_)
                     rintro _ w89 ⟨nr84, A85, n86, c87, rfl, e90, h88⟩
                     have E91 := below_ext E81 E81.size e90
                     have lh88 := Num.len (by decide) h88
                     have H92 := (e90.blk H82)
                     refine ⟨.inr H92, ?_⟩
                     have h93 := ((h64.ext d80.ext).ext e90)
                     refine aw_one 2 rfl (by kernel_rfl) .none (oe_callf (vs := [.agg #[.bool nz, .slice Az lz cz], .agg #[.bool nr84, .slice A85 n86 c87]]) co78 (ar2 (T rfl rfl) (T rfl rfl)) (l1Mul_ok h93 h88 (by first | decide | omega) (by first | decide | omega)) ?_)
                     rintro _ w99 ⟨nr94, A95, n96, c97, rfl, e100, h98⟩
                     have E101 := below_ext E91 E91.size e100
                     have lh98 := Num.len (by decide) h98
                     have H102 := (e100.blk H92)
                     refine ⟨.inr H102, ?_⟩
                     refine aw_one 8 rfl (by kernel_rfl) .none (oe_callf (vs := [.int .i64 ((D.getD i 0) - 48)]) co79 (ar1 (T rfl rfl)) (l1Int_ok  (by omega)) ?_)
                     rintro _ w108 ⟨nr103, A104, n105, c106, rfl, e109, h107⟩
                     have E110 := below_ext E101 E101.size e109
                     have lh107 := Num.len (by decide) h107
                     have H111 := (e109.blk H102)
                     refine ⟨.inr H111, ?_⟩
                     have h112 := (h98.ext e109)
                     refine aw_one 9 rfl (by kernel_rfl) .none (oe_callf (vs := [.agg #[.bool nr94, .slice A95 n96 c97], .agg #[.bool nr103, .slice A104 n105 c106]]) co55 (ar2 (T rfl rfl) (T rfl rfl)) (l1Add_ok h112 h107 (by first | decide | omega) (by first | decide | omega)) ?_)
                     rintro _ w118 ⟨nr113, A114, n115, c116, rfl, e119, h117⟩
                     have E120 := below_ext E110 E110.size e119
                     have lh117 := Num.len (by decide) h117
                     have H121 := (e119.blk H111)
                     refine ⟨.inr H121, ?_⟩
                     refine aw_one 10 rfl (by kernel_rfl) .none (oe_store (v := .agg #[.bool nr113, .slice A114 n115 c116]) (vs := [.bool nr113, .slice A114 n115 c116]) (l := [.bool nr113, .slice A114 n115 c116]) (T rfl f59) (T rfl rfl) sz65 rfl rfl rfl H121 rfl ?_)
                     intro w122 s123 H124
                     have E125 := below_st E120 N44 s123
                     refine ⟨.inl rfl, ?_⟩
                     refine aw_done (by kernel_rfl) ?_
                     refine rk_inBlock ?_
                     refine rk_reg ?_
                     refine lw_v (.int .i64 ((i : Int))) (dv_move (T rfl f60)) ?_
                     refine lw_v (.int .i64 (((i : Int)) + 1)) (dv_add (a := (i : Int)) (b := 1) (z := ((i : Int)) + 1) (T rfl rfl) C (wr_i64 (by omega) (by omega))) ?_
                     refine lw_v (.int .i64 (((i : Int)) + 1)) (dv_assign (T rfl rfl)) ?_
                     refine lw_nil ?_
                     have h126 := (h117.st s123 H121 (by decide))
                     have hd127 : ∀ c ∈ D.take (i + 1), isD c := isD_take (by omega) hdg ⟨by omega, by omega⟩
                     have H128 := (s123.blk (e119.blk (e109.blk (e100.blk (e90.blk (d80.ext.blk H62))))) (by omega))
                     exact ih53 (D.length - ((i + 1))) _ _ (by rw [hd65]; omega) ⟨(i + 1), nr113, A114, n115, c116, rfl, f56, f57, f58, f59, (vi (by omega)), E125, H128, H124, (h126.tight (valD_take (by omega)).symm (valD_sz hd127 (by simp; omega))), (by omega), hd127⟩
               · refine rk_cf (T rfl (congrArg Value.bool (decide_eq_false hb66))) ?_
                 refine rk_exit rfl ?_
                 refine rk_seq ?_
                 refine rk_seq ?_
                 refine rk_reg ?_
                 refine lw_v (.bool ng) (dv_move (T rfl f58)) ?_
                 refine lw_nil ?_
                 refine rk_cf (T rfl (congrArg Value.bool hb31)) ?_
                 refine rk_skip ?_
                 refine rk_seq ?_
                 refine rk_reg ?_
                 refine lw_v (.agg #[.bool nz, .slice Az lz cz]) (dv_loads (l := [.bool nz, .slice Az lz cz]) agt65 sz65 (T rfl f59) H63 rfl) ?_
                 refine lw_e (oe_store (v := .agg #[.bool nz, .slice Az lz cz]) (vs := [.bool nz, .slice Az lz cz]) (l := [.bool nz, .slice Az lz cz]) (T rfl f56) (T rfl rfl) sz65 rfl rfl rfl H62 rfl ?_)
                 intro w129 s130 H131
                 have E132 := below_st E61 N4 s130
                 refine lw_v (.bool true) (dv_assign C) ?_
                 refine lw_nil ?_
                 refine rk_ret Try.func58 (v := .tuple #[.agg #[.bool nz, .slice Az lz cz], .bool true]) (res2 Try.results58 (rv_cells (l := [.bool nz, .slice Az lz cz]) agt65 sz65 rfl f56 H131 rfl) (rv_tmp rfl rfl)) ⟨_, rfl, ?_⟩
                 have h133 := (h64.st s130 H62 (by decide))
                 have hz1 := numD_of2 (i := i) hD hng (by omega)
                 have hz2 := (numD_of (i := i) hD hng (by omega) hdg).2
                 have hbn : ng = false := by assumption
                 have hzz : valD (D.take i) = numD L := by rw [← hz1, hbn]; rfl
                 exact ⟨_, _, _, _, _, tu2 rfl (vt ⟨(formD_iff hD hng).2 ⟨by omega, hz2, fun h48 => by first | (exfalso; omega) | (exact absurd h48 (by assumption)) | exact ⟨by assumption, by omega⟩⟩, by rw [hD]; omega⟩), E132, h133, fun _ => hzz⟩
         · refine lw_no (d := 35) rfl rfl (congrArg Value.bool (decide_eq_false hb30)) ?_
           refine lw_no (d := 35) rfl rfl (congrArg Value.bool (decide_eq_false hb30)) ?_
           refine lw_nou (d := 37) rfl rfl ?_
           refine lw_nou (d := 37) rfl rfl ?_
           refine lw_nou (d := 37) rfl rfl ?_
           refine lw_no (d := 35) rfl rfl (congrArg Value.bool (decide_eq_false hb30)) ?_
           refine lw_vy (.bool false) (d := 31) rfl rfl (congrArg Value.bool (decide_eq_false hb24)) (dv_pick_f (T rfl (congrArg Value.bool (decide_eq_false hb30))) C) ?_
           refine lw_v (.bool false) (dv_pick_f (T rfl (congrArg Value.bool (decide_eq_false hb24))) (T rfl rfl)) ?_
           refine lw_nil ?_
           refine rk_cf (T rfl rfl) ?_
           refine rk_skip ?_
           refine rk_seq ?_
           refine rk_reg ?_
           refine lw_v (.agg #[.bool false, .slice none 0 0]) (dv_build (pv := []) (l := [.bool false, .slice none 0 0]) zc65 pl65 trivial rfl) ?_
           refine lw_e (oe_alloc ze65 ?_)
           intro b134 w135 n136
           have N137 : w.heap.size ≤ b134 := n136.eq ▸ E17.size
           have : b1 < b134 := n136.eq ▸ lt_of_blk H18
           have E138 := below_ext E17 E17.size n136.ext
           refine lw_e (oe_store (v := .agg #[.bool false, .slice none 0 0]) (vs := [.bool false, .slice none 0 0]) (l := [.bool false, .slice none 0 0]) (T rfl rfl) (T rfl rfl) sz65 rfl rfl rfl n136.blk rfl ?_)
           intro w139 s140 H141
           have E142 := below_st E138 N137 s140
           refine lw_nil ?_
           refine rk_seq ?_
           refine rk_seq ?_
           refine rk_reg ?_
           refine lw_v (.int .i64 0) (dv_assign C) ?_
           refine lw_nil ?_
           refine rk_block ?_
           have H143 := (s140.blk (n136.ext.blk H18) (by omega))
           refine rk_loop (fun dm_ fr wl => ∃ (i : Nat) (nz : Bool) (Az : Option Addr) (lz cz : Nat), dm_ = D.length - i ∧ fr 4 = .pointer (some ⟨b1, 0, none⟩) ∧ fr 6 = .string (bOf D) ∧ fr 7 = .bool ng ∧ fr 8 = .pointer (some ⟨b134, 0, none⟩) ∧ fr 9 = .int .i64 ((i : Int)) ∧ Below w.heap.size w wl ∧ wl.heap[b1]? = some (.cells #[.bool false, .slice none 0 0] 65) ∧ wl.heap[b134]? = some (.cells #[.bool nz, .slice Az lz cz] 65) ∧ Num 32 95 .u32 wl nz Az lz cz (valD (D.take i)) S ∧ (i ≤ D.length) ∧ (∀ c ∈ D.take i, isD c)) (D.length - 0) ⟨0, false, none, 0, 0, rfl, f13, f15, f16, rfl, (vi (by omega)), E142, H143, H141, Num.zero, (Nat.zero_le _), (fun c hc => by cases hc)⟩ ?_
           intro d148 fr147 w144 hI145 ih146
           obtain ⟨i, nz, Az, lz, cz, hd158, f149, f150, f151, f152, f153, E154, H155, H156, h157, hi, hdg⟩ := hI145
           have lh157 := Num.len (by decide) h157
           refine rk_seq ?_
           refine rk_seq ?_
           refine rk_reg ?_
           refine lw_v (.int .i64 ((i : Int))) (dv_move (T rfl f153)) ?_
           refine lw_v (.string (bOf D)) (dv_move (T rfl f150)) ?_
           refine lw_v (.int .i64 ((D.length : Int))) (dv_lenS (L := D) ut9 (T rfl rfl)) ?_
           refine lw_v (.bool (decide (((i : Int)) < ((D.length : Int))))) (dv_lss (a := (i : Int)) (b := (D.length : Int)) (T rfl rfl) (T rfl rfl)) ?_
           refine lw_nil ?_
           by_cases hb159 : ((i : Int)) < ((D.length : Int))
           · refine rk_ct (T rfl (congrArg Value.bool (decide_eq_true hb159))) ?_
             refine rk_skip ?_
             refine rk_seq ?_
             refine rk_block ?_
             refine rk_seq ?_
             refine rk_seq ?_
             refine rk_reg ?_
             refine lw_v (.string (bOf D)) (dv_move (T rfl f150)) ?_
             refine lw_v (.int .i64 ((i : Int))) (dv_move (T rfl f153)) ?_
             have bg160 := okW.getD (okD hD hL) (by decide) i
             refine lw_v (.int .u8 (D.getD i 0)) (dv_indexS (L := D) (i := i) (j := (i : Int)) ut9 (T rfl rfl) (T rfl rfl) (okD hD hL) (by omega) (by first | omega | (simp; done) | (simp; omega))) ?_
             refine lw_v (.bool (decide ((D.getD i 0) < 48))) (dv_lss (a := D.getD i 0) (b := 48) (T rfl rfl) C) ?_
             refine lw_v (.bool (decide ((D.getD i 0) < 48))) (dv_move (T rfl rfl)) ?_
             by_cases hb161 : (D.getD i 0) < 48
             · refine lw_no (d := 56) rfl rfl (congrArg Value.bool (decide_eq_true hb161)) ?_
               refine lw_no (d := 56) rfl rfl (congrArg Value.bool (decide_eq_true hb161)) ?_
               refine lw_no (d := 56) rfl rfl (congrArg Value.bool (decide_eq_true hb161)) ?_
               refine lw_no (d := 56) rfl rfl (congrArg Value.bool (decide_eq_true hb161)) ?_
               refine lw_v (.bool true) (dv_pick_t (T rfl (congrArg Value.bool (decide_eq_true hb161))) C) ?_
               refine lw_nil ?_
               refine rk_ct (T rfl rfl) ?_
               refine rk_seq ?_
               refine rk_reg ?_
               refine lw_v (.agg #[.bool false, .slice none 0 0]) (dv_build (pv := []) (l := [.bool false, .slice none 0 0]) zc65 pl65 trivial rfl) ?_
               refine lw_e (oe_store (v := .agg #[.bool false, .slice none 0 0]) (vs := [.bool false, .slice none 0 0]) (l := [.bool false, .slice none 0 0]) (T rfl f149) (T rfl rfl) sz65 rfl rfl rfl H155 rfl ?_)
               intro w162 s163 H164
               have E165 := below_st E154 N4 s163
               refine lw_v (.bool false) (dv_assign C) ?_
               refine lw_nil ?_
               refine rk_ret Try.func58 (v := .tuple #[.agg #[.bool false, .slice none 0 0], .bool false]) (res2 Try.results58 (rv_cells (l := [.bool false, .slice none 0 0]) agt65 sz65 rfl f149 H164 rfl) (rv_tmp rfl rfl)) ⟨_, rfl, ?_⟩
               have hno : ¬ (formD L ∧ (digD L).length ≤ 77) := (fun hh => not_formD hD (i := i) (by omega) (fun hd => by unfold isD at hd; omega) hh.1)
               exact ⟨_, _, _, _, 0, tu2 rfl (vf hno), E165, Num.zero, fun hh => absurd hh hno⟩
             · refine lw_vy (.string (bOf D)) (d := 56) rfl rfl (congrArg Value.bool (decide_eq_false hb161)) (dv_move (T rfl f150)) ?_
               refine lw_vy (.int .i64 ((i : Int))) (d := 56) rfl rfl (congrArg Value.bool (decide_eq_false hb161)) (dv_move (T rfl f153)) ?_
               have bg166 := okW.getD (okD hD hL) (by decide) i
               refine lw_vy (.int .u8 (D.getD i 0)) (d := 56) rfl rfl (congrArg Value.bool (decide_eq_false hb161)) (dv_indexS (L := D) (i := i) (j := (i : Int)) ut9 (T rfl rfl) (T rfl rfl) (okD hD hL) (by omega) (by first | omega | (simp; done) | (simp; omega))) ?_
               refine lw_vy (.bool (decide (57 < (D.getD i 0)))) (d := 56) rfl rfl (congrArg Value.bool (decide_eq_false hb161)) (dv_gtr (a := D.getD i 0) (b := 57) (T rfl rfl) C) ?_
               refine lw_v (.bool (decide (57 < (D.getD i 0)))) (dv_pick_f (T rfl (congrArg Value.bool (decide_eq_false hb161))) (T rfl rfl)) ?_
               refine lw_nil ?_
               by_cases hb167 : 57 < (D.getD i 0)
               · refine rk_ct (T rfl (congrArg Value.bool (decide_eq_true hb167))) ?_
                 refine rk_seq ?_
                 refine rk_reg ?_
                 refine lw_v (.agg #[.bool false, .slice none 0 0]) (dv_build (pv := []) (l := [.bool false, .slice none 0 0]) zc65 pl65 trivial rfl) ?_
                 refine lw_e (oe_store (v := .agg #[.bool false, .slice none 0 0]) (vs := [.bool false, .slice none 0 0]) (l := [.bool false, .slice none 0 0]) (T rfl f149) (T rfl rfl) sz65 rfl rfl rfl H155 rfl ?_)
                 intro w168 s169 H170
                 have E171 := below_st E154 N4 s169
                 refine lw_v (.bool false) (dv_assign C) ?_
                 refine lw_nil ?_
                 refine rk_ret Try.func58 (v := .tuple #[.agg #[.bool false, .slice none 0 0], .bool false]) (res2 Try.results58 (rv_cells (l := [.bool false, .slice none 0 0]) agt65 sz65 rfl f149 H170 rfl) (rv_tmp rfl rfl)) ⟨_, rfl, ?_⟩
                 have hno : ¬ (formD L ∧ (digD L).length ≤ 77) := (fun hh => not_formD hD (i := i) (by omega) (fun hd => by unfold isD at hd; omega) hh.1)
                 exact ⟨_, _, _, _, 0, tu2 rfl (vf hno), E171, Num.zero, fun hh => absurd hh hno⟩
               · refine rk_cf (T rfl (congrArg Value.bool (decide_eq_false hb167))) ?_
                 refine rk_skip ?_
                 refine rk_any (fun w => w.heap[b134]? = some (.cells #[.bool nz, .slice Az lz cz] 65)) [10] mo ?_
                 intro w172 d173
                 have E174 := below_ext E154 E154.size d173.ext
                 have H175 := (d173.ext.blk H156)
                 refine aw_load 0 (.agg #[.bool nz, .slice Az lz cz]) rfl (by kernel_rfl) .none H175 (fun _ s => dv_loads (l := [.bool nz, .slice Az lz cz]) agt65 sz65 (T rfl f152) s rfl) ?_
                 refine aw_pure 3 (.string (bOf D)) rfl (by kernel_rfl) .none H175 (fun _ => dv_move (T rfl f150)) ?_
                 refine aw_pure 4 (.int .i64 ((i : Int))) rfl (by kernel_rfl) .none H175 (fun _ => dv_move (T rfl f153)) ?_
                 have bg176 := okW.getD (okD hD hL) (by decide) i
                 refine aw_pure 5 (.int .u8 (D.getD i 0)) rfl (by kernel_rfl) .none H175 (fun _ => dv_indexS (L := D) (i := i) (j := (i : Int)) ut9 (T rfl rfl) (T rfl rfl) (okD hD hL) (by omega) (by first | omega | (simp; done) | (simp; omega))) ?_
                 refine aw_pure 6 (.int .u8 ((D.getD i 0) - 48)) rfl (by kernel_rfl) .none H175 (fun _ => dv_sub (a := D.getD i 0) (b := 48) (z := (D.getD i 0) - 48) (T rfl rfl) C (wn_u8 (by omega) (by omega))) ?_
                 refine aw_pure 7 (.int .i64 ((D.getD i 0) - 48)) rfl (by kernel_rfl) .none H175 (fun _ => dv_conv (a := (D.getD i 0) - 48) (z := (D.getD i 0) - 48) ui5 ui2 (T rfl rfl) (wr_i64 (by omega) (by omega))) ?_
                 refine aw_one 1 rfl (by kernel_rfl) .none (oe_callf (vs := [.int .i64 10]) co79 (ar1 C) (l1Int_ok  (by omega)) ?_)
                 rintro _ w182 ⟨nr177, A178, n179, c180, rfl, e183, h181⟩
                 have E184 := below_ext E174 E174.size e183
                 have lh181 := Num.len (by decide) h181
                 have H185 := (e183.blk H175)
                 refine ⟨.inr H185, ?_⟩
                 have h186 := ((h157.ext d173.ext).ext e183)
                 refine aw_one 2 rfl (by kernel_rfl) .none (oe_callf (vs := [.agg #[.bool nz, .slice Az lz cz], .agg #[.bool nr177, .slice A178 n179 c180]]) co78 (ar2 (T rfl rfl) (T rfl rfl)) (l1Mul_ok h186 h181 (by first | decide | omega) (by first | decide | omega)) ?_)
                 rintro _ w192 ⟨nr187, A188, n189, c190, rfl, e193, h191⟩
                 have E194 := below_ext E184 E184.size e193
                 have lh191 := Num.len (by decide) h191
                 have H195 := (e193.blk H185)
                 refine ⟨.inr H195, ?_⟩
                 refine aw_one 8 rfl (by kernel_rfl) .none (oe_callf (vs := [.int .i64 ((D.getD i 0) - 48)]) co79 (ar1 (T rfl rfl)) (l1Int_ok  (by omega)) ?_)
                 rintro _ w201 ⟨nr196, A197, n198, c199, rfl, e202, h200⟩
                 have E203 := below_ext E194 E194.size e202
                 have lh200 := Num.len (by decide) h200
                 have H204 := (e202.blk H195)
                 refine ⟨.inr H204, ?_⟩
                 have h205 := (h191.ext e202)
                 refine aw_one 9 rfl (by kernel_rfl) .none (oe_callf (vs := [.agg #[.bool nr187, .slice A188 n189 c190], .agg #[.bool nr196, .slice A197 n198 c199]]) co55 (ar2 (T rfl rfl) (T rfl rfl)) (l1Add_ok h205 h200 (by first | decide | omega) (by first | decide | omega)) ?_)
                 rintro _ w211 ⟨nr206, A207, n208, c209, rfl, e212, h210⟩
                 have E213 := below_ext E203 E203.size e212
                 have lh210 := Num.len (by decide) h210
                 have H214 := (e212.blk H204)
                 refine ⟨.inr H214, ?_⟩
                 refine aw_one 10 rfl (by kernel_rfl) .none (oe_store (v := .agg #[.bool nr206, .slice A207 n208 c209]) (vs := [.bool nr206, .slice A207 n208 c209]) (l := [.bool nr206, .slice A207 n208 c209]) (T rfl f152) (T rfl rfl) sz65 rfl rfl rfl H214 rfl ?_)
                 intro w215 s216 H217
                 have E218 := below_st E213 N137 s216
                 refine ⟨.inl rfl, ?_⟩
                 refine aw_done (by kernel_rfl) ?_
                 refine rk_inBlock ?_
                 refine rk_reg ?_
                 refine lw_v (.int .i64 ((i : Int))) (dv_move (T rfl f153)) ?_
                 refine lw_v (.int .i64 (((i : Int)) + 1)) (dv_add (a := (i : Int)) (b := 1) (z := ((i : Int)) + 1) (T rfl rfl) C (wr_i64 (by omega) (by omega))) ?_
                 refine lw_v (.int .i64 (((i : Int)) + 1)) (dv_assign (T rfl rfl)) ?_
                 refine lw_nil ?_
                 have h219 := (h210.st s216 H214 (by decide))
                 have hd220 : ∀ c ∈ D.take (i + 1), isD c := isD_take (by omega) hdg ⟨by omega, by omega⟩
                 have H221 := (s216.blk (e212.blk (e202.blk (e193.blk (e183.blk (d173.ext.blk H155))))) (by omega))
                 exact ih146 (D.length - ((i + 1))) _ _ (by rw [hd158]; omega) ⟨(i + 1), nr206, A207, n208, c209, rfl, f149, f150, f151, f152, (vi (by omega)), E218, H221, H217, (h219.tight (valD_take (by omega)).symm (valD_sz hd220 (by simp; omega))), (by omega), hd220⟩
           · refine rk_cf (T rfl (congrArg Value.bool (decide_eq_false hb159))) ?_
             refine rk_exit rfl ?_
             refine rk_seq ?_
             refine rk_seq ?_
             refine rk_reg ?_
             refine lw_v (.bool ng) (dv_move (T rfl f151)) ?_
             refine lw_nil ?_
             rcases Bool.eq_false_or_eq_true (ng) with hb222 | hb222
             · refine rk_ct (T rfl (congrArg Value.bool hb222)) ?_
               refine rk_reg ?_
               refine lw_v (.agg #[.bool nz, .slice Az lz cz]) (dv_loads (l := [.bool nz, .slice Az lz cz]) agt65 sz65 (T rfl f152) H156 rfl) ?_
               refine lw_e (oe_callf (vs := [.agg #[.bool nz, .slice Az lz cz]]) co96 (ar1 (T rfl rfl)) (l1Neg_ok h157 ) ?_)
               rintro _ w228 ⟨nr223, A224, n225, c226, rfl, e229, h227⟩
               have E230 := below_ext E154 E154.size e229
               have lh227 := Num.len (by decide) h227
               have H231 := (e229.blk H156)
               refine lw_e (oe_store (v := .agg #[.bool nr223, .slice A224 n225 c226]) (vs := [.bool nr223, .slice A224 n225 c226]) (l := [.bool nr223, .slice A224 n225 c226]) (T rfl f152) (T rfl rfl) sz65 rfl rfl rfl H231 rfl ?_)
               intro w232 s233 H234
               have E235 := below_st E230 N137 s233
               refine lw_nil ?_
               refine rk_seq ?_
               refine rk_reg ?_
               refine lw_v (.agg #[.bool nr223, .slice A224 n225 c226]) (dv_loads (l := [.bool nr223, .slice A224 n225 c226]) agt65 sz65 (T rfl f152) H234 rfl) ?_
               have H236 := (s233.blk (e229.blk H155) (by omega))
               refine lw_e (oe_store (v := .agg #[.bool nr223, .slice A224 n225 c226]) (vs := [.bool nr223, .slice A224 n225 c226]) (l := [.bool nr223, .slice A224 n225 c226]) (T rfl f149) (T rfl rfl) sz65 rfl rfl rfl H236 rfl ?_)
               intro w237 s238 H239
               have E240 := below_st E235 N4 s238
               refine lw_v (.bool true) (dv_assign C) ?_
               refine lw_nil ?_
               refine rk_ret Try.func58 (v := .tuple #[.agg #[.bool nr223, .slice A224 n225 c226], .bool true]) (res2 Try.results58 (rv_cells (l := [.bool nr223, .slice A224 n225 c226]) agt65 sz65 rfl f149 H239 rfl) (rv_tmp rfl rfl)) ⟨_, rfl, ?_⟩
               have h241 := ((h227.st s233 H231 (by decide)).st s238 H236 (by decide))
               have hz1 := numD_of2 (i := i) hD hng (by omega)
               have hz2 := (numD_of (i := i) hD hng (by omega) hdg).2
               have hbn : ng = true := by assumption
               have hzz : -(valD (D.take i)) = numD L := by rw [← hz1, hbn]; rfl
               exact ⟨_, _, _, _, _, tu2 rfl (vt ⟨(formD_iff hD hng).2 ⟨by omega, hz2, fun h48 => by first | (exfalso; omega) | (exact absurd h48 (by assumption)) | exact ⟨by assumption, by omega⟩⟩, by rw [hD]; omega⟩), E240, h241, fun _ => hzz⟩
             · refine rk_cf (T rfl (congrArg Value.bool hb222)) ?_
               refine rk_skip ?_
               refine rk_seq ?_
               refine rk_reg ?_
               refine lw_v (.agg #[.bool nz, .slice Az lz cz]) (dv_loads (l := [.bool nz, .slice Az lz cz]) agt65 sz65 (T rfl f152) H156 rfl) ?_
               refine lw_e (oe_store (v := .agg #[.bool nz, .slice Az lz cz]) (vs := [.bool nz, .slice Az lz cz]) (l := [.bool nz, .slice Az lz cz]) (T rfl f149) (T rfl rfl) sz65 rfl rfl rfl H155 rfl ?_)
               intro w242 s243 H244
               have E245 := below_st E154 N4 s243
               refine lw_v (.bool true) (dv_assign C) ?_
               refine lw_nil ?_
               refine rk_ret Try.func58 (v := .tuple #[.agg #[.bool nz, .slice Az lz cz], .bool true]) (res2 Try.results58 (rv_cells (l := [.bool nz, .slice Az lz cz]) agt65 sz65 rfl f149 H244 rfl) (rv_tmp rfl rfl)) ⟨_, rfl, ?_⟩
               have h246 := (h157.st s243 H155 (by decide))
               have hz1 := numD_of2 (i := i) hD hng (by omega)
               have hz2 := (numD_of (i := i) hD hng (by omega) hdg).2
               have hbn : ng = false := by assumption
               have hzz : valD (D.take i) = numD L := by rw [← hz1, hbn]; rfl
               exact ⟨_, _, _, _, _, tu2 rfl (vt ⟨(formD_iff hD hng).2 ⟨by omega, hz2, fun h48 => by first | (exfalso; omega) | (exact absurd h48 (by assumption)) | exact ⟨by assumption, by omega⟩⟩, by rw [hD]; omega⟩), E245, h246, fun _ => hzz⟩
   · refine rk_seq ?_
     refine rk_reg ?_
     refine lw_v (.bool (decide ((L.getD 0 0) = 45))) (dv_move (T rfl rfl)) ?_
     refine lw_nil ?_
     by_cases hb247 : (L.getD 0 0) = 45
     · refine rk_ct (T rfl (congrArg Value.bool (decide_eq_true hb247))) ?_
       refine rk_reg ?_
       refine lw_v (.string (bOf L)) (dv_move (T rfl rfl)) ?_
       refine lw_v (.string (bOf (L.drop 1))) (dv_sliceSl (L := L) (i := 1) (j := 1) ut9 (T rfl rfl) C (by omega) (by first | omega | (simp; done) | (simp; omega))) ?_
       refine lw_v (.string (bOf (L.drop 1))) (dv_assign (T rfl rfl)) ?_
       refine lw_nil ?_
       exact hj10 _ _ ⟨(L.drop 1), true, rfl, rfl, rfl, rfl, (congrArg Value.bool (decide_eq_true hb247)), E5, n3.blk, (digD_t (by assumption)).1, (digD_t (by assumption)).2, (by simp)⟩
     · refine rk_cf (T rfl (congrArg Value.bool (decide_eq_false hb247))) ?_
       refine rk_skip ?_
       exact hj10 _ _ ⟨L, false, rfl, rfl, rfl, rfl, (congrArg Value.bool (decide_eq_false hb247)), E5, n3.blk, (digD_f (by assumption)).1, (digD_f (by assumption)).2, (Nat.le_refl _)⟩
 · refine lw_no (d := 14) rfl rfl (congrArg Value.bool (decide_eq_false hb6)) ?_
   refine lw_no (d := 14) rfl rfl (congrArg Value.bool (decide_eq_false hb6)) ?_
   refine lw_no (d := 14) rfl rfl (congrArg Value.bool (decide_eq_false hb6)) ?_
   refine lw_v (.bool false) (dv_pick_f (T rfl (congrArg Value.bool (decide_eq_false hb6))) C) ?_
   refine lw_v (.bool false) (dv_assign (T rfl rfl)) ?_
   refine lw_nil ?_
   refine rk_seq ?_
   refine rk_join (fun fr wl => ∃ (D : List Int) (ng : Bool), fr 1 = .int .i64 77 ∧ fr 4 = .pointer (some ⟨b1, 0, none⟩) ∧ fr 5 = .bool false ∧ fr 6 = .string (bOf D) ∧ fr 7 = .bool ng ∧ Below w.heap.size w wl ∧ wl.heap[b1]? = some (.cells #[.bool false, .slice none 0 0] 65) ∧ (digD L = D) ∧ (negD L = ng) ∧ (D.length ≤ L.length)) ?_ (fun hj250 => ?_)
   · intro fr251 w248 hI249
     obtain ⟨D, ng, f252, f253, f254, f255, f256, E257, H258, hD, hng, hDl⟩ := hI249
     refine rk_seq ?_
     refine rk_seq ?_
     refine rk_reg ?_
     refine lw_v (.string (bOf D)) (dv_move (T rfl f255)) ?_
     refine lw_v (.int .i64 ((D.length : Int))) (dv_lenS (L := D) ut9 (T rfl rfl)) ?_
     refine lw_v (.bool (decide (((D.length : Int)) < 1))) (dv_lss (a := (D.length : Int)) (b := 1) (T rfl rfl) C) ?_
     refine lw_v (.bool (decide (((D.length : Int)) < 1))) (dv_move (T rfl rfl)) ?_
     by_cases hb259 : ((D.length : Int)) < 1
     · refine lw_no (d := 25) rfl rfl (congrArg Value.bool (decide_eq_true hb259)) ?_
       refine lw_no (d := 25) rfl rfl (congrArg Value.bool (decide_eq_true hb259)) ?_
       refine lw_no (d := 25) rfl rfl (congrArg Value.bool (decide_eq_true hb259)) ?_
       refine lw_no (d := 25) rfl rfl (congrArg Value.bool (decide_eq_true hb259)) ?_
       refine lw_v (.bool true) (dv_pick_t (T rfl (congrArg Value.bool (decide_eq_true hb259))) C) ?_
       refine lw_v (.bool true) (dv_move (T rfl rfl)) ?_
       refine lw_no (d := 31) rfl rfl (rfl) ?_
       refine lw_no (d := 31) rfl rfl (rfl) ?_
       refine lw_no (d := 31) rfl rfl (rfl) ?_
       refine lw_no (d := 31) rfl rfl (rfl) ?_
       refine lw_nou (d := 35) rfl rfl ?_
       refine lw_nou (d := 35) rfl rfl ?_
       refine lw_nou (d := 37) rfl rfl ?_
       refine lw_nou (d := 37) rfl rfl ?_
       refine lw_nou (d := 37) rfl rfl ?_
       refine lw_nou (d := 35) rfl rfl ?_
       refine lw_no (d := 31) rfl rfl (rfl) ?_
       refine lw_v (.bool true) (dv_pick_t (T rfl rfl) C) ?_
       refine lw_nil ?_
       refine rk_ct (T rfl rfl) ?_
       refine rk_seq ?_
       refine rk_reg ?_
       refine lw_v (.agg #[.bool false, .slice none 0 0]) (dv_build (pv := []) (l := [.bool false, .slice none 0 0]) zc65 pl65 trivial rfl) ?_
       refine lw_e (oe_store (v := .agg #[.bool false, .slice none 0 0]) (vs := [.bool false, .slice none 0 0]) (l := [.bool false, .slice none 0 0]) (T rfl f253) (T rfl rfl) sz65 rfl rfl rfl H258 rfl ?_)
       intro w260 s261 H262
       have E263 := below_st E257 N4 s261
       refine lw_v (.bool false) (dv_assign C) ?_
       refine lw_nil ?_
       refine rk_ret Try.func58 (v := .tuple #[.agg #[.bool false, .slice none 0 0], .bool false]) (res2 Try.results58 (rv_cells (l := [.bool false, .slice none 0 0]) agt65 sz65 rfl f253 H262 rfl) (rv_tmp rfl rfl)) ⟨_, rfl, ?_⟩
       have hno : ¬ (formD L ∧ (digD L).length ≤ 77) := (fun hh => by have h1 := (formD_iff hD hng).1 hh.1; have h2 := hh.2; rw [hD] at h2; first | omega | (have h3 := h1.2.2 (by assumption); first | omega | (have h4 := h3.1; simp_all)))
       exact ⟨_, _, _, _, 0, tu2 rfl (vf hno), E263, Num.zero, fun hh => absurd hh hno⟩
     · refine lw_vy (.string (bOf D)) (d := 25) rfl rfl (congrArg Value.bool (decide_eq_false hb259)) (dv_move (T rfl f255)) ?_
       refine lw_vy (.int .i64 ((D.length : Int))) (d := 25) rfl rfl (congrArg Value.bool (decide_eq_false hb259)) (dv_lenS (L := D) ut9 (T rfl rfl)) ?_
       refine lw_vy (.int .i64 77) (d := 25) rfl rfl (congrArg Value.bool (decide_eq_false hb259)) (dv_move (T rfl f252)) ?_
       refine lw_vy (.bool (decide (77 < ((D.length : Int))))) (d := 25) rfl rfl (congrArg Value.bool (decide_eq_false hb259)) (dv_gtr (a := (D.length : Int)) (b := 77) (T rfl rfl) (T rfl rfl)) ?_
       refine lw_v (.bool (decide (77 < ((D.length : Int))))) (dv_pick_f (T rfl (congrArg Value.bool (decide_eq_false hb259))) (T rfl rfl)) ?_
       refine lw_v (.bool (decide (77 < ((D.length : Int))))) (dv_move (T rfl rfl)) ?_
       by_cases hb264 : 77 < ((D.length : Int))
       · refine lw_no (d := 31) rfl rfl (congrArg Value.bool (decide_eq_true hb264)) ?_
         refine lw_no (d := 31) rfl rfl (congrArg Value.bool (decide_eq_true hb264)) ?_
         refine lw_no (d := 31) rfl rfl (congrArg Value.bool (decide_eq_true hb264)) ?_
         refine lw_no (d := 31) rfl rfl (congrArg Value.bool (decide_eq_true hb264)) ?_
         refine lw_nou (d := 35) rfl rfl ?_
         refine lw_nou (d := 35) rfl rfl ?_
         refine lw_nou (d := 37) rfl rfl ?_
         refine lw_nou (d := 37) rfl rfl ?_
         refine lw_nou (d := 37) rfl rfl ?_
         refine lw_nou (d := 35) rfl rfl ?_
         refine lw_no (d := 31) rfl rfl (congrArg Value.bool (decide_eq_true hb264)) ?_
         refine lw_v (.bool true) (dv_pick_t (T rfl (congrArg Value.bool (decide_eq_true hb264))) C) ?_
         refine lw_nil ?_
         refine rk_ct (T rfl rfl) ?_
         refine rk_seq ?_
         refine rk_reg ?_
         refine lw_v (.agg #[.bool false, .slice none 0 0]) (dv_build (pv := []) (l := [.bool false, .slice none 0 0]) zc65 pl65 trivial rfl) ?_
         refine lw_e (oe_store (v := .agg #[.bool false, .slice none 0 0]) (vs := [.bool false, .slice none 0 0]) (l := [.bool false, .slice none 0 0]) (T rfl f253) (T rfl rfl) sz65 rfl rfl rfl H258 rfl ?_)
         intro w265 s266 H267
         have E268 := below_st E257 N4 s266
         refine lw_v (.bool false) (dv_assign C) ?_
         refine lw_nil ?_
         refine rk_ret Try.func58 (v := .tuple #[.agg #[.bool false, .slice none 0 0], .bool false]) (res2 Try.results58 (rv_cells (l := [.bool false, .slice none 0 0]) agt65 sz65 rfl f253 H267 rfl) (rv_tmp rfl rfl)) ⟨_, rfl, ?_⟩
         have hno : ¬ (formD L ∧ (digD L).length ≤ 77) := (fun hh => by have h1 := (formD_iff hD hng).1 hh.1; have h2 := hh.2; rw [hD] at h2; first | omega | (have h3 := h1.2.2 (by assumption); first | omega | (have h4 := h3.1; simp_all)))
         exact ⟨_, _, _, _, 0, tu2 rfl (vf hno), E268, Num.zero, fun hh => absurd hh hno⟩
       · refine lw_vy (.string (bOf D)) (d := 31) rfl rfl (congrArg Value.bool (decide_eq_false hb264)) (dv_move (T rfl f255)) ?_
         have bg269 := okW.getD (okD hD hL) (by decide) 0
         refine lw_vy (.int .u8 (D.getD 0 0)) (d := 31) rfl rfl (congrArg Value.bool (decide_eq_false hb264)) (dv_indexS (L := D) (i := 0) (j := 0) ut9 (T rfl rfl) C (okD hD hL) (by omega) (by first | omega | (simp; done) | (simp; omega))) ?_
         refine lw_vy (.bool (decide ((D.getD 0 0) = 48))) (d := 31) rfl rfl (congrArg Value.bool (decide_eq_false hb264)) (dv_eql (a := D.getD 0 0) (b := 48) (T rfl rfl) C) ?_
         refine lw_vy (.bool (decide ((D.getD 0 0) = 48))) (d := 31) rfl rfl (congrArg Value.bool (decide_eq_false hb264)) (dv_move (T rfl rfl)) ?_
         by_cases hb270 : (D.getD 0 0) = 48
         · refine lw_vy (.bool ng) (d := 35) rfl rfl (congrArg Value.bool (decide_eq_true hb270)) (dv_move (T rfl f256)) ?_
           refine lw_vy (.bool ng) (d := 35) rfl rfl (congrArg Value.bool (decide_eq_true hb270)) (dv_move (T rfl rfl)) ?_
           rcases Bool.eq_false_or_eq_true (ng) with hb271 | hb271
           · refine lw_no (d := 37) rfl rfl (congrArg Value.bool hb271) ?_
             refine lw_no (d := 37) rfl rfl (congrArg Value.bool hb271) ?_
             refine lw_no (d := 37) rfl rfl (congrArg Value.bool hb271) ?_
             refine lw_vy (.bool true) (d := 35) rfl rfl (congrArg Value.bool (decide_eq_true hb270)) (dv_pick_t (T rfl (congrArg Value.bool hb271)) C) ?_
             refine lw_vy (.bool true) (d := 31) rfl rfl (congrArg Value.bool (decide_eq_false hb264)) (dv_pick_t (T rfl (congrArg Value.bool (decide_eq_true hb270))) (T rfl rfl)) ?_
             refine lw_v (.bool true) (dv_pick_f (T rfl (congrArg Value.bool (decide_eq_false hb264))) (T rfl rfl)) ?_
             refine lw_nil ?_
             refine rk_ct (T rfl rfl) ?_
             refine rk_seq ?_
             refine rk_reg ?_
             refine lw_v (.agg #[.bool false, .slice none 0 0]) (dv_build (pv := []) (l := [.bool false, .slice none 0 0]) zc65 pl65 trivial rfl) ?_
             refine lw_e (oe_store (v := .agg #[.bool false, .slice none 0 0]) (vs := [.bool false, .slice none 0 0]) (l := [.bool false, .slice none 0 0]) (T rfl f253) (T rfl rfl) sz65 rfl rfl rfl H258 rfl ?_)
             intro w272 s273 H274
             have E275 := below_st E257 N4 s273
             refine lw_v (.bool false) (dv_assign C) ?_
             refine lw_nil ?_
             refine rk_ret Try.func58 (v := .tuple #[.agg #[.bool false, .slice none 0 0], .bool false]) (res2 Try.results58 (rv_cells (l := [.bool false, .slice none 0 0]) agt65 sz65 rfl f253 H274 rfl) (rv_tmp rfl rfl)) ⟨_, rfl, ?_⟩
             have hno : ¬ (formD L ∧ (digD L).length ≤ 77) := (fun hh => by have h1 := (formD_iff hD hng).1 hh.1; have h2 := hh.2; rw [hD] at h2; first | omega | (have h3 := h1.2.2 (by assumption); first | omega | (have h4 := h3.1; simp_all)))
             exact ⟨_, _, _, _, 0, tu2 rfl (vf hno), E275, Num.zero, fun hh => absurd hh hno⟩
           · refine lw_vy (.string (bOf D)) (d := 37) rfl rfl (congrArg Value.bool hb271) (dv_move (T rfl f255)) ?_
             refine lw_vy (.int .i64 ((D.length : Int))) (d := 37) rfl rfl (congrArg Value.bool hb271) (dv_lenS (L := D) ut9 (T rfl rfl)) ?_
             refine lw_vy (.bool (decide (1 < ((D.length : Int))))) (d := 37) rfl rfl (congrArg Value.bool hb271) (dv_gtr (a := (D.length : Int)) (b := 1) (T rfl rfl) C) ?_
             refine lw_vy (.bool (decide (1 < ((D.length : Int))))) (d := 35) rfl rfl (congrArg Value.bool (decide_eq_true hb270)) (dv_pick_f (T rfl (congrArg Value.bool hb271)) (T rfl rfl)) ?_
             refine lw_vy (.bool (decide (1 < ((D.length : Int))))) (d := 31) rfl rfl (congrArg Value.bool (decide_eq_false hb264)) (dv_pick_t (T rfl (congrArg Value.bool (decide_eq_true hb270))) (T rfl rfl)) ?_
             refine lw_v (.bool (decide (1 < ((D.length : Int))))) (dv_pick_f (T rfl (congrArg Value.bool (decide_eq_false hb264))) (T rfl rfl)) ?_
             refine lw_nil ?_
             by_cases hb276 : 1 < ((D.length : Int))
             · refine rk_ct (T rfl (congrArg Value.bool (decide_eq_true hb276))) ?_
               refine rk_seq ?_
               refine rk_reg ?_
               refine lw_v (.agg #[.bool false, .slice none 0 0]) (dv_build (pv := []) (l := [.bool false, .slice none 0 0]) zc65 pl65 trivial rfl) ?_
               refine lw_e (oe_store (v := .agg #[.bool false, .slice none 0 0]) (vs := [.bool false, .slice none 0 0]) (l := [.bool false, .slice none 0 0]) (T rfl f253) (T rfl rfl) sz65 rfl rfl rfl H258 rfl ?_)
               intro w277 s278 H279
               have E280 := below_st E257 N4 s278
               refine lw_v (.bool false) (dv_assign C) ?_
               refine lw_nil ?_
               refine rk_ret Try.func58 (v := .tuple #[.agg #[.bool false, .slice none 0 0], .bool false]) (res2 Try.results58 (rv_cells (l := [.bool false, .slice none 0 0]) agt65 sz65 rfl f253 H279 rfl) (rv_tmp rfl rfl)) ⟨_, rfl, ?_⟩
               have hno : ¬ (formD L ∧ (digD L).length ≤ 77) := (fun hh => by have h1 := (formD_iff hD hng).1 hh.1; have h2 := hh.2; rw [hD] at h2; first | omega | (have h3 := h1.2.2 (by assumption); first | omega | (have h4 := h3.1; simp_all)))
               exact ⟨_, _, _, _, 0, tu2 rfl (vf hno), E280, Num.zero, fun hh => absurd hh hno⟩
             · refine rk_cf (T rfl (congrArg Value.bool (decide_eq_false hb276))) ?_
               refine rk_skip ?_
               refine rk_seq ?_
               refine rk_reg ?_
               refine lw_v (.agg #[.bool false, .slice none 0 0]) (dv_build (pv := []) (l := [.bool false, .slice none 0 0]) zc65 pl65 trivial rfl) ?_
               refine lw_e (oe_alloc ze65 ?_)
               intro b281 w282 n283
               have N284 : w.heap.size ≤ b281 := n283.eq ▸ E257.size
               have : b1 < b281 := n283.eq ▸ lt_of_blk H258
               have E285 := below_ext E257 E257.size n283.ext
               refine lw_e (oe_store (v := .agg #[.bool false, .slice none 0 0]) (vs := [.bool false, .slice none 0 0]) (l := [.bool false, .slice none 0 0]) (T rfl rfl) (T rfl rfl) sz65 rfl rfl rfl n283.blk rfl ?_)
               intro w286 s287 H288
               have E289 := below_st E285 N284 s287
               refine lw_nil ?_
               refine rk_seq ?_
               refine rk_seq ?_
               refine rk_reg ?_
               refine lw_v (.int .i64 0) (dv_assign C) ?_
               refine lw_nil ?_
               refine rk_block ?_
               have H290 := (s287.blk (n283.ext.blk H258) (by omega))
               refine rk_loop (fun dm_ fr wl => ∃ (i : Nat) (nz : Bool) (Az : Option Addr) (lz cz : Nat), dm_ = D.length - i ∧ fr 4 = .pointer (some ⟨b1, 0, none⟩) ∧ fr 6 = .string (bOf D) ∧ fr 7 = .bool ng ∧ fr 8 = .pointer (some ⟨b281, 0, none⟩) ∧ fr 9 = .int .i64 ((i : Int)) ∧ Below w.heap.size w wl ∧ wl.heap[b1]? = some (.cells #[.bool false, .slice none 0 0] 65) ∧ wl.heap[b281]? = some (.cells #[.bool nz, .slice Az lz cz] 65) ∧ Num 32 95 .u32 wl nz Az lz cz (valD (D.take i)) S ∧ (i ≤ D.length) ∧ (∀ c ∈ D.take i, isD c)) (D.length - 0) ⟨0, false, none, 0, 0, rfl, f253, f255, f256, rfl, (vi (by omega)), E289, H290, H288, Num.zero, (Nat.zero_le _), (fun c hc => by cases hc)⟩ ?_
               intro d295 fr294 w291 hI292 ih293
               obtain ⟨i, nz, Az, lz, cz, hd305, f296, f297, f298, f299, f300, E301, H302, H303, h304, hi, hdg⟩ := hI292
               have lh304 := Num.len (by decide) h304
               refine rk_seq ?_
               refine rk_seq ?_
               refine rk_reg ?_
               refine lw_v (.int .i64 ((i : Int))) (dv_move (T rfl f300)) ?_
               refine lw_v (.string (bOf D)) (dv_move (T rfl f297)) ?_
               refine lw_v (.int .i64 ((D.length : Int))) (dv_lenS (L := D) ut9 (T rfl rfl)) ?_
               refine lw_v (.bool (decide (((i : Int)) < ((D.length : Int))))) (dv_lss (a := (i : Int)) (b := (D.length : Int)) (T rfl rfl) (T rfl rfl)) ?_
               refine lw_nil ?_
               by_cases hb306 : ((i : Int)) < ((D.length : Int))
               · refine rk_ct (T rfl (congrArg Value.bool (decide_eq_true hb306))) ?_
                 refine rk_skip ?_
                 refine rk_seq ?_
                 refine rk_block ?_
                 refine rk_seq ?_
                 refine rk_seq ?_
                 refine rk_reg ?_
                 refine lw_v (.string (bOf D)) (dv_move (T rfl f297)) ?_
                 refine lw_v (.int .i64 ((i : Int))) (dv_move (T rfl f300)) ?_
                 have bg307 := okW.getD (okD hD hL) (by decide) i
                 refine lw_v (.int .u8 (D.getD i 0)) (dv_indexS (L := D) (i := i) (j := (i : Int)) ut9 (T rfl rfl) (T rfl rfl) (okD hD hL) (by omega) (by first | omega | (simp; done) | (simp; omega))) ?_
                 refine lw_v (.bool (decide ((D.getD i 0) < 48))) (dv_lss (a := D.getD i 0) (b := 48) (T rfl rfl) C) ?_
                 refine lw_v (.bool (decide ((D.getD i 0) < 48))) (dv_move (T rfl rfl)) ?_
                 by_cases hb308 : (D.getD i 0) < 48
                 · refine lw_no (d := 56) rfl rfl (congrArg Value.bool (decide_eq_true hb308)) ?_
                   refine lw_no (d := 56) rfl rfl (congrArg Value.bool (decide_eq_true hb308)) ?_
                   refine lw_no (d := 56) rfl rfl (congrArg Value.bool (decide_eq_true hb308)) ?_
                   refine lw_no (d := 56) rfl rfl (congrArg Value.bool (decide_eq_true hb308)) ?_
                   refine lw_v (.bool true) (dv_pick_t (T rfl (congrArg Value.bool (decide_eq_true hb308))) C) ?_
                   refine lw_nil ?_
                   refine rk_ct (T rfl rfl) ?_
                   refine rk_seq ?_
                   refine rk_reg ?_
                   refine lw_v (.agg #[.bool false, .slice none 0 0]) (dv_build (pv := []) (l := [.bool false, .slice none 0 0]) zc65 pl65 trivial rfl) ?_
                   refine lw_e (oe_store (v := .agg #[.bool false, .slice none 0 0]) (vs := [.bool false, .slice none 0 0]) (l := [.bool false, .slice none 0 0]) (T rfl f296) (T rfl rfl) sz65 rfl rfl rfl H302 rfl ?_)
                   intro w309 s310 H311
                   have E312 := below_st E301 N4 s310
                   refine lw_v (.bool false) (dv_assign C) ?_
                   refine lw_nil ?_
                   refine rk_ret Try.func58 (v := .tuple #[.agg #[.bool false, .slice none 0 0], .bool false]) (res2 Try.results58 (rv_cells (l := [.bool false, .slice none 0 0]) agt65 sz65 rfl f296 H311 rfl) (rv_tmp rfl rfl)) ⟨_, rfl, ?_⟩
                   have hno : ¬ (formD L ∧ (digD L).length ≤ 77) := (fun hh => not_formD hD (i := i) (by omega) (fun hd => by unfold isD at hd; omega) hh.1)
                   exact ⟨_, _, _, _, 0, tu2 rfl (vf hno), E312, Num.zero, fun hh => absurd hh hno⟩
                 · refine lw_vy (.string (bOf D)) (d := 56) rfl rfl (congrArg Value.bool (decide_eq_false hb308)) (dv_move (T rfl f297)) ?_
                   refine lw_vy (.int .i64 ((i : Int))) (d := 56) rfl rfl (congrArg Value.bool (decide_eq_false hb308)) (dv_move (T rfl f300)) ?_
                   have bg313 := okW.getD (okD hD hL) (by decide) i
                   refine lw_vy (.int .u8 (D.getD i 0)) (d := 56) rfl rfl (congrArg Value.bool (decide_eq_false hb308)) (dv_indexS (L := D) (i := i) (j := (i : Int)) ut9 (T rfl rfl) (T rfl rfl) (okD hD hL) (by omega) (by first | omega | (simp; done) | (simp; omega))) ?_
                   refine lw_vy (.bool (decide (57 < (D.getD i 0)))) (d := 56) rfl rfl (congrArg Value.bool (decide_eq_false hb308)) (dv_gtr (a := D.getD i 0) (b := 57) (T rfl rfl) C) ?_
                   refine lw_v (.bool (decide (57 < (D.getD i 0)))) (dv_pick_f (T rfl (congrArg Value.bool (decide_eq_false hb308))) (T rfl rfl)) ?_
                   refine lw_nil ?_
                   by_cases hb314 : 57 < (D.getD i 0)
                   · refine rk_ct (T rfl (congrArg Value.bool (decide_eq_true hb314))) ?_
                     refine rk_seq ?_
                     refine rk_reg ?_
                     refine lw_v (.agg #[.bool false, .slice none 0 0]) (dv_build (pv := []) (l := [.bool false, .slice none 0 0]) zc65 pl65 trivial rfl) ?_
                     refine lw_e (oe_store (v := .agg #[.bool false, .slice none 0 0]) (vs := [.bool false, .slice none 0 0]) (l := [.bool false, .slice none 0 0]) (T rfl f296) (T rfl rfl) sz65 rfl rfl rfl H302 rfl ?_)
                     intro w315 s316 H317
                     have E318 := below_st E301 N4 s316
                     refine lw_v (.bool false) (dv_assign C) ?_
                     refine lw_nil ?_
                     refine rk_ret Try.func58 (v := .tuple #[.agg #[.bool false, .slice none 0 0], .bool false]) (res2 Try.results58 (rv_cells (l := [.bool false, .slice none 0 0]) agt65 sz65 rfl f296 H317 rfl) (rv_tmp rfl rfl)) ⟨_, rfl, ?_⟩
                     have hno : ¬ (formD L ∧ (digD L).length ≤ 77) := (fun hh => not_formD hD (i := i) (by omega) (fun hd => by unfold isD at hd; omega) hh.1)
                     exact ⟨_, _, _, _, 0, tu2 rfl (vf hno), E318, Num.zero, fun hh => absurd hh hno⟩
                   · refine rk_cf (T rfl (congrArg Value.bool (decide_eq_false hb314))) ?_
                     refine rk_skip ?_
                     refine rk_any (fun w => w.heap[b281]? = some (.cells #[.bool nz, .slice Az lz cz] 65)) [10] mo ?_
                     intro w319 d320
                     have E321 := below_ext E301 E301.size d320.ext
                     have H322 := (d320.ext.blk H303)
                     refine aw_load 0 (.agg #[.bool nz, .slice Az lz cz]) rfl (by kernel_rfl) .none H322 (fun _ s => dv_loads (l := [.bool nz, .slice Az lz cz]) agt65 sz65 (T rfl f299) s rfl) ?_
                     refine aw_pure 3 (.string (bOf D)) rfl (by kernel_rfl) .none H322 (fun _ => dv_move (T rfl f297)) ?_
                     refine aw_pure 4 (.int .i64 ((i : Int))) rfl (by kernel_rfl) .none H322 (fun _ => dv_move (T rfl f300)) ?_
                     have bg323 := okW.getD (okD hD hL) (by decide) i
                     refine aw_pure 5 (.int .u8 (D.getD i 0)) rfl (by kernel_rfl) .none H322 (fun _ => dv_indexS (L := D) (i := i) (j := (i : Int)) ut9 (T rfl rfl) (T rfl rfl) (okD hD hL) (by omega) (by first | omega | (simp; done) | (simp; omega))) ?_
                     refine aw_pure 6 (.int .u8 ((D.getD i 0) - 48)) rfl (by kernel_rfl) .none H322 (fun _ => dv_sub (a := D.getD i 0) (b := 48) (z := (D.getD i 0) - 48) (T rfl rfl) C (wn_u8 (by omega) (by omega))) ?_
                     refine aw_pure 7 (.int .i64 ((D.getD i 0) - 48)) rfl (by kernel_rfl) .none H322 (fun _ => dv_conv (a := (D.getD i 0) - 48) (z := (D.getD i 0) - 48) ui5 ui2 (T rfl rfl) (wr_i64 (by omega) (by omega))) ?_
                     refine aw_one 1 rfl (by kernel_rfl) .none (oe_callf (vs := [.int .i64 10]) co79 (ar1 C) (l1Int_ok  (by omega)) ?_)
                     rintro _ w329 ⟨nr324, A325, n326, c327, rfl, e330, h328⟩
                     have E331 := below_ext E321 E321.size e330
                     have lh328 := Num.len (by decide) h328
                     have H332 := (e330.blk H322)
                     refine ⟨.inr H332, ?_⟩
                     have h333 := ((h304.ext d320.ext).ext e330)
                     refine aw_one 2 rfl (by kernel_rfl) .none (oe_callf (vs := [.agg #[.bool nz, .slice Az lz cz], .agg #[.bool nr324, .slice A325 n326 c327]]) co78 (ar2 (T rfl rfl) (T rfl rfl)) (l1Mul_ok h333 h328 (by first | decide | omega) (by first | decide | omega)) ?_)
                     rintro _ w339 ⟨nr334, A335, n336, c337, rfl, e340, h338⟩
                     have E341 := below_ext E331 E331.size e340
                     have lh338 := Num.len (by decide) h338
                     have H342 := (e340.blk H332)
                     refine ⟨.inr H342, ?_⟩
                     refine aw_one 8 rfl (by kernel_rfl) .none (oe_callf (vs := [.int .i64 ((D.getD i 0) - 48)]) co79 (ar1 (T rfl rfl)) (l1Int_ok  (by omega)) ?_)
                     rintro _ w348 ⟨nr343, A344, n345, c346, rfl, e349, h347⟩
                     have E350 := below_ext E341 E341.size e349
                     have lh347 := Num.len (by decide) h347
                     have H351 := (e349.blk H342)
                     refine ⟨.inr H351, ?_⟩
                     have h352 := (h338.ext e349)
                     refine aw_one 9 rfl (by kernel_rfl) .none (oe_callf (vs := [.agg #[.bool nr334, .slice A335 n336 c337], .agg #[.bool nr343, .slice A344 n345 c346]]) co55 (ar2 (T rfl rfl) (T rfl rfl)) (l1Add_ok h352 h347 (by first | decide | omega) (by first | decide | omega)) ?_)
                     rintro _ w358 ⟨nr353, A354, n355, c356, rfl, e359, h357⟩
                     have E360 := below_ext E350 E350.size e359
                     have lh357 := Num.len (by decide) h357
                     have H361 := (e359.blk H351)
                     refine ⟨.inr H361, ?_⟩
                     refine aw_one 10 rfl (by kernel_rfl) .none (oe_store (v := .agg #[.bool nr353, .slice A354 n355 c356]) (vs := [.bool nr353, .slice A354 n355 c356]) (l := [.bool nr353, .slice A354 n355 c356]) (T rfl f299) (T rfl rfl) sz65 rfl rfl rfl H361 rfl ?_)
                     intro w362 s363 H364
                     have E365 := below_st E360 N284 s363
                     refine ⟨.inl rfl, ?_⟩
                     refine aw_done (by kernel_rfl) ?_
                     refine rk_inBlock ?_
                     refine rk_reg ?_
                     refine lw_v (.int .i64 ((i : Int))) (dv_move (T rfl f300)) ?_
                     refine lw_v (.int .i64 (((i : Int)) + 1)) (dv_add (a := (i : Int)) (b := 1) (z := ((i : Int)) + 1) (T rfl rfl) C (wr_i64 (by omega) (by omega))) ?_
                     refine lw_v (.int .i64 (((i : Int)) + 1)) (dv_assign (T rfl rfl)) ?_
                     refine lw_nil ?_
                     have h366 := (h357.st s363 H361 (by decide))
                     have hd367 : ∀ c ∈ D.take (i + 1), isD c := isD_take (by omega) hdg ⟨by omega, by omega⟩
                     have H368 := (s363.blk (e359.blk (e349.blk (e340.blk (e330.blk (d320.ext.blk H302))))) (by omega))
                     exact ih293 (D.length - ((i + 1))) _ _ (by rw [hd305]; omega) ⟨(i + 1), nr353, A354, n355, c356, rfl, f296, f297, f298, f299, (vi (by omega)), E365, H368, H364, (h366.tight (valD_take (by omega)).symm (valD_sz hd367 (by simp; omega))), (by omega), hd367⟩
               · refine rk_cf (T rfl (congrArg Value.bool (decide_eq_false hb306))) ?_
                 refine rk_exit rfl ?_
                 refine rk_seq ?_
                 refine rk_seq ?_
                 refine rk_reg ?_
                 refine lw_v (.bool ng) (dv_move (T rfl f298)) ?_
                 refine lw_nil ?_
                 refine rk_cf (T rfl (congrArg Value.bool hb271)) ?_
                 refine rk_skip ?_
                 refine rk_seq ?_
                 refine rk_reg ?_
                 refine lw_v (.agg #[.bool nz, .slice Az lz cz]) (dv_loads (l := [.bool nz, .slice Az lz cz]) agt65 sz65 (T rfl f299) H303 rfl) ?_
                 refine lw_e (oe_store (v := .agg #[.bool nz, .slice Az lz cz]) (vs := [.bool nz, .slice Az lz cz]) (l := [.bool nz, .slice Az lz cz]) (T rfl f296) (T rfl rfl) sz65 rfl rfl rfl H302 rfl ?_)
                 intro w369 s370 H371
                 have E372 := below_st E301 N4 s370
                 refine lw_v (.bool true) (dv_assign C) ?_
                 refine lw_nil ?_
                 refine rk_ret Try.func58 (v := .tuple #[.agg #[.bool nz, .slice Az lz cz], .bool true]) (res2 Try.results58 (rv_cells (l := [.bool nz, .slice Az lz cz]) agt65 sz65 rfl f296 H371 rfl) (rv_tmp rfl rfl)) ⟨_, rfl, ?_⟩
                 have h373 := (h304.st s370 H302 (by decide))
                 have hz1 := numD_of2 (i := i) hD hng (by omega)
                 have hz2 := (numD_of (i := i) hD hng (by omega) hdg).2
                 have hbn : ng = false := by assumption
                 have hzz : valD (D.take i) = numD L := by rw [← hz1, hbn]; rfl
                 exact ⟨_, _, _, _, _, tu2 rfl (vt ⟨(formD_iff hD hng).2 ⟨by omega, hz2, fun h48 => by first | (exfalso; omega) | (exact absurd h48 (by assumption)) | exact ⟨by assumption, by omega⟩⟩, by rw [hD]; omega⟩), E372, h373, fun _ => hzz⟩
         · refine lw_no (d := 35) rfl rfl (congrArg Value.bool (decide_eq_false hb270)) ?_
           refine lw_no (d := 35) rfl rfl (congrArg Value.bool (decide_eq_false hb270)) ?_
           refine lw_nou (d := 37) rfl rfl ?_
           refine lw_nou (d := 37) rfl rfl ?_
           refine lw_nou (d := 37) rfl rfl ?_
           refine lw_no (d := 35) rfl rfl (congrArg Value.bool (decide_eq_false hb270)) ?_
           refine lw_vy (.bool false) (d := 31) rfl rfl (congrArg Value.bool (decide_eq_false hb264)) (dv_pick_f (T rfl (congrArg Value.bool (decide_eq_false hb270))) C) ?_
           refine lw_v (.bool false) (dv_pick_f (T rfl (congrArg Value.bool (decide_eq_false hb264))) (T rfl rfl)) ?_
           refine lw_nil ?_
           refine rk_cf (T rfl rfl) ?_
           refine rk_skip ?_
           refine rk_seq ?_
           refine rk_reg ?_
           refine lw_v (.agg #[.bool false, .slice none 0 0]) (dv_build (pv := []) (l := [.bool false, .slice none 0 0]) zc65 pl65 trivial rfl) ?_
           refine lw_e (oe_alloc ze65 ?_)
           intro b374 w375 n376
           have N377 : w.heap.size ≤ b374 := n376.eq ▸ E257.size
           have : b1 < b374 := n376.eq ▸ lt_of_blk H258
           have E378 := below_ext E257 E257.size n376.ext
           refine lw_e (oe_store (v := .agg #[.bool false, .slice none 0 0]) (vs := [.bool false, .slice none 0 0]) (l := [.bool false, .slice none 0 0]) (T rfl rfl) (T rfl rfl) sz65 rfl rfl rfl n376.blk rfl ?_)
           intro w379 s380 H381
           have E382 := below_st E378 N377 s380
           refine lw_nil ?_
           refine rk_seq ?_
           refine rk_seq ?_
           refine rk_reg ?_
           refine lw_v (.int .i64 0) (dv_assign C) ?_
           refine lw_nil ?_
           refine rk_block ?_
           have H383 := (s380.blk (n376.ext.blk H258) (by omega))
           refine rk_loop (fun dm_ fr wl => ∃ (i : Nat) (nz : Bool) (Az : Option Addr) (lz cz : Nat), dm_ = D.length - i ∧ fr 4 = .pointer (some ⟨b1, 0, none⟩) ∧ fr 6 = .string (bOf D) ∧ fr 7 = .bool ng ∧ fr 8 = .pointer (some ⟨b374, 0, none⟩) ∧ fr 9 = .int .i64 ((i : Int)) ∧ Below w.heap.size w wl ∧ wl.heap[b1]? = some (.cells #[.bool false, .slice none 0 0] 65) ∧ wl.heap[b374]? = some (.cells #[.bool nz, .slice Az lz cz] 65) ∧ Num 32 95 .u32 wl nz Az lz cz (valD (D.take i)) S ∧ (i ≤ D.length) ∧ (∀ c ∈ D.take i, isD c)) (D.length - 0) ⟨0, false, none, 0, 0, rfl, f253, f255, f256, rfl, (vi (by omega)), E382, H383, H381, Num.zero, (Nat.zero_le _), (fun c hc => by cases hc)⟩ ?_
           intro d388 fr387 w384 hI385 ih386
           obtain ⟨i, nz, Az, lz, cz, hd398, f389, f390, f391, f392, f393, E394, H395, H396, h397, hi, hdg⟩ := hI385
           have lh397 := Num.len (by decide) h397
           refine rk_seq ?_
           refine rk_seq ?_
           refine rk_reg ?_
           refine lw_v (.int .i64 ((i : Int))) (dv_move (T rfl f393)) ?_
           refine lw_v (.string (bOf D)) (dv_move (T rfl f390)) ?_
           refine lw_v (.int .i64 ((D.length : Int))) (dv_lenS (L := D) ut9 (T rfl rfl)) ?_
           refine lw_v (.bool (decide (((i : Int)) < ((D.length : Int))))) (dv_lss (a := (i : Int)) (b := (D.length : Int)) (T rfl rfl) (T rfl rfl)) ?_
           refine lw_nil ?_
           by_cases hb399 : ((i : Int)) < ((D.length : Int))
           · refine rk_ct (T rfl (congrArg Value.bool (decide_eq_true hb399))) ?_
             refine rk_skip ?_
             refine rk_seq ?_
             refine rk_block ?_
             refine rk_seq ?_
             refine rk_seq ?_
             refine rk_reg ?_
             refine lw_v (.string (bOf D)) (dv_move (T rfl f390)) ?_
             refine lw_v (.int .i64 ((i : Int))) (dv_move (T rfl f393)) ?_
             have bg400 := okW.getD (okD hD hL) (by decide) i
             refine lw_v (.int .u8 (D.getD i 0)) (dv_indexS (L := D) (i := i) (j := (i : Int)) ut9 (T rfl rfl) (T rfl rfl) (okD hD hL) (by omega) (by first | omega | (simp; done) | (simp; omega))) ?_
             refine lw_v (.bool (decide ((D.getD i 0) < 48))) (dv_lss (a := D.getD i 0) (b := 48) (T rfl rfl) C) ?_
             refine lw_v (.bool (decide ((D.getD i 0) < 48))) (dv_move (T rfl rfl)) ?_
             by_cases hb401 : (D.getD i 0) < 48
             · refine lw_no (d := 56) rfl rfl (congrArg Value.bool (decide_eq_true hb401)) ?_
               refine lw_no (d := 56) rfl rfl (congrArg Value.bool (decide_eq_true hb401)) ?_
               refine lw_no (d := 56) rfl rfl (congrArg Value.bool (decide_eq_true hb401)) ?_
               refine lw_no (d := 56) rfl rfl (congrArg Value.bool (decide_eq_true hb401)) ?_
               refine lw_v (.bool true) (dv_pick_t (T rfl (congrArg Value.bool (decide_eq_true hb401))) C) ?_
               refine lw_nil ?_
               refine rk_ct (T rfl rfl) ?_
               refine rk_seq ?_
               refine rk_reg ?_
               refine lw_v (.agg #[.bool false, .slice none 0 0]) (dv_build (pv := []) (l := [.bool false, .slice none 0 0]) zc65 pl65 trivial rfl) ?_
               refine lw_e (oe_store (v := .agg #[.bool false, .slice none 0 0]) (vs := [.bool false, .slice none 0 0]) (l := [.bool false, .slice none 0 0]) (T rfl f389) (T rfl rfl) sz65 rfl rfl rfl H395 rfl ?_)
               intro w402 s403 H404
               have E405 := below_st E394 N4 s403
               refine lw_v (.bool false) (dv_assign C) ?_
               refine lw_nil ?_
               refine rk_ret Try.func58 (v := .tuple #[.agg #[.bool false, .slice none 0 0], .bool false]) (res2 Try.results58 (rv_cells (l := [.bool false, .slice none 0 0]) agt65 sz65 rfl f389 H404 rfl) (rv_tmp rfl rfl)) ⟨_, rfl, ?_⟩
               have hno : ¬ (formD L ∧ (digD L).length ≤ 77) := (fun hh => not_formD hD (i := i) (by omega) (fun hd => by unfold isD at hd; omega) hh.1)
               exact ⟨_, _, _, _, 0, tu2 rfl (vf hno), E405, Num.zero, fun hh => absurd hh hno⟩
             · refine lw_vy (.string (bOf D)) (d := 56) rfl rfl (congrArg Value.bool (decide_eq_false hb401)) (dv_move (T rfl f390)) ?_
               refine lw_vy (.int .i64 ((i : Int))) (d := 56) rfl rfl (congrArg Value.bool (decide_eq_false hb401)) (dv_move (T rfl f393)) ?_
               have bg406 := okW.getD (okD hD hL) (by decide) i
               refine lw_vy (.int .u8 (D.getD i 0)) (d := 56) rfl rfl (congrArg Value.bool (decide_eq_false hb401)) (dv_indexS (L := D) (i := i) (j := (i : Int)) ut9 (T rfl rfl) (T rfl rfl) (okD hD hL) (by omega) (by first | omega | (simp; done) | (simp; omega))) ?_
               refine lw_vy (.bool (decide (57 < (D.getD i 0)))) (d := 56) rfl rfl (congrArg Value.bool (decide_eq_false hb401)) (dv_gtr (a := D.getD i 0) (b := 57) (T rfl rfl) C) ?_
               refine lw_v (.bool (decide (57 < (D.getD i 0)))) (dv_pick_f (T rfl (congrArg Value.bool (decide_eq_false hb401))) (T rfl rfl)) ?_
               refine lw_nil ?_
               by_cases hb407 : 57 < (D.getD i 0)
               · refine rk_ct (T rfl (congrArg Value.bool (decide_eq_true hb407))) ?_
                 refine rk_seq ?_
                 refine rk_reg ?_
                 refine lw_v (.agg #[.bool false, .slice none 0 0]) (dv_build (pv := []) (l := [.bool false, .slice none 0 0]) zc65 pl65 trivial rfl) ?_
                 refine lw_e (oe_store (v := .agg #[.bool false, .slice none 0 0]) (vs := [.bool false, .slice none 0 0]) (l := [.bool false, .slice none 0 0]) (T rfl f389) (T rfl rfl) sz65 rfl rfl rfl H395 rfl ?_)
                 intro w408 s409 H410
                 have E411 := below_st E394 N4 s409
                 refine lw_v (.bool false) (dv_assign C) ?_
                 refine lw_nil ?_
                 refine rk_ret Try.func58 (v := .tuple #[.agg #[.bool false, .slice none 0 0], .bool false]) (res2 Try.results58 (rv_cells (l := [.bool false, .slice none 0 0]) agt65 sz65 rfl f389 H410 rfl) (rv_tmp rfl rfl)) ⟨_, rfl, ?_⟩
                 have hno : ¬ (formD L ∧ (digD L).length ≤ 77) := (fun hh => not_formD hD (i := i) (by omega) (fun hd => by unfold isD at hd; omega) hh.1)
                 exact ⟨_, _, _, _, 0, tu2 rfl (vf hno), E411, Num.zero, fun hh => absurd hh hno⟩
               · refine rk_cf (T rfl (congrArg Value.bool (decide_eq_false hb407))) ?_
                 refine rk_skip ?_
                 refine rk_any (fun w => w.heap[b374]? = some (.cells #[.bool nz, .slice Az lz cz] 65)) [10] mo ?_
                 intro w412 d413
                 have E414 := below_ext E394 E394.size d413.ext
                 have H415 := (d413.ext.blk H396)
                 refine aw_load 0 (.agg #[.bool nz, .slice Az lz cz]) rfl (by kernel_rfl) .none H415 (fun _ s => dv_loads (l := [.bool nz, .slice Az lz cz]) agt65 sz65 (T rfl f392) s rfl) ?_
                 refine aw_pure 3 (.string (bOf D)) rfl (by kernel_rfl) .none H415 (fun _ => dv_move (T rfl f390)) ?_
                 refine aw_pure 4 (.int .i64 ((i : Int))) rfl (by kernel_rfl) .none H415 (fun _ => dv_move (T rfl f393)) ?_
                 have bg416 := okW.getD (okD hD hL) (by decide) i
                 refine aw_pure 5 (.int .u8 (D.getD i 0)) rfl (by kernel_rfl) .none H415 (fun _ => dv_indexS (L := D) (i := i) (j := (i : Int)) ut9 (T rfl rfl) (T rfl rfl) (okD hD hL) (by omega) (by first | omega | (simp; done) | (simp; omega))) ?_
                 refine aw_pure 6 (.int .u8 ((D.getD i 0) - 48)) rfl (by kernel_rfl) .none H415 (fun _ => dv_sub (a := D.getD i 0) (b := 48) (z := (D.getD i 0) - 48) (T rfl rfl) C (wn_u8 (by omega) (by omega))) ?_
                 refine aw_pure 7 (.int .i64 ((D.getD i 0) - 48)) rfl (by kernel_rfl) .none H415 (fun _ => dv_conv (a := (D.getD i 0) - 48) (z := (D.getD i 0) - 48) ui5 ui2 (T rfl rfl) (wr_i64 (by omega) (by omega))) ?_
                 refine aw_one 1 rfl (by kernel_rfl) .none (oe_callf (vs := [.int .i64 10]) co79 (ar1 C) (l1Int_ok  (by omega)) ?_)
                 rintro _ w422 ⟨nr417, A418, n419, c420, rfl, e423, h421⟩
                 have E424 := below_ext E414 E414.size e423
                 have lh421 := Num.len (by decide) h421
                 have H425 := (e423.blk H415)
                 refine ⟨.inr H425, ?_⟩
                 have h426 := ((h397.ext d413.ext).ext e423)
                 refine aw_one 2 rfl (by kernel_rfl) .none (oe_callf (vs := [.agg #[.bool nz, .slice Az lz cz], .agg #[.bool nr417, .slice A418 n419 c420]]) co78 (ar2 (T rfl rfl) (T rfl rfl)) (l1Mul_ok h426 h421 (by first | decide | omega) (by first | decide | omega)) ?_)
                 rintro _ w432 ⟨nr427, A428, n429, c430, rfl, e433, h431⟩
                 have E434 := below_ext E424 E424.size e433
                 have lh431 := Num.len (by decide) h431
                 have H435 := (e433.blk H425)
                 refine ⟨.inr H435, ?_⟩
                 refine aw_one 8 rfl (by kernel_rfl) .none (oe_callf (vs := [.int .i64 ((D.getD i 0) - 48)]) co79 (ar1 (T rfl rfl)) (l1Int_ok  (by omega)) ?_)
                 rintro _ w441 ⟨nr436, A437, n438, c439, rfl, e442, h440⟩
                 have E443 := below_ext E434 E434.size e442
                 have lh440 := Num.len (by decide) h440
                 have H444 := (e442.blk H435)
                 refine ⟨.inr H444, ?_⟩
                 have h445 := (h431.ext e442)
                 refine aw_one 9 rfl (by kernel_rfl) .none (oe_callf (vs := [.agg #[.bool nr427, .slice A428 n429 c430], .agg #[.bool nr436, .slice A437 n438 c439]]) co55 (ar2 (T rfl rfl) (T rfl rfl)) (l1Add_ok h445 h440 (by first | decide | omega) (by first | decide | omega)) ?_)
                 rintro _ w451 ⟨nr446, A447, n448, c449, rfl, e452, h450⟩
                 have E453 := below_ext E443 E443.size e452
                 have lh450 := Num.len (by decide) h450
                 have H454 := (e452.blk H444)
                 refine ⟨.inr H454, ?_⟩
                 refine aw_one 10 rfl (by kernel_rfl) .none (oe_store (v := .agg #[.bool nr446, .slice A447 n448 c449]) (vs := [.bool nr446, .slice A447 n448 c449]) (l := [.bool nr446, .slice A447 n448 c449]) (T rfl f392) (T rfl rfl) sz65 rfl rfl rfl H454 rfl ?_)
                 intro w455 s456 H457
                 have E458 := below_st E453 N377 s456
                 refine ⟨.inl rfl, ?_⟩
                 refine aw_done (by kernel_rfl) ?_
                 refine rk_inBlock ?_
                 refine rk_reg ?_
                 refine lw_v (.int .i64 ((i : Int))) (dv_move (T rfl f393)) ?_
                 refine lw_v (.int .i64 (((i : Int)) + 1)) (dv_add (a := (i : Int)) (b := 1) (z := ((i : Int)) + 1) (T rfl rfl) C (wr_i64 (by omega) (by omega))) ?_
                 refine lw_v (.int .i64 (((i : Int)) + 1)) (dv_assign (T rfl rfl)) ?_
                 refine lw_nil ?_
                 have h459 := (h450.st s456 H454 (by decide))
                 have hd460 : ∀ c ∈ D.take (i + 1), isD c := isD_take (by omega) hdg ⟨by omega, by omega⟩
                 have H461 := (s456.blk (e452.blk (e442.blk (e433.blk (e423.blk (d413.ext.blk H395))))) (by omega))
                 exact ih386 (D.length - ((i + 1))) _ _ (by rw [hd398]; omega) ⟨(i + 1), nr446, A447, n448, c449, rfl, f389, f390, f391, f392, (vi (by omega)), E458, H461, H457, (h459.tight (valD_take (by omega)).symm (valD_sz hd460 (by simp; omega))), (by omega), hd460⟩
           · refine rk_cf (T rfl (congrArg Value.bool (decide_eq_false hb399))) ?_
             refine rk_exit rfl ?_
             refine rk_seq ?_
             refine rk_seq ?_
             refine rk_reg ?_
             refine lw_v (.bool ng) (dv_move (T rfl f391)) ?_
             refine lw_nil ?_
             rcases Bool.eq_false_or_eq_true (ng) with hb462 | hb462
             · refine rk_ct (T rfl (congrArg Value.bool hb462)) ?_
               refine rk_reg ?_
               refine lw_v (.agg #[.bool nz, .slice Az lz cz]) (dv_loads (l := [.bool nz, .slice Az lz cz]) agt65 sz65 (T rfl f392) H396 rfl) ?_
               refine lw_e (oe_callf (vs := [.agg #[.bool nz, .slice Az lz cz]]) co96 (ar1 (T rfl rfl)) (l1Neg_ok h397 ) ?_)
               rintro _ w468 ⟨nr463, A464, n465, c466, rfl, e469, h467⟩
               have E470 := below_ext E394 E394.size e469
               have lh467 := Num.len (by decide) h467
               have H471 := (e469.blk H396)
               refine lw_e (oe_store (v := .agg #[.bool nr463, .slice A464 n465 c466]) (vs := [.bool nr463, .slice A464 n465 c466]) (l := [.bool nr463, .slice A464 n465 c466]) (T rfl f392) (T rfl rfl) sz65 rfl rfl rfl H471 rfl ?_)
               intro w472 s473 H474
               have E475 := below_st E470 N377 s473
               refine lw_nil ?_
               refine rk_seq ?_
               refine rk_reg ?_
               refine lw_v (.agg #[.bool nr463, .slice A464 n465 c466]) (dv_loads (l := [.bool nr463, .slice A464 n465 c466]) agt65 sz65 (T rfl f392) H474 rfl) ?_
               have H476 := (s473.blk (e469.blk H395) (by omega))
               refine lw_e (oe_store (v := .agg #[.bool nr463, .slice A464 n465 c466]) (vs := [.bool nr463, .slice A464 n465 c466]) (l := [.bool nr463, .slice A464 n465 c466]) (T rfl f389) (T rfl rfl) sz65 rfl rfl rfl H476 rfl ?_)
               intro w477 s478 H479
               have E480 := below_st E475 N4 s478
               refine lw_v (.bool true) (dv_assign C) ?_
               refine lw_nil ?_
               refine rk_ret Try.func58 (v := .tuple #[.agg #[.bool nr463, .slice A464 n465 c466], .bool true]) (res2 Try.results58 (rv_cells (l := [.bool nr463, .slice A464 n465 c466]) agt65 sz65 rfl f389 H479 rfl) (rv_tmp rfl rfl)) ⟨_, rfl, ?_⟩
               have h481 := ((h467.st s473 H471 (by decide)).st s478 H476 (by decide))
               have hz1 := numD_of2 (i := i) hD hng (by omega)
               have hz2 := (numD_of (i := i) hD hng (by omega) hdg).2
               have hbn : ng = true := by assumption
               have hzz : -(valD (D.take i)) = numD L := by rw [← hz1, hbn]; rfl
               exact ⟨_, _, _, _, _, tu2 rfl (vt ⟨(formD_iff hD hng).2 ⟨by omega, hz2, fun h48 => by first | (exfalso; omega) | (exact absurd h48 (by assumption)) | exact ⟨by assumption, by omega⟩⟩, by rw [hD]; omega⟩), E480, h481, fun _ => hzz⟩
             · refine rk_cf (T rfl (congrArg Value.bool hb462)) ?_
               refine rk_skip ?_
               refine rk_seq ?_
               refine rk_reg ?_
               refine lw_v (.agg #[.bool nz, .slice Az lz cz]) (dv_loads (l := [.bool nz, .slice Az lz cz]) agt65 sz65 (T rfl f392) H396 rfl) ?_
               refine lw_e (oe_store (v := .agg #[.bool nz, .slice Az lz cz]) (vs := [.bool nz, .slice Az lz cz]) (l := [.bool nz, .slice Az lz cz]) (T rfl f389) (T rfl rfl) sz65 rfl rfl rfl H395 rfl ?_)
               intro w482 s483 H484
               have E485 := below_st E394 N4 s483
               refine lw_v (.bool true) (dv_assign C) ?_
               refine lw_nil ?_
               refine rk_ret Try.func58 (v := .tuple #[.agg #[.bool nz, .slice Az lz cz], .bool true]) (res2 Try.results58 (rv_cells (l := [.bool nz, .slice Az lz cz]) agt65 sz65 rfl f389 H484 rfl) (rv_tmp rfl rfl)) ⟨_, rfl, ?_⟩
               have h486 := (h397.st s483 H395 (by decide))
               have hz1 := numD_of2 (i := i) hD hng (by omega)
               have hz2 := (numD_of (i := i) hD hng (by omega) hdg).2
               have hbn : ng = false := by assumption
               have hzz : valD (D.take i) = numD L := by rw [← hz1, hbn]; rfl
               exact ⟨_, _, _, _, _, tu2 rfl (vt ⟨(formD_iff hD hng).2 ⟨by omega, hz2, fun h48 => by first | (exfalso; omega) | (exact absurd h48 (by assumption)) | exact ⟨by assumption, by omega⟩⟩, by rw [hD]; omega⟩), E485, h486, fun _ => hzz⟩
   · refine rk_seq ?_
     refine rk_reg ?_
     refine lw_v (.bool false) (dv_move (T rfl rfl)) ?_
     refine lw_nil ?_
     refine rk_cf (T rfl rfl) ?_
     refine rk_skip ?_
     exact hj250 _ _ ⟨L, false, rfl, rfl, rfl, rfl, rfl, E5, n3.blk, (digD_f (getD0 (by assumption))).1, (digD_f (getD0 (by assumption))).2, (Nat.le_refl _)⟩
set_option maxHeartbeats 1000000 in
theorem iReadWide_ok {w : World} {L : List Int} (hL : okW 256 L) (hl : L.length ≤ 1048576) : Ct Try.prog 24 [.string (bOf L)] w fun v w1 => v = .tuple #[.agg #[.int .u64 (wv3 (rdZ L)), .int .u64 (wv2 (rdZ L)), .int .u64 (wv1 (rdZ L)), .int .u64 (wv0 (rdZ L))], .bool (decide (rdS L))] ∧ Ext w w1 := by
 refine ct_run (n := 18) Try.func24 rfl Try.ntmps24 rfl ?_
 have E0 : Below w.heap.size w w := Below.refl _ _
 refine rk_seq ?_
 refine rk_reg ?_
 refine lw_e (oe_alloc ze26 ?_)
 intro b1 w2 n3
 have N4 : w.heap.size ≤ b1 := n3.eq ▸ E0.size
 have E5 := below_ext E0 E0.size n3.ext
 refine lw_v (.bool false) (dv_assign C) ?_
 refine lw_nil ?_
 refine rk_seq ?_
 refine rk_reg ?_
 refine lw_v (.string (bOf L)) (dv_move (T rfl rfl)) ?_
 refine lw_e (oe_callf (vs := [.string (bOf L)]) co59 (ar1 (T rfl rfl)) (readNum_ok (S := 400) (hL) (by first | omega | (simp; done) | (simp; omega)) (by decide)) ?_)
 rintro _ w13 ⟨nr6, A7, n8, c9, zr10, rfl, e14, h11, hzr12⟩
 have E15 := below_ext E5 E5.size e14
 have lh11 := Num.len (by decide) h11
 refine lw_v (.tuple #[.agg #[.bool nr6, .slice A7 n8 c9], .bool (decide (canD L ∧ L.length ≤ 100))]) (dv_move (T rfl rfl)) ?_
 refine lw_v (.agg #[.bool nr6, .slice A7 n8 c9]) (dv_extract (vs := #[.agg #[.bool nr6, .slice A7 n8 c9], .bool (decide (canD L ∧ L.length ≤ 100))]) (T rfl rfl) rfl) ?_
 refine lw_v (.bool (decide (canD L ∧ L.length ≤ 100))) (dv_extract (vs := #[.agg #[.bool nr6, .slice A7 n8 c9], .bool (decide (canD L ∧ L.length ≤ 100))]) (T rfl rfl) rfl) ?_
 refine lw_e (oe_alloc ze59 ?_)
 intro b16 w17 n18
 have N19 : w.heap.size ≤ b16 := n18.eq ▸ E15.size
 have H20 := (e14.blk n3.blk)
 have : b1 < b16 := n18.eq ▸ lt_of_blk H20
 have E21 := below_ext E15 E15.size n18.ext
 refine lw_e (oe_store (v := .agg #[.bool nr6, .slice A7 n8 c9]) (vs := [.bool nr6, .slice A7 n8 c9]) (l := [.bool nr6, .slice A7 n8 c9]) (T rfl rfl) (T rfl rfl) sz59 rfl rfl rfl n18.blk rfl ?_)
 intro w22 s23 H24
 have E25 := below_st E21 N19 s23
 refine lw_v (.bool (decide (canD L ∧ L.length ≤ 100))) (dv_assign (T rfl rfl)) ?_
 refine lw_nil ?_
 refine rk_seq ?_
 refine rk_seq ?_
 refine rk_reg ?_
 refine lw_v (.bool (decide (canD L ∧ L.length ≤ 100))) (dv_move (T rfl rfl)) ?_
 refine lw_v (.bool (decide (¬ (canD L ∧ L.length ≤ 100)))) (dv_notd (p := canD L ∧ L.length ≤ 100) (T rfl rfl)) ?_
 refine lw_nil ?_
 by_cases hb26 : canD L ∧ L.length ≤ 100
 · refine rk_cf (T rfl (congrArg Value.bool (decide_eq_false (not_not_intro hb26)))) ?_
   refine rk_skip ?_
   refine rk_seq ?_
   refine rk_reg ?_
   refine lw_v (.agg #[.bool nr6, .slice A7 n8 c9]) (dv_loads (l := [.bool nr6, .slice A7 n8 c9]) agt59 sz59 (T rfl rfl) H24 rfl) ?_
   have h27 := ((h11.ext n18.ext).st s23 n18.blk (by decide))
   refine lw_e (oe_callf (vs := [.agg #[.bool nr6, .slice A7 n8 c9]]) co51 (ar1 (T rfl rfl)) (nwide_ok h27 (by first | decide | omega)) ?_)
   rintro _ w29 ⟨rfl, e30⟩
   have E31 := below_ext E25 E25.size e30
   have bw28 := w_rg (zr10)
   refine lw_v (.agg #[.int .u64 (wv3 zr10), .int .u64 (wv2 zr10), .int .u64 (wv1 zr10), .int .u64 (wv0 zr10)]) (dv_extract (vs := #[.agg #[.int .u64 (wv3 zr10), .int .u64 (wv2 zr10), .int .u64 (wv1 zr10), .int .u64 (wv0 zr10)], .bool (decide (fits zr10))]) (T rfl rfl) rfl) ?_
   refine lw_v (.bool (decide (fits zr10))) (dv_extract (vs := #[.agg #[.int .u64 (wv3 zr10), .int .u64 (wv2 zr10), .int .u64 (wv1 zr10), .int .u64 (wv0 zr10)], .bool (decide (fits zr10))]) (T rfl rfl) rfl) ?_
   have H32 := (e30.blk (s23.blk (n18.ext.blk H20) (by omega)))
   refine lw_e (oe_store (v := .agg #[.int .u64 (wv3 zr10), .int .u64 (wv2 zr10), .int .u64 (wv1 zr10), .int .u64 (wv0 zr10)]) (vs := [.int .u64 (wv3 zr10), .int .u64 (wv2 zr10), .int .u64 (wv1 zr10), .int .u64 (wv0 zr10)]) (l := [.int .u64 (wv3 zr10), .int .u64 (wv2 zr10), .int .u64 (wv1 zr10), .int .u64 (wv0 zr10)]) (T rfl rfl) (T rfl rfl) sz26 rfl rfl rfl H32 rfl ?_)
   intro w33 s34 H35
   have E36 := below_st E31 N4 s34
   refine lw_v (.bool (decide (fits zr10))) (dv_assign (T rfl rfl)) ?_
   refine lw_nil ?_
   refine rk_ret Try.func24 (v := .tuple #[.agg #[.int .u64 (wv3 zr10), .int .u64 (wv2 zr10), .int .u64 (wv1 zr10), .int .u64 (wv0 zr10)], .bool (decide (fits zr10))]) (res2 Try.results24 (rv_cells (l := [.int .u64 (wv3 zr10), .int .u64 (wv2 zr10), .int .u64 (wv1 zr10), .int .u64 (wv0 zr10)]) agt26 sz26 rfl rfl H35 rfl) (rv_tmp rfl rfl)) ⟨_, rfl, ?_⟩
   have hP := hzr12 (by assumption)
   have hi : fits zr10 ↔ rdS L := by rw [hP]; exact ⟨fun hh => rd_impl.1 ⟨by assumption, hh⟩, fun hh => hh.2⟩
   have hc : canD L := (by assumption : canD L ∧ L.length ≤ 100).1
   exact ⟨(tu2 (ag4 (vi (by rw [hP]; exact wq3 hc)) (vi (by rw [hP]; exact wq2 hc)) (vi (by rw [hP]; exact wq1 hc)) (vi (by rw [hP]; exact wq0 hc))) (vb hi)), E36⟩
 · refine rk_ct (T rfl (congrArg Value.bool (decide_eq_true hb26))) ?_
   refine rk_seq ?_
   refine rk_reg ?_
   refine lw_v (.agg #[.int .u64 0, .int .u64 0, .int .u64 0, .int .u64 0]) (dv_build (pv := []) (l := [.int .u64 0, .int .u64 0, .int .u64 0, .int .u64 0]) zc26 pl26 trivial rfl) ?_
   have H37 := (s23.blk (n18.ext.blk H20) (by omega))
   refine lw_e (oe_store (v := .agg #[.int .u64 0, .int .u64 0, .int .u64 0, .int .u64 0]) (vs := [.int .u64 0, .int .u64 0, .int .u64 0, .int .u64 0]) (l := [.int .u64 0, .int .u64 0, .int .u64 0, .int .u64 0]) (T rfl rfl) (T rfl rfl) sz26 rfl rfl rfl H37 rfl ?_)
   intro w38 s39 H40
   have E41 := below_st E25 N4 s39
   refine lw_v (.bool false) (dv_assign C) ?_
   refine lw_nil ?_
   refine rk_ret Try.func24 (v := .tuple #[.agg #[.int .u64 0, .int .u64 0, .int .u64 0, .int .u64 0], .bool false]) (res2 Try.results24 (rv_cells (l := [.int .u64 0, .int .u64 0, .int .u64 0, .int .u64 0]) agt26 sz26 rfl rfl H40 rfl) (rv_tmp rfl rfl)) ⟨_, rfl, ?_⟩
   have hS : ¬ rdS L := fun hh => absurd (rd_impl.2 hh).1 (by assumption)
   exact ⟨(tu2 (ag4 (vi (wf3 hS)) (vi (wf2 hS)) (vi (wf1 hS)) (vi (wf0 hS))) (vf hS)), E41⟩
set_option maxHeartbeats 1000000 in
theorem sReadWide_ok {w : World} {L : List Int} (hL : okW 256 L) (hl : L.length ≤ 1048576) : Ct Try.prog 23 [.string (bOf L)] w fun v w1 => v = .tuple #[.agg #[.int .u64 (wv3 (rdZ L)), .int .u64 (wv2 (rdZ L)), .int .u64 (wv1 (rdZ L)), .int .u64 (wv0 (rdZ L))], .bool (decide (rdS L))] ∧ Ext w w1 := by
 refine ct_run (n := 18) Try.func23 rfl Try.ntmps23 rfl ?_
 have E0 : Below w.heap.size w w := Below.refl _ _
 refine rk_seq ?_
 refine rk_reg ?_
 refine lw_e (oe_alloc ze26 ?_)
 intro b1 w2 n3
 have N4 : w.heap.size ≤ b1 := n3.eq ▸ E0.size
 have E5 := below_ext E0 E0.size n3.ext
 refine lw_v (.bool false) (dv_assign C) ?_
 refine lw_nil ?_
 refine rk_seq ?_
 refine rk_reg ?_
 refine lw_v (.string (bOf L)) (dv_move (T rfl rfl)) ?_
 refine lw_e (oe_callf (vs := [.string (bOf L), .int .i64 77]) co58 (ar2 (T rfl rfl) C) (l1Read_ok (S := 400) (hL) (by first | omega | (simp; done) | (simp; omega)) (by decide)) ?_)
 rintro _ w13 ⟨nr6, A7, n8, c9, zr10, rfl, e14, h11, hzr12⟩
 have E15 := below_ext E5 E5.size e14
 have lh11 := Num.len (by decide) h11
 refine lw_v (.tuple #[.agg #[.bool nr6, .slice A7 n8 c9], .bool (decide (formD L ∧ (digD L).length ≤ 77))]) (dv_move (T rfl rfl)) ?_
 refine lw_v (.agg #[.bool nr6, .slice A7 n8 c9]) (dv_extract (vs := #[.agg #[.bool nr6, .slice A7 n8 c9], .bool (decide (formD L ∧ (digD L).length ≤ 77))]) (T rfl rfl) rfl) ?_
 refine lw_v (.bool (decide (formD L ∧ (digD L).length ≤ 77))) (dv_extract (vs := #[.agg #[.bool nr6, .slice A7 n8 c9], .bool (decide (formD L ∧ (digD L).length ≤ 77))]) (T rfl rfl) rfl) ?_
 refine lw_e (oe_alloc ze65 ?_)
 intro b16 w17 n18
 have N19 : w.heap.size ≤ b16 := n18.eq ▸ E15.size
 have H20 := (e14.blk n3.blk)
 have : b1 < b16 := n18.eq ▸ lt_of_blk H20
 have E21 := below_ext E15 E15.size n18.ext
 refine lw_e (oe_store (v := .agg #[.bool nr6, .slice A7 n8 c9]) (vs := [.bool nr6, .slice A7 n8 c9]) (l := [.bool nr6, .slice A7 n8 c9]) (T rfl rfl) (T rfl rfl) sz65 rfl rfl rfl n18.blk rfl ?_)
 intro w22 s23 H24
 have E25 := below_st E21 N19 s23
 refine lw_v (.bool (decide (formD L ∧ (digD L).length ≤ 77))) (dv_assign (T rfl rfl)) ?_
 refine lw_nil ?_
 refine rk_seq ?_
 refine rk_seq ?_
 refine rk_reg ?_
 refine lw_v (.bool (decide (formD L ∧ (digD L).length ≤ 77))) (dv_move (T rfl rfl)) ?_
 refine lw_v (.bool (decide (¬ (formD L ∧ (digD L).length ≤ 77)))) (dv_notd (p := formD L ∧ (digD L).length ≤ 77) (T rfl rfl)) ?_
 refine lw_nil ?_
 by_cases hb26 : formD L ∧ (digD L).length ≤ 77
 · refine rk_cf (T rfl (congrArg Value.bool (decide_eq_false (not_not_intro hb26)))) ?_
   refine rk_skip ?_
   refine rk_seq ?_
   refine rk_reg ?_
   refine lw_v (.agg #[.bool nr6, .slice A7 n8 c9]) (dv_loads (l := [.bool nr6, .slice A7 n8 c9]) agt65 sz65 (T rfl rfl) H24 rfl) ?_
   have h27 := ((h11.ext n18.ext).st s23 n18.blk (by decide))
   refine lw_e (oe_callf (vs := [.agg #[.bool nr6, .slice A7 n8 c9]]) co54 (ar1 (T rfl rfl)) (l1Wide_ok h27 (by first | decide | omega)) ?_)
   rintro _ w29 ⟨rfl, e30⟩
   have E31 := below_ext E25 E25.size e30
   have bw28 := w_rg (zr10)
   refine lw_v (.agg #[.int .u64 (wv3 zr10), .int .u64 (wv2 zr10), .int .u64 (wv1 zr10), .int .u64 (wv0 zr10)]) (dv_extract (vs := #[.agg #[.int .u64 (wv3 zr10), .int .u64 (wv2 zr10), .int .u64 (wv1 zr10), .int .u64 (wv0 zr10)], .bool (decide (fits zr10))]) (T rfl rfl) rfl) ?_
   refine lw_v (.bool (decide (fits zr10))) (dv_extract (vs := #[.agg #[.int .u64 (wv3 zr10), .int .u64 (wv2 zr10), .int .u64 (wv1 zr10), .int .u64 (wv0 zr10)], .bool (decide (fits zr10))]) (T rfl rfl) rfl) ?_
   have H32 := (e30.blk (s23.blk (n18.ext.blk H20) (by omega)))
   refine lw_e (oe_store (v := .agg #[.int .u64 (wv3 zr10), .int .u64 (wv2 zr10), .int .u64 (wv1 zr10), .int .u64 (wv0 zr10)]) (vs := [.int .u64 (wv3 zr10), .int .u64 (wv2 zr10), .int .u64 (wv1 zr10), .int .u64 (wv0 zr10)]) (l := [.int .u64 (wv3 zr10), .int .u64 (wv2 zr10), .int .u64 (wv1 zr10), .int .u64 (wv0 zr10)]) (T rfl rfl) (T rfl rfl) sz26 rfl rfl rfl H32 rfl ?_)
   intro w33 s34 H35
   have E36 := below_st E31 N4 s34
   refine lw_v (.bool (decide (fits zr10))) (dv_assign (T rfl rfl)) ?_
   refine lw_nil ?_
   refine rk_ret Try.func23 (v := .tuple #[.agg #[.int .u64 (wv3 zr10), .int .u64 (wv2 zr10), .int .u64 (wv1 zr10), .int .u64 (wv0 zr10)], .bool (decide (fits zr10))]) (res2 Try.results23 (rv_cells (l := [.int .u64 (wv3 zr10), .int .u64 (wv2 zr10), .int .u64 (wv1 zr10), .int .u64 (wv0 zr10)]) agt26 sz26 rfl rfl H35 rfl) (rv_tmp rfl rfl)) ⟨_, rfl, ?_⟩
   have hP := hzr12 (by assumption)
   have hi : fits zr10 ↔ rdS L := by rw [hP]; exact ⟨fun hh => rd_spec.1 ⟨by assumption, hh⟩, fun hh => hh.2⟩
   have hc : canD L := canD_of_form (by assumption : formD L ∧ (digD L).length ≤ 77).1
   exact ⟨(tu2 (ag4 (vi (by rw [hP]; exact wq3 hc)) (vi (by rw [hP]; exact wq2 hc)) (vi (by rw [hP]; exact wq1 hc)) (vi (by rw [hP]; exact wq0 hc))) (vb hi)), E36⟩
 · refine rk_ct (T rfl (congrArg Value.bool (decide_eq_true hb26))) ?_
   refine rk_seq ?_
   refine rk_reg ?_
   refine lw_v (.agg #[.int .u64 0, .int .u64 0, .int .u64 0, .int .u64 0]) (dv_build (pv := []) (l := [.int .u64 0, .int .u64 0, .int .u64 0, .int .u64 0]) zc26 pl26 trivial rfl) ?_
   have H37 := (s23.blk (n18.ext.blk H20) (by omega))
   refine lw_e (oe_store (v := .agg #[.int .u64 0, .int .u64 0, .int .u64 0, .int .u64 0]) (vs := [.int .u64 0, .int .u64 0, .int .u64 0, .int .u64 0]) (l := [.int .u64 0, .int .u64 0, .int .u64 0, .int .u64 0]) (T rfl rfl) (T rfl rfl) sz26 rfl rfl rfl H37 rfl ?_)
   intro w38 s39 H40
   have E41 := below_st E25 N4 s39
   refine lw_v (.bool false) (dv_assign C) ?_
   refine lw_nil ?_
   refine rk_ret Try.func23 (v := .tuple #[.agg #[.int .u64 0, .int .u64 0, .int .u64 0, .int .u64 0], .bool false]) (res2 Try.results23 (rv_cells (l := [.int .u64 0, .int .u64 0, .int .u64 0, .int .u64 0]) agt26 sz26 rfl rfl H40 rfl) (rv_tmp rfl rfl)) ⟨_, rfl, ?_⟩
   have hS : ¬ rdS L := fun hh => absurd (rd_spec.2 hh).1 (by assumption)
   exact ⟨(tu2 (ag4 (vi (wf3 hS)) (vi (wf2 hS)) (vi (wf1 hS)) (vi (wf0 hS))) (vf hS)), E41⟩
end Go.Proofs.Ytfmkadgjoechnaa.W
