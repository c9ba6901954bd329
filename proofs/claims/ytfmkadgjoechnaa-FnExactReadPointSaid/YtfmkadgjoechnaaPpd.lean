/- Walks and plain mathematics, packed by a program of this session: declarations that the rows reach. -/
import Derived.Test.YtfmkadgjoechnaaPpc
set_option linter.unusedVariables false
set_option linter.unusedSimpArgs false
namespace Go.Proofs.Ytfmkadgjoechnaa.W
open Go Go.RowKit Go.Proofs.Ytfmkadgjoechnaa.Fw
attribute [local irreducible] RunK LW AW DV OE Ct
theorem agt26 : aggB Try.prog 26 = some true := by kernel_rfl
theorem co57 : callOk Try.prog 57 = true := by kernel_rfl
theorem co68 : callOk Try.prog 68 = true := by kernel_rfl
theorem co88 : callOk Try.prog 88 = true := by kernel_rfl
theorem pl26 : placesB Try.prog 26 = some [(0, 1), (1, 1), (2, 1), (3, 1)] := by kernel_rfl
theorem sz26 : sizeB Try.prog 26 = some 4 := by kernel_rfl
theorem ui3 : Try.prog.underlying 3 = some (.int .i64) := by kernel_rfl
theorem zc26 : zcB Try.prog 26 = some [.int .u64 0, .int .u64 0, .int .u64 0, .int .u64 0] := by kernel_rfl
theorem ze26 : zeroB Try.prog 26 = some #[.int .u64 0, .int .u64 0, .int .u64 0, .int .u64 0] := by kernel_rfl
theorem clone_ok {w : World} {A : Option Addr} {l c : Nat} {xs : List Int} (hx : Wd w 24 .u64 A xs) (hl : xs.length = l) (hL : l ≤ 1000000) : Ct Try.prog 88 [.slice A l c] w fun v w1 => ∃ A' c', v = .slice A' xs.length c' ∧ Ext w w1 ∧ Ow w1 w.heap.size 24 .u64 A' c' xs := by
 unfold Ct
 rcases hx with ⟨rfl, rfl⟩ | ⟨g, o, cs, fz, rfl, hg, hc⟩
 · refine Calls.mono (Try.slices_Clone_nil l c w) fun e w' ⟨he, hw⟩ => ⟨_, he, none, 0, rfl, by subst hw; exact Below.refl _ _, ⟨⟨rfl, .inl ⟨rfl, rfl⟩⟩, by subst hw; exact Nat.le_refl _⟩⟩
 · obtain ⟨i0, hi0, hi⟩ : ∃ i0, Try.prog.info? 24 = some i0 ∧ (i0.zero, i0.size, i0.bytes) = (some (.int .u64 0), 1, 8) := by
    have h := in24
    cases hi : Try.prog.info? 24 with
    | none => rw [hi] at h; cases h
    | some i0 => rw [hi] at h; exact ⟨i0, rfl, by simpa using h⟩
   simp only [Prod.mk.injEq] at hi
   refine Calls.mono (Try.slices_Clone i0 _ 1 8 hi0 hi.1 hi.2.1 hi.2.2 rfl (by decide) (fun w => Fw.run_sizeOf sz24) g o l c (xs.map (Value.int .u64)) w (by simp [hl]) (by simp only [maxLen]; omega) (by omega) (fun j u hj => ?_) (ints_oneCell .u64 xs)) fun e w' ⟨v', he, ho, hne, hb⟩ => ?_
   · rw [List.getElem?_map] at hj
     cases hx : xs[j]? with
     | none => rw [hx] at hj; cases hj
     | some x =>
      rw [hx] at hj
      have := hc j x hx
      rw [cell_of_row w g (o + j) cs 24 fz hg, this]
      exact hj
   · subst hl
     obtain ⟨A', c', rfl⟩ := own_slice ho
     exact ⟨_, he, A', c', rfl, hb, ho, hb.size⟩
set_option maxHeartbeats 1000000 in
theorem nwide_ok {w : World} {na : Bool} {Aa : Option Addr} {la ca : Nat} {x : Int} {sx : Nat} (ha : Num 64 24 .u64 w na Aa la ca x sx) (hs : sx ≤ 400000) : Ct Try.prog 51 [.agg #[.bool na, .slice Aa la ca]] w fun v w1 => v = .tuple #[.agg #[.int .u64 (wv3 x), .int .u64 (wv2 x), .int .u64 (wv1 x), .int .u64 (wv0 x)], .bool (decide (fits x))] ∧ Ext w w1 := by
 refine ct_run (n := 50) Try.func51 rfl Try.ntmps51 rfl ?_
 have E0 : Below w.heap.size w w := Below.refl _ _
 have lha := Num.len (by decide) ha
 refine rk_seq ?_
 refine rk_reg ?_
 refine lw_e (oe_box (v := .agg #[.bool na, .slice Aa la ca]) (cs := #[.bool na, .slice Aa la ca]) (T rfl rfl) rfl ?_)
 intro b1 w2 n3
 have N4 : w.heap.size ≤ b1 := n3.eq ▸ E0.size
 have E5 := below_ext E0 E0.size n3.ext
 refine lw_e (oe_alloc ze26 ?_)
 intro b6 w7 n8
 have N9 : w.heap.size ≤ b6 := n8.eq ▸ E5.size
 have : b1 < b6 := n8.eq ▸ lt_of_blk n3.blk
 have E10 := below_ext E5 E5.size n8.ext
 refine lw_v (.bool false) (dv_assign C) ?_
 refine lw_nil ?_
 refine rk_seq ?_
 refine rk_reg ?_
 have H11 := (n8.ext.blk n3.blk)
 refine lw_v (.agg #[.bool na, .slice Aa la ca]) (dv_loads (l := [.bool na, .slice Aa la ca]) agt59 sz59 (T rfl rfl) H11 rfl) ?_
 refine lw_e (oe_alloc ze59 ?_)
 intro b12 w13 n14
 have N15 : w.heap.size ≤ b12 := n14.eq ▸ E10.size
 have : b6 < b12 := n14.eq ▸ lt_of_blk n8.blk
 have E16 := below_ext E10 E10.size n14.ext
 refine lw_e (oe_store (v := .agg #[.bool na, .slice Aa la ca]) (vs := [.bool na, .slice Aa la ca]) (l := [.bool na, .slice Aa la ca]) (T rfl rfl) (T rfl rfl) sz59 rfl rfl rfl n14.blk rfl ?_)
 intro w17 s18 H19
 have E20 := below_st E16 N15 s18
 refine lw_nil ?_
 refine rk_seq ?_
 refine rk_seq ?_
 refine rk_reg ?_
 refine lw_v (.pointer (some ⟨b1, 0, none⟩)) (dv_fieldAddr (a := ⟨b1, 0, none⟩) (a' := ⟨b1, 0, none⟩) fo59_0 (T rfl rfl) rfl) ?_
 have H21 := (s18.blk (n14.ext.blk H11) (by omega))
 refine lw_v (.bool na) (dv_load1 (b := b1) (o := 0) agt4 (T rfl rfl) H21 rfl) ?_
 refine lw_nil ?_
 rcases Bool.eq_false_or_eq_true (na) with hb22 | hb22
 · refine rk_ct (T rfl (congrArg Value.bool hb22)) ?_
   refine rk_any (fun w => w.heap[b1]? = some (.cells #[.bool na, .slice Aa la ca] 59)) [3] mo ?_
   intro w23 d24
   have E25 := below_ext E20 E20.size d24.ext
   have H26 := (d24.ext.blk H21)
   refine aw_load 0 (.agg #[.bool na, .slice Aa la ca]) rfl (by kernel_rfl) .none H26 (fun _ s => dv_loads (l := [.bool na, .slice Aa la ca]) agt59 sz59 (T rfl rfl) s rfl) ?_
   refine aw_one 1 rfl (by kernel_rfl) .none (oe_callf (vs := [.int .i64 1]) co57 (ar1 C) (whole_ok  (by omega)) ?_)
   rintro _ w32 ⟨nr27, A28, n29, c30, rfl, e33, h31⟩
   have E34 := below_ext E25 E25.size e33
   have lh31 := Num.len (by decide) h31
   have H35 := (e33.blk H26)
   refine ⟨.inr H35, ?_⟩
   have h36 := ha.ext E34
   refine aw_one 2 rfl (by kernel_rfl) .none (oe_callf (vs := [.agg #[.bool na, .slice Aa la ca], .agg #[.bool nr27, .slice A28 n29 c30]]) co53 (ar2 (T rfl rfl) (T rfl rfl)) (plus_ok h36 h31 (by first | decide | omega) (by first | decide | omega)) ?_)
   rintro _ w42 ⟨nr37, A38, n39, c40, rfl, e43, h41⟩
   have E44 := below_ext E34 E34.size e43
   have lh41 := Num.len (by decide) h41
   have H45 := (e43.blk H35)
   refine ⟨.inr H45, ?_⟩
   have H46 := (e43.blk (e33.blk (d24.ext.blk H19)))
   refine aw_one 3 rfl (by kernel_rfl) .none (oe_store (v := .agg #[.bool nr37, .slice A38 n39 c40]) (vs := [.bool nr37, .slice A38 n39 c40]) (l := [.bool nr37, .slice A38 n39 c40]) (T rfl rfl) (T rfl rfl) sz59 rfl rfl rfl H46 rfl ?_)
   intro w47 s48 H49
   have E50 := below_st E44 N15 s48
   refine ⟨.inl rfl, ?_⟩
   refine aw_done (by kernel_rfl) ?_
   refine rk_seq ?_
   refine rk_seq ?_
   refine rk_reg ?_
   refine lw_v (.agg #[.bool nr37, .slice A38 n39 c40]) (dv_loads (l := [.bool nr37, .slice A38 n39 c40]) agt59 sz59 (T rfl rfl) H49 rfl) ?_
   have h51 := (h41.st s48 H46 (by decide))
   refine lw_e (oe_callf (vs := [.agg #[.bool nr37, .slice A38 n39 c40]]) co68 (ar1 (T rfl rfl)) (nsize_num h51 (by first | omega | (simp; done) | (simp; omega))) ?_)
   rintro _ w52 ⟨rfl, e53⟩
   have E54 := below_ext E50 E50.size e53
   refine lw_v (.bool (decide (255 < ((nbits (x + 1).natAbs : Int))))) (dv_gtr (a := (nbits (x + 1).natAbs : Int)) (b := 255) (T rfl rfl) C) ?_
   refine lw_nil ?_
   by_cases hb55 : 255 < ((nbits (x + 1).natAbs : Int))
   · refine rk_ct (T rfl (congrArg Value.bool (decide_eq_true hb55))) ?_
     refine rk_seq ?_
     refine rk_reg ?_
     refine lw_v (.agg #[.int .u64 0, .int .u64 0, .int .u64 0, .int .u64 0]) (dv_build (pv := []) (l := [.int .u64 0, .int .u64 0, .int .u64 0, .int .u64 0]) zc26 pl26 trivial rfl) ?_
     have H56 := (e53.blk (s48.blk (e43.blk (e33.blk (d24.ext.blk (s18.blk (n14.ext.blk n8.blk) (by omega))))) (by omega)))
     refine lw_e (oe_store (v := .agg #[.int .u64 0, .int .u64 0, .int .u64 0, .int .u64 0]) (vs := [.int .u64 0, .int .u64 0, .int .u64 0, .int .u64 0]) (l := [.int .u64 0, .int .u64 0, .int .u64 0, .int .u64 0]) (T rfl rfl) (T rfl rfl) sz26 rfl rfl rfl H56 rfl ?_)
     intro w57 s58 H59
     have E60 := below_st E54 N9 s58
     refine lw_v (.bool false) (dv_assign C) ?_
     refine lw_nil ?_
     refine rk_ret Try.func51 (v := .tuple #[.agg #[.int .u64 0, .int .u64 0, .int .u64 0, .int .u64 0], .bool false]) (res2 Try.results51 (rv_cells (l := [.int .u64 0, .int .u64 0, .int .u64 0, .int .u64 0]) agt26 sz26 rfl rfl H59 rfl) (rv_tmp rfl rfl)) ⟨_, rfl, ?_⟩
     have hno := wide_no (x := x) (by have := ha.neg_iff; first | (left; refine ⟨by simp_all, ?_⟩; omega) | (right; refine ⟨by by_cases hz : x < 0 <;> simp_all <;> omega, ?_⟩; omega))
     exact ⟨tu2 (ag4 (vi hno.2.1.symm) (vi hno.2.2.1.symm) (vi hno.2.2.2.1.symm) (vi hno.2.2.2.2.symm)) (vf hno.1), E60⟩
   · refine rk_cf (T rfl (congrArg Value.bool (decide_eq_false hb55))) ?_
     refine rk_skip ?_
     refine rk_seq ?_
     refine rk_reg ?_
     refine lw_v (.pointer (some ⟨b12, 1, none⟩)) (dv_fieldAddr (a := ⟨b12, 0, none⟩) (a' := ⟨b12, 1, none⟩) fo59_1 (T rfl rfl) rfl) ?_
     have H61 := (e53.blk H49)
     refine lw_v (.slice A38 n39 c40) (dv_load1 (b := b12) (o := 1) agt57 (T rfl rfl) H61 rfl) ?_
     have h62 := (h51.ext e53)
     obtain ⟨xs63, hl64, hc65, hw66, ho67, hk68, hv69⟩ := h62.wc
     have H70 := (e53.blk (s48.blk H45 (by omega)))
     have : b1 < w52.heap.size := lt_of_blk H70
     have H71 := (e53.blk (s48.blk (e43.blk (e33.blk (d24.ext.blk (s18.blk (n14.ext.blk n8.blk) (by omega))))) (by omega)))
     have : b6 < w52.heap.size := lt_of_blk H71
     have : b12 < w52.heap.size := lt_of_blk H61
     have N72 : w.heap.size ≤ w52.heap.size := E54.size
     refine lw_e (oe_callf (vs := [.slice A38 n39 c40]) co88 (ar1 (T rfl rfl)) (clone_ok hw66 hl64 (by first | omega | (simp; done) | (simp; omega))) ?_)
     rintro _ w76 ⟨Ad73, c74, rfl, e77, hO75⟩
     have E78 := below_ext E54 E54.size e77
     refine lw_e (oe_append0 (base := w52.heap.size) (L := xs63) (m := 4) (j := 4) us57 ui3 in24 (T rfl rfl) C rfl (by decide) (by decide) hO75 (by first | omega | (simp; done) | (simp; omega)) ?_)
     intro Ad79 c80 w81 hO82 x83
     have E84 := below_bl E78 N72 x83
     refine lw_v (.slice Ad79 ((xs63 ++ List.replicate 4 (0 : Int)).length) c80) (dv_assign (T rfl rfl)) ?_
     refine lw_nil ?_
     refine rk_seq ?_
     refine rk_seq ?_
     refine rk_reg ?_
     refine lw_v (.pointer (some ⟨b1, 0, none⟩)) (dv_fieldAddr (a := ⟨b1, 0, none⟩) (a' := ⟨b1, 0, none⟩) fo59_0 (T rfl rfl) rfl) ?_
     have H85 := (bl_blk x83 (e77.blk H70) (by omega))
     refine lw_v (.bool na) (dv_load1 (b := b1) (o := 0) agt4 (T rfl rfl) H85 rfl) ?_
     refine lw_nil ?_
     refine rk_ct (T rfl (congrArg Value.bool hb22)) ?_
     refine rk_seq ?_
     refine rk_reg ?_
     refine lw_v (.slice Ad79 ((xs63 ++ List.replicate 4 (0 : Int)).length) c80) (dv_move (T rfl rfl)) ?_
     refine lw_v (.int .i64 (((xs63 ++ List.replicate 4 (0 : Int)).length : Int))) (dv_len (ad := Ad79) (l := (xs63 ++ List.replicate 4 (0 : Int)).length) (c := c80) us57 (T rfl rfl)) ?_
     refine lw_v (.int .i64 0) (dv_move C) ?_
     refine lw_nil ?_
     refine rk_block ?_
     have H86 := (bl_blk x83 (e77.blk H71) (by omega))
     have H87 := (bl_blk x83 (e77.blk H61) (by omega))
     refine rk_loop (fun dm_ fr wl => ∃ (i : Nat) (L : List Int), dm_ = (xs63 ++ List.replicate 4 (0 : Int)).length - i ∧ fr 2 = .pointer (some ⟨b6, 0, none⟩) ∧ fr 3 = .bool false ∧ fr 5 = .slice Ad79 ((xs63 ++ List.replicate 4 (0 : Int)).length) c80 ∧ fr 24 = .int .i64 (((xs63 ++ List.replicate 4 (0 : Int)).length : Int)) ∧ fr 25 = .int .i64 ((i : Int)) ∧ Below w.heap.size w wl ∧ wl.heap[b1]? = some (.cells #[.bool na, .slice Aa la ca] 59) ∧ wl.heap[b6]? = some (.cells #[.int .u64 0, .int .u64 0, .int .u64 0, .int .u64 0] 26) ∧ wl.heap[b12]? = some (.cells #[.bool nr37, .slice A38 n39 c40] 59) ∧ Ow wl w52.heap.size 24 .u64 Ad79 c80 L ∧ (i ≤ (xs63 ++ List.replicate 4 (0 : Int)).length) ∧ (L.length = (xs63 ++ List.replicate 4 (0 : Int)).length) ∧ (∀ j, j < (xs63 ++ List.replicate 4 (0 : Int)).length → L.getD j 0 = if j < i then 18446744073709551615 - (xs63 ++ List.replicate 4 (0 : Int)).getD j 0 else (xs63 ++ List.replicate 4 (0 : Int)).getD j 0)) ((xs63 ++ List.replicate 4 (0 : Int)).length - 0) ⟨0, (xs63 ++ List.replicate 4 (0 : Int)), rfl, rfl, rfl, rfl, rfl, rfl, E84, H85, H86, H87, hO82, (Nat.zero_le _), rfl, (fun j hj => by rw [if_neg (by omega)])⟩ ?_
     intro d92 fr91 w88 hI89 ih90
     obtain ⟨i, L, hd103, f93, f94, f95, f96, f97, E98, H99, H100, H101, h102, hi, hln, hpt⟩ := hI89
     have bz : (xs63 ++ List.replicate 4 (0 : Int)).length = xs63.length + 4 := by simp
     have bh := hpt i
     have bo := okW.getD (okW.append ho67 (okW.replicate (by decide) 4)) (by decide) i
     have be : i < (xs63 ++ List.replicate 4 (0 : Int)).length → L.getD i 0 = (xs63 ++ List.replicate 4 (0 : Int)).getD i 0 := fun h => by rw [bh h, if_neg (by omega)]
     refine rk_seq ?_
     refine rk_reg ?_
     refine lw_v (.bool (decide (((i : Int)) < (((xs63 ++ List.replicate 4 (0 : Int)).length : Int))))) (dv_lss (a := (i : Int)) (b := ((xs63 ++ List.replicate 4 (0 : Int)).length : Int)) (T rfl f97) (T rfl f96)) ?_
     refine lw_nil ?_
     refine rk_seq ?_
     by_cases hb104 : ((i : Int)) < (((xs63 ++ List.replicate 4 (0 : Int)).length : Int))
     · refine rk_ct (T rfl (congrArg Value.bool (decide_eq_true hb104))) ?_
       refine rk_skip ?_
       refine rk_seq ?_
       refine rk_block ?_
       refine rk_seq ?_
       refine rk_reg ?_
       refine lw_v (.int .i64 ((i : Int))) (dv_move (T rfl f97)) ?_
       refine lw_v (.int .i64 ((i : Int))) (dv_assign (T rfl rfl)) ?_
       refine lw_nil ?_
       refine rk_reg ?_
       refine lw_v (.slice Ad79 ((xs63 ++ List.replicate 4 (0 : Int)).length) c80) (dv_move (T rfl f95)) ?_
       refine lw_v (.int .i64 ((i : Int))) (dv_move (T rfl rfl)) ?_
       refine lw_v (.slice Ad79 ((xs63 ++ List.replicate 4 (0 : Int)).length) c80) (dv_move (T rfl f95)) ?_
       refine lw_v (.int .i64 ((i : Int))) (dv_move (T rfl rfl)) ?_
       obtain ⟨g105, o106, rfl⟩ := Wd.at h102.wd (by first | omega | (simp; done) | (simp; omega))
       refine lw_v (.pointer (some ⟨g105, o106 + i, none⟩)) (dv_indexW (g := g105) (o := o106) (l := (xs63 ++ List.replicate 4 (0 : Int)).length) (c := c80) (i := i) (j := (i : Int)) us57 sz24 (T rfl rfl) (T rfl rfl) (by omega) (by first | omega | (simp; done) | (simp; omega))) ?_
       refine lw_v (.int .u64 (L.getD i 0)) (dv_load agt24 (T rfl rfl) (Wd.cell h102.wd (by first | omega | (simp; done) | (simp; omega)))) ?_
       refine lw_v (.int .u64 (18446744073709551615 - (L.getD i 0))) (dv_xor (a := L.getD i 0) (z := 18446744073709551615 - (L.getD i 0)) (T rfl rfl) (xor_u64 (by omega) (by omega))) ?_
       refine lw_v (.pointer (some ⟨g105, o106 + i, none⟩)) (dv_indexW (g := g105) (o := o106) (l := (xs63 ++ List.replicate 4 (0 : Int)).length) (c := c80) (i := i) (j := (i : Int)) us57 sz24 (T rfl rfl) (T rfl rfl) (by omega) (by first | omega | (simp; done) | (simp; omega))) ?_
       refine lw_e (oe_storeOw (base := w52.heap.size) (L := L) (g := g105) (o := o106) (i := i) (z := 18446744073709551615 - (L.getD i 0)) sz24 (T rfl rfl) (T rfl rfl) h102 (by first | omega | (simp; done) | (simp; omega)) ?_)
       intro w107 hO108 x109
       have E110 := below_bl E98 N72 x109
       refine lw_nil ?_
       refine rk_inBlock ?_
       refine rk_reg ?_
       refine lw_v (.int .i64 (((i : Int)) + 1)) (dv_add (a := (i : Int)) (b := 1) (z := ((i : Int)) + 1) (T rfl f97) C (wr_i64 (by omega) (by omega))) ?_
       refine lw_v (.int .i64 (((i : Int)) + 1)) (dv_move (T rfl rfl)) ?_
       refine lw_nil ?_
       have H111 := (bl_blk x109 H99 (by omega))
       have H112 := (bl_blk x109 H100 (by omega))
       have H113 := (bl_blk x109 H101 (by omega))
       exact ih90 ((xs63 ++ List.replicate 4 (0 : Int)).length - ((i + 1))) _ _ (by rw [hd103]; omega) ⟨(i + 1), (L.set i (18446744073709551615 - (L.getD i 0))), rfl, f93, f94, f95, f96, rfl, E110, H111, H112, H113, hO108, (by omega), (by simp [hln]), (comp_step (by omega) hln hpt)⟩
     · refine rk_cf (T rfl (congrArg Value.bool (decide_eq_false hb104))) ?_
       refine rk_exit rfl ?_
       refine rk_seq ?_
       refine rk_any (fun w => Wd w 24 .u64 Ad79 L) [14] mo ?_
       intro w114 d115
       have E116 := below_ext E98 E98.size d115.ext
       have h117 := (h102.ext d115.ext)
       refine aw_pure 0 (.slice Ad79 ((xs63 ++ List.replicate 4 (0 : Int)).length) c80) rfl (by kernel_rfl) .none h117.wd (fun _ => dv_move (T rfl f95)) ?_
       obtain ⟨g118, o119, rfl⟩ := Wd.at h117.wd (by first | omega | (simp; done) | (simp; omega))
       refine aw_pure 1 (.pointer (some ⟨g118, o119 + 3, none⟩)) rfl (by kernel_rfl) .none h117.wd (fun _ => dv_indexW (g := g118) (o := o119) (l := (xs63 ++ List.replicate 4 (0 : Int)).length) (c := c80) (i := 3) (j := 3) us57 sz24 (T rfl rfl) C (by omega) (by first | omega | (simp; done) | (simp; omega))) ?_
       refine aw_load 2 (.int .u64 (L.getD 3 0)) rfl (by kernel_rfl) .none h117.wd (fun _ s => dv_load agt24 (T rfl rfl) (Wd.cell s (by first | omega | (simp; done) | (simp; omega)))) ?_
       refine aw_pure 3 (.slice (some ⟨g118, o119, none⟩) ((xs63 ++ List.replicate 4 (0 : Int)).length) c80) rfl (by kernel_rfl) .none h117.wd (fun _ => dv_move (T rfl f95)) ?_
       refine aw_pure 4 (.pointer (some ⟨g118, o119 + 2, none⟩)) rfl (by kernel_rfl) .none h117.wd (fun _ => dv_indexW (g := g118) (o := o119) (l := (xs63 ++ List.replicate 4 (0 : Int)).length) (c := c80) (i := 2) (j := 2) us57 sz24 (T rfl rfl) C (by omega) (by first | omega | (simp; done) | (simp; omega))) ?_
       refine aw_load 5 (.int .u64 (L.getD 2 0)) rfl (by kernel_rfl) .none h117.wd (fun _ s => dv_load agt24 (T rfl rfl) (Wd.cell s (by first | omega | (simp; done) | (simp; omega)))) ?_
       refine aw_pure 6 (.slice (some ⟨g118, o119, none⟩) ((xs63 ++ List.replicate 4 (0 : Int)).length) c80) rfl (by kernel_rfl) .none h117.wd (fun _ => dv_move (T rfl f95)) ?_
       refine aw_pure 7 (.pointer (some ⟨g118, o119 + 1, none⟩)) rfl (by kernel_rfl) .none h117.wd (fun _ => dv_indexW (g := g118) (o := o119) (l := (xs63 ++ List.replicate 4 (0 : Int)).length) (c := c80) (i := 1) (j := 1) us57 sz24 (T rfl rfl) C (by omega) (by first | omega | (simp; done) | (simp; omega))) ?_
       refine aw_load 8 (.int .u64 (L.getD 1 0)) rfl (by kernel_rfl) .none h117.wd (fun _ s => dv_load agt24 (T rfl rfl) (Wd.cell s (by first | omega | (simp; done) | (simp; omega)))) ?_
       refine aw_pure 9 (.slice (some ⟨g118, o119, none⟩) ((xs63 ++ List.replicate 4 (0 : Int)).length) c80) rfl (by kernel_rfl) .none h117.wd (fun _ => dv_move (T rfl f95)) ?_
       refine aw_pure 10 (.pointer (some ⟨g118, o119 + 0, none⟩)) rfl (by kernel_rfl) .none h117.wd (fun _ => dv_indexW (g := g118) (o := o119) (l := (xs63 ++ List.replicate 4 (0 : Int)).length) (c := c80) (i := 0) (j := 0) us57 sz24 (T rfl rfl) C (by omega) (by first | omega | (simp; done) | (simp; omega))) ?_
       refine aw_load 11 (.int .u64 (L.getD 0 0)) rfl (by kernel_rfl) .none h117.wd (fun _ s => dv_load agt24 (T rfl rfl) (Wd.cell s (by first | omega | (simp; done) | (simp; omega)))) ?_
       refine aw_pure 12 (.agg #[.int .u64 (L.getD 3 0), .int .u64 (L.getD 2 0), .int .u64 (L.getD 1 0), .int .u64 (L.getD 0 0)]) rfl (by kernel_rfl) .none h117.wd (fun _ => dv_build (pv := [(0, .int .u64 (L.getD 3 0)), (1, .int .u64 (L.getD 2 0)), (2, .int .u64 (L.getD 1 0)), (3, .int .u64 (L.getD 0 0))]) (l := [.int .u64 (L.getD 3 0), .int .u64 (L.getD 2 0), .int .u64 (L.getD 1 0), .int .u64 (L.getD 0 0)]) zc26 pl26 ⟨rfl, (T rfl rfl), ⟨rfl, (T rfl rfl), ⟨rfl, (T rfl rfl), ⟨rfl, (T rfl rfl), trivial⟩⟩⟩⟩ rfl) ?_
       have H120 := (d115.ext.blk H100)
       refine aw_one 13 rfl (by kernel_rfl) .none (oe_store (v := .agg #[.int .u64 (L.getD 3 0), .int .u64 (L.getD 2 0), .int .u64 (L.getD 1 0), .int .u64 (L.getD 0 0)]) (vs := [.int .u64 (L.getD 3 0), .int .u64 (L.getD 2 0), .int .u64 (L.getD 1 0), .int .u64 (L.getD 0 0)]) (l := [.int .u64 (L.getD 3 0), .int .u64 (L.getD 2 0), .int .u64 (L.getD 1 0), .int .u64 (L.getD 0 0)]) (T rfl f93) (T rfl rfl) sz26 rfl rfl rfl H120 rfl ?_)
       intro w121 s122 H123
       have E124 := below_st E116 N9 s122
       have h125 := (h117.st s122 H120 (by decide))
       refine ⟨.inr h125.wd, ?_⟩
       refine aw_last 14 (.bool true) rfl (by kernel_rfl) .none (fun _ => dv_assign C) ?_
       refine aw_done (by kernel_rfl) ?_
       refine rk_ret Try.func51 (v := .tuple #[.agg #[.int .u64 (L.getD 3 0), .int .u64 (L.getD 2 0), .int .u64 (L.getD 1 0), .int .u64 (L.getD 0 0)], .bool true]) (res2 Try.results51 (rv_cells (l := [.int .u64 (L.getD 3 0), .int .u64 (L.getD 2 0), .int .u64 (L.getD 1 0), .int .u64 (L.getD 0 0)]) agt26 sz26 rfl f93 H123 rfl) (rv_tmp rfl rfl)) ⟨_, rfl, ?_⟩
       have hd := dig64 (okW.append ho67 (okW.replicate (by decide) 4))
       rw [valB_pad] at hd
       have hws := wide_neg (x := x) (q := valB (2 ^ 64) xs63) (by have := ha.neg_iff; simp_all) hv69 (by omega)
       have hc := comp_end (by omega) hpt
       exact ⟨tu2 (ag4 (vi (by rw [hc 3 (by omega), hd.2.2.2]; exact hws.2.1.symm)) (vi (by rw [hc 2 (by omega), hd.2.2.1]; exact hws.2.2.1.symm)) (vi (by rw [hc 1 (by omega), hd.2.1]; exact hws.2.2.2.1.symm)) (vi (by rw [hc 0 (by omega), hd.1]; exact hws.2.2.2.2.symm))) (vt hws.1), E124⟩
 · refine rk_cf (T rfl (congrArg Value.bool hb22)) ?_
   refine rk_skip ?_
   refine rk_seq ?_
   refine rk_seq ?_
   refine rk_reg ?_
   refine lw_v (.agg #[.bool na, .slice Aa la ca]) (dv_loads (l := [.bool na, .slice Aa la ca]) agt59 sz59 (T rfl rfl) H19 rfl) ?_
   have h126 := ha.ext E20
   refine lw_e (oe_callf (vs := [.agg #[.bool na, .slice Aa la ca]]) co68 (ar1 (T rfl rfl)) (nsize_num h126 (by first | omega | (simp; done) | (simp; omega))) ?_)
   rintro _ w127 ⟨rfl, e128⟩
   have E129 := below_ext E20 E20.size e128
   refine lw_v (.bool (decide (255 < ((nbits (x).natAbs : Int))))) (dv_gtr (a := (nbits (x).natAbs : Int)) (b := 255) (T rfl rfl) C) ?_
   refine lw_nil ?_
   by_cases hb130 : 255 < ((nbits (x).natAbs : Int))
   · refine rk_ct (T rfl (congrArg Value.bool (decide_eq_true hb130))) ?_
     refine rk_seq ?_
     refine rk_reg ?_
     refine lw_v (.agg #[.int .u64 0, .int .u64 0, .int .u64 0, .int .u64 0]) (dv_build (pv := []) (l := [.int .u64 0, .int .u64 0, .int .u64 0, .int .u64 0]) zc26 pl26 trivial rfl) ?_
     have H131 := (e128.blk (s18.blk (n14.ext.blk n8.blk) (by omega)))
     refine lw_e (oe_store (v := .agg #[.int .u64 0, .int .u64 0, .int .u64 0, .int .u64 0]) (vs := [.int .u64 0, .int .u64 0, .int .u64 0, .int .u64 0]) (l := [.int .u64 0, .int .u64 0, .int .u64 0, .int .u64 0]) (T rfl rfl) (T rfl rfl) sz26 rfl rfl rfl H131 rfl ?_)
     intro w132 s133 H134
     have E135 := below_st E129 N9 s133
     refine lw_v (.bool false) (dv_assign C) ?_
     refine lw_nil ?_
     refine rk_ret Try.func51 (v := .tuple #[.agg #[.int .u64 0, .int .u64 0, .int .u64 0, .int .u64 0], .bool false]) (res2 Try.results51 (rv_cells (l := [.int .u64 0, .int .u64 0, .int .u64 0, .int .u64 0]) agt26 sz26 rfl rfl H134 rfl) (rv_tmp rfl rfl)) ⟨_, rfl, ?_⟩
     have hno := wide_no (x := x) (by have := ha.neg_iff; first | (left; refine ⟨by simp_all, ?_⟩; omega) | (right; refine ⟨by by_cases hz : x < 0 <;> simp_all <;> omega, ?_⟩; omega))
     exact ⟨tu2 (ag4 (vi hno.2.1.symm) (vi hno.2.2.1.symm) (vi hno.2.2.2.1.symm) (vi hno.2.2.2.2.symm)) (vf hno.1), E135⟩
   · refine rk_cf (T rfl (congrArg Value.bool (decide_eq_false hb130))) ?_
     refine rk_skip ?_
     refine rk_seq ?_
     refine rk_reg ?_
     refine lw_v (.pointer (some ⟨b12, 1, none⟩)) (dv_fieldAddr (a := ⟨b12, 0, none⟩) (a' := ⟨b12, 1, none⟩) fo59_1 (T rfl rfl) rfl) ?_
     have H136 := (e128.blk H19)
     refine lw_v (.slice Aa la ca) (dv_load1 (b := b12) (o := 1) agt57 (T rfl rfl) H136 rfl) ?_
     have h137 := (h126.ext e128)
     obtain ⟨xs138, hl139, hc140, hw141, ho142, hk143, hv144⟩ := h137.wc
     have H145 := (e128.blk H21)
     have : b1 < w127.heap.size := lt_of_blk H145
     have H146 := (e128.blk (s18.blk (n14.ext.blk n8.blk) (by omega)))
     have : b6 < w127.heap.size := lt_of_blk H146
     have : b12 < w127.heap.size := lt_of_blk H136
     have N147 : w.heap.size ≤ w127.heap.size := E129.size
     refine lw_e (oe_callf (vs := [.slice Aa la ca]) co88 (ar1 (T rfl rfl)) (clone_ok hw141 hl139 (by first | omega | (simp; done) | (simp; omega))) ?_)
     rintro _ w151 ⟨Ad148, c149, rfl, e152, hO150⟩
     have E153 := below_ext E129 E129.size e152
     refine lw_e (oe_append0 (base := w127.heap.size) (L := xs138) (m := 4) (j := 4) us57 ui3 in24 (T rfl rfl) C rfl (by decide) (by decide) hO150 (by first | omega | (simp; done) | (simp; omega)) ?_)
     intro Ad154 c155 w156 hO157 x158
     have E159 := below_bl E153 N147 x158
     refine lw_v (.slice Ad154 ((xs138 ++ List.replicate 4 (0 : Int)).length) c155) (dv_assign (T rfl rfl)) ?_
     refine lw_nil ?_
     refine rk_seq ?_
     refine rk_seq ?_
     refine rk_reg ?_
     refine lw_v (.pointer (some ⟨b1, 0, none⟩)) (dv_fieldAddr (a := ⟨b1, 0, none⟩) (a' := ⟨b1, 0, none⟩) fo59_0 (T rfl rfl) rfl) ?_
     have H160 := (bl_blk x158 (e152.blk H145) (by omega))
     refine lw_v (.bool na) (dv_load1 (b := b1) (o := 0) agt4 (T rfl rfl) H160 rfl) ?_
     refine lw_nil ?_
     refine rk_cf (T rfl (congrArg Value.bool hb22)) ?_
     refine rk_skip ?_
     refine rk_seq ?_
     refine rk_any (fun w => Wd w 24 .u64 Ad154 ((xs138 ++ List.replicate 4 (0 : Int)))) [14] mo ?_
     intro w161 d162
     have E163 := below_ext E159 E159.size d162.ext
     have h164 := (hO157.ext d162.ext)
     refine aw_pure 0 (.slice Ad154 ((xs138 ++ List.replicate 4 (0 : Int)).length) c155) rfl (by kernel_rfl) .none h164.wd (fun _ => dv_move (T rfl rfl)) ?_
     obtain ⟨g165, o166, rfl⟩ := Wd.at h164.wd (by first | omega | (simp; done) | (simp; omega))
     refine aw_pure 1 (.pointer (some ⟨g165, o166 + 3, none⟩)) rfl (by kernel_rfl) .none h164.wd (fun _ => dv_indexW (g := g165) (o := o166) (l := (xs138 ++ List.replicate 4 (0 : Int)).length) (c := c155) (i := 3) (j := 3) us57 sz24 (T rfl rfl) C (by omega) (by first | omega | (simp; done) | (simp; omega))) ?_
     refine aw_load 2 (.int .u64 (((xs138 ++ List.replicate 4 (0 : Int))).getD 3 0)) rfl (by kernel_rfl) .none h164.wd (fun _ s => dv_load agt24 (T rfl rfl) (Wd.cell s (by first | omega | (simp; done) | (simp; omega)))) ?_
     refine aw_pure 3 (.slice (some ⟨g165, o166, none⟩) ((xs138 ++ List.replicate 4 (0 : Int)).length) c155) rfl (by kernel_rfl) .none h164.wd (fun _ => dv_move (T rfl rfl)) ?_
     refine aw_pure 4 (.pointer (some ⟨g165, o166 + 2, none⟩)) rfl (by kernel_rfl) .none h164.wd (fun _ => dv_indexW (g := g165) (o := o166) (l := (xs138 ++ List.replicate 4 (0 : Int)).length) (c := c155) (i := 2) (j := 2) us57 sz24 (T rfl rfl) C (by omega) (by first | omega | (simp; done) | (simp; omega))) ?_
     refine aw_load 5 (.int .u64 (((xs138 ++ List.replicate 4 (0 : Int))).getD 2 0)) rfl (by kernel_rfl) .none h164.wd (fun _ s => dv_load agt24 (T rfl rfl) (Wd.cell s (by first | omega | (simp; done) | (simp; omega)))) ?_
     refine aw_pure 6 (.slice (some ⟨g165, o166, none⟩) ((xs138 ++ List.replicate 4 (0 : Int)).length) c155) rfl (by kernel_rfl) .none h164.wd (fun _ => dv_move (T rfl rfl)) ?_
     refine aw_pure 7 (.pointer (some ⟨g165, o166 + 1, none⟩)) rfl (by kernel_rfl) .none h164.wd (fun _ => dv_indexW (g := g165) (o := o166) (l := (xs138 ++ List.replicate 4 (0 : Int)).length) (c := c155) (i := 1) (j := 1) us57 sz24 (T rfl rfl) C (by omega) (by first | omega | (simp; done) | (simp; omega))) ?_
     refine aw_load 8 (.int .u64 (((xs138 ++ List.replicate 4 (0 : Int))).getD 1 0)) rfl (by kernel_rfl) .none h164.wd (fun _ s => dv_load agt24 (T rfl rfl) (Wd.cell s (by first | omega | (simp; done) | (simp; omega)))) ?_
     refine aw_pure 9 (.slice (some ⟨g165, o166, none⟩) ((xs138 ++ List.replicate 4 (0 : Int)).length) c155) rfl (by kernel_rfl) .none h164.wd (fun _ => dv_move (T rfl rfl)) ?_
     refine aw_pure 10 (.pointer (some ⟨g165, o166 + 0, none⟩)) rfl (by kernel_rfl) .none h164.wd (fun _ => dv_indexW (g := g165) (o := o166) (l := (xs138 ++ List.replicate 4 (0 : Int)).length) (c := c155) (i := 0) (j := 0) us57 sz24 (T rfl rfl) C (by omega) (by first | omega | (simp; done) | (simp; omega))) ?_
     refine aw_load 11 (.int .u64 (((xs138 ++ List.replicate 4 (0 : Int))).getD 0 0)) rfl (by kernel_rfl) .none h164.wd (fun _ s => dv_load agt24 (T rfl rfl) (Wd.cell s (by first | omega | (simp; done) | (simp; omega)))) ?_
     refine aw_pure 12 (.agg #[.int .u64 (((xs138 ++ List.replicate 4 (0 : Int))).getD 3 0), .int .u64 (((xs138 ++ List.replicate 4 (0 : Int))).getD 2 0), .int .u64 (((xs138 ++ List.replicate 4 (0 : Int))).getD 1 0), .int .u64 (((xs138 ++ List.replicate 4 (0 : Int))).getD 0 0)]) rfl (by kernel_rfl) .none h164.wd (fun _ => dv_build (pv := [(0, .int .u64 (((xs138 ++ List.replicate 4 (0 : Int))).getD 3 0)), (1, .int .u64 (((xs138 ++ List.replicate 4 (0 : Int))).getD 2 0)), (2, .int .u64 (((xs138 ++ List.replicate 4 (0 : Int))).getD 1 0)), (3, .int .u64 (((xs138 ++ List.replicate 4 (0 : Int))).getD 0 0))]) (l := [.int .u64 (((xs138 ++ List.replicate 4 (0 : Int))).getD 3 0), .int .u64 (((xs138 ++ List.replicate 4 (0 : Int))).getD 2 0), .int .u64 (((xs138 ++ List.replicate 4 (0 : Int))).getD 1 0), .int .u64 (((xs138 ++ List.replicate 4 (0 : Int))).getD 0 0)]) zc26 pl26 ⟨rfl, (T rfl rfl), ⟨rfl, (T rfl rfl), ⟨rfl, (T rfl rfl), ⟨rfl, (T rfl rfl), trivial⟩⟩⟩⟩ rfl) ?_
     have H167 := (d162.ext.blk (bl_blk x158 (e152.blk H146) (by omega)))
     refine aw_one 13 rfl (by kernel_rfl) .none (oe_store (v := .agg #[.int .u64 (((xs138 ++ List.replicate 4 (0 : Int))).getD 3 0), .int .u64 (((xs138 ++ List.replicate 4 (0 : Int))).getD 2 0), .int .u64 (((xs138 ++ List.replicate 4 (0 : Int))).getD 1 0), .int .u64 (((xs138 ++ List.replicate 4 (0 : Int))).getD 0 0)]) (vs := [.int .u64 (((xs138 ++ List.replicate 4 (0 : Int))).getD 3 0), .int .u64 (((xs138 ++ List.replicate 4 (0 : Int))).getD 2 0), .int .u64 (((xs138 ++ List.replicate 4 (0 : Int))).getD 1 0), .int .u64 (((xs138 ++ List.replicate 4 (0 : Int))).getD 0 0)]) (l := [.int .u64 (((xs138 ++ List.replicate 4 (0 : Int))).getD 3 0), .int .u64 (((xs138 ++ List.replicate 4 (0 : Int))).getD 2 0), .int .u64 (((xs138 ++ List.replicate 4 (0 : Int))).getD 1 0), .int .u64 (((xs138 ++ List.replicate 4 (0 : Int))).getD 0 0)]) (T rfl rfl) (T rfl rfl) sz26 rfl rfl rfl H167 rfl ?_)
     intro w168 s169 H170
     have E171 := below_st E163 N9 s169
     have h172 := (h164.st s169 H167 (by decide))
     refine ⟨.inr h172.wd, ?_⟩
     refine aw_last 14 (.bool true) rfl (by kernel_rfl) .none (fun _ => dv_assign C) ?_
     refine aw_done (by kernel_rfl) ?_
     refine rk_ret Try.func51 (v := .tuple #[.agg #[.int .u64 (((xs138 ++ List.replicate 4 (0 : Int))).getD 3 0), .int .u64 (((xs138 ++ List.replicate 4 (0 : Int))).getD 2 0), .int .u64 (((xs138 ++ List.replicate 4 (0 : Int))).getD 1 0), .int .u64 (((xs138 ++ List.replicate 4 (0 : Int))).getD 0 0)], .bool true]) (res2 Try.results51 (rv_cells (l := [.int .u64 (((xs138 ++ List.replicate 4 (0 : Int))).getD 3 0), .int .u64 (((xs138 ++ List.replicate 4 (0 : Int))).getD 2 0), .int .u64 (((xs138 ++ List.replicate 4 (0 : Int))).getD 1 0), .int .u64 (((xs138 ++ List.replicate 4 (0 : Int))).getD 0 0)]) agt26 sz26 rfl rfl H170 rfl) (rv_tmp rfl rfl)) ⟨_, rfl, ?_⟩
     have hd := dig64 (okW.append ho142 (okW.replicate (by decide) 4))
     rw [valB_pad] at hd
     have hws := wide_pos (x := x) (q := valB (2 ^ 64) xs138) (by have := ha.neg_iff; by_cases hz : x < 0 <;> simp_all <;> omega) hv144 (by omega)
     exact ⟨tu2 (ag4 (vi (by rw [hd.2.2.2]; exact hws.2.1.symm)) (vi (by rw [hd.2.2.1]; exact hws.2.2.1.symm)) (vi (by rw [hd.2.1]; exact hws.2.2.2.1.symm)) (vi (by rw [hd.1]; exact hws.2.2.2.2.symm))) (vt hws.1), E171⟩
end Go.Proofs.Ytfmkadgjoechnaa.W
set_option linter.unusedVariables false
set_option linter.unusedSimpArgs false
namespace Go.Proofs.Ytfmkadgjoechnaa.W
open Go Go.RowKit Go.Proofs.Ytfmkadgjoechnaa.Fw
attribute [local irreducible] RunK LW AW DV OE Ct
theorem co92 : callOk Try.prog 92 = true := by kernel_rfl
set_option maxHeartbeats 1000000 in
theorem l1Int_ok {w : World} {x : Int} (hx : -9223372036854775808 ≤ x ∧ x ≤ 9223372036854775807) : Ct Try.prog 79 [.int .i64 x] w fun v w1 => ∃ nr A' n c', v = .agg #[.bool nr, .slice A' n c'] ∧ Ext w w1 ∧ Num 32 95 .u32 w1 nr A' n c' (x) (64) := by
 refine ct_run (n := 19) Try.func79 rfl Try.ntmps79 rfl ?_
 have E0 : Below w.heap.size w w := Below.refl _ _
 refine rk_seq ?_
 refine rk_reg ?_
 refine lw_e (oe_alloc ze65 ?_)
 intro b1 w2 n3
 have N4 : w.heap.size ≤ b1 := n3.eq ▸ E0.size
 have E5 := below_ext E0 E0.size n3.ext
 refine lw_nil ?_
 refine rk_seq ?_
 refine rk_reg ?_
 refine lw_v (.int .i64 x) (dv_move (T rfl rfl)) ?_
 refine lw_v (.int .u64 ((x) % 18446744073709551616)) (dv_conv (a := x) (z := (x) % 18446744073709551616) ui2 ui24 (T rfl rfl) (wr_u64 _)) ?_
 refine lw_v (.int .u64 ((x) % 18446744073709551616)) (dv_assign (T rfl rfl)) ?_
 refine lw_nil ?_
 refine rk_seq ?_
 refine rk_seq ?_
 refine rk_reg ?_
 refine lw_v (.int .i64 x) (dv_move (T rfl rfl)) ?_
 refine lw_v (.bool (decide (x < 0))) (dv_lss (a := x) (b := 0) (T rfl rfl) C) ?_
 refine lw_nil ?_
 by_cases hb6 : x < 0
 · refine rk_ct (T rfl (congrArg Value.bool (decide_eq_true hb6))) ?_
   refine rk_reg ?_
   refine lw_v (.int .u64 ((x) % 18446744073709551616)) (dv_move (T rfl rfl)) ?_
   refine lw_v (.int .u64 ((0 - ((x) % 18446744073709551616)) % 18446744073709551616)) (dv_sub (a := 0) (b := (x) % 18446744073709551616) (z := (0 - ((x) % 18446744073709551616)) % 18446744073709551616) C (T rfl rfl) (wr_u64 _)) ?_
   refine lw_v (.int .u64 ((0 - ((x) % 18446744073709551616)) % 18446744073709551616)) (dv_assign (T rfl rfl)) ?_
   refine lw_nil ?_
   refine rk_seq ?_
   refine rk_reg ?_
   refine lw_v (.int .i64 x) (dv_move (T rfl rfl)) ?_
   refine lw_v (.bool (decide (x < 0))) (dv_lss (a := x) (b := 0) (T rfl rfl) C) ?_
   refine lw_v (.int .u64 ((0 - ((x) % 18446744073709551616)) % 18446744073709551616)) (dv_move (T rfl rfl)) ?_
   refine lw_v (.int .u32 (((0 - ((x) % 18446744073709551616)) % 18446744073709551616) % 4294967296)) (dv_conv (a := (0 - ((x) % 18446744073709551616)) % 18446744073709551616) (z := ((0 - ((x) % 18446744073709551616)) % 18446744073709551616) % 4294967296) ui24 ui95 (T rfl rfl) (wr_u32 _)) ?_
   refine lw_v (.int .u64 ((0 - ((x) % 18446744073709551616)) % 18446744073709551616)) (dv_move (T rfl rfl)) ?_
   refine lw_v (.int .u64 (((0 - ((x) % 18446744073709551616)) % 18446744073709551616) / 4294967296)) (dv_shr (a := (0 - ((x) % 18446744073709551616)) % 18446744073709551616) (b := 32) (z := ((0 - ((x) % 18446744073709551616)) % 18446744073709551616) / 4294967296) (T rfl rfl) C (by decide) (shr_c (n := 32) (by omega) (by decide))) ?_
   refine lw_v (.int .u32 ((((0 - ((x) % 18446744073709551616)) % 18446744073709551616) / 4294967296) % 4294967296)) (dv_conv (a := ((0 - ((x) % 18446744073709551616)) % 18446744073709551616) / 4294967296) (z := (((0 - ((x) % 18446744073709551616)) % 18446744073709551616) / 4294967296) % 4294967296) ui24 ui95 (T rfl rfl) (wr_u32 _)) ?_
   refine lw_e (oe_buildSlice (pv := [(0, .int .u32 (((0 - ((x) % 18446744073709551616)) % 18446744073709551616) % 4294967296)), (1, .int .u32 ((((0 - ((x) % 18446744073709551616)) % 18446744073709551616) / 4294967296) % 4294967296))]) (init := [.int .u32 0, .int .u32 0]) (l := [.int .u32 (((0 - ((x) % 18446744073709551616)) % 18446744073709551616) % 4294967296), .int .u32 ((((0 - ((x) % 18446744073709551616)) % 18446744073709551616) / 4294967296) % 4294967296)]) us63 sz95 rfl rfl zc95 (by kernel_rfl) ⟨rfl, (T rfl rfl), ⟨rfl, (T rfl rfl), trivial⟩⟩ rfl ?_)
   intro b7 w8 n9
   have N10 : w.heap.size ≤ b7 := n9.eq ▸ E5.size
   have : b1 < b7 := n9.eq ▸ lt_of_blk n3.blk
   have E11 := below_ext E5 E5.size n9.ext
   refine lw_e (oe_callf (vs := [.bool (decide (x < 0)), .slice (some ⟨b7, 0, none⟩) 2 2]) co75 (ar2 (T rfl rfl) (T rfl rfl)) (l1Trim_num (s := 64) (neg := decide (x < 0)) (⟨[((0 - ((x) % 18446744073709551616)) % 18446744073709551616) % 4294967296, (((0 - ((x) % 18446744073709551616)) % 18446744073709551616) / 4294967296) % 4294967296], rfl, Nat.le_refl _, Wd.ownW n9.blk, (okW_lit (by simp <;> omega)), rfl⟩ : Ws _ _ _ _ _ _ _ _) (by first | omega | decide) (valB_sz (m := 32) (xs := [((0 - ((x) % 18446744073709551616)) % 18446744073709551616) % 4294967296, (((0 - ((x) % 18446744073709551616)) % 18446744073709551616) / 4294967296) % 4294967296]) (n := 2) (okW_lit (by simp <;> omega)) rfl)) ?_)
   rintro _ w17 ⟨nb12, A13, n14, c15, rfl, e18, hn16⟩
   have E19 := below_ext E11 E11.size e18
   have lhn16 := Num.len (by decide) hn16
   have H20 := (e18.blk (n9.ext.blk n3.blk))
   refine lw_e (oe_store (v := .agg #[.bool nb12, .slice A13 n14 c15]) (vs := [.bool nb12, .slice A13 n14 c15]) (l := [.bool nb12, .slice A13 n14 c15]) (T rfl rfl) (T rfl rfl) sz65 rfl rfl rfl H20 rfl ?_)
   intro w21 s22 H23
   have E24 := below_st E19 N4 s22
   refine lw_nil ?_
   refine rk_ret Try.func79 (v := .agg #[.bool nb12, .slice A13 n14 c15]) (res1 Try.results79 (rv_cells (l := [.bool nb12, .slice A13 n14 c15]) agt65 sz65 rfl rfl H23 rfl)) ⟨_, rfl, ?_⟩
   have h25 := (hn16.st s22 H20 (by decide))
   exact ⟨_, _, _, _, rfl, E24, h25.tight (int_32 (by omega) (by omega)) (by have e : (2 : Nat) ^ 64 = 18446744073709551616 := (by decide); omega)⟩
 · refine rk_cf (T rfl (congrArg Value.bool (decide_eq_false hb6))) ?_
   refine rk_skip ?_
   refine rk_seq ?_
   refine rk_reg ?_
   refine lw_v (.int .i64 x) (dv_move (T rfl rfl)) ?_
   refine lw_v (.bool (decide (x < 0))) (dv_lss (a := x) (b := 0) (T rfl rfl) C) ?_
   refine lw_v (.int .u64 ((x) % 18446744073709551616)) (dv_move (T rfl rfl)) ?_
   refine lw_v (.int .u32 (((x) % 18446744073709551616) % 4294967296)) (dv_conv (a := (x) % 18446744073709551616) (z := ((x) % 18446744073709551616) % 4294967296) ui24 ui95 (T rfl rfl) (wr_u32 _)) ?_
   refine lw_v (.int .u64 ((x) % 18446744073709551616)) (dv_move (T rfl rfl)) ?_
   refine lw_v (.int .u64 (((x) % 18446744073709551616) / 4294967296)) (dv_shr (a := (x) % 18446744073709551616) (b := 32) (z := ((x) % 18446744073709551616) / 4294967296) (T rfl rfl) C (by decide) (shr_c (n := 32) (by omega) (by decide))) ?_
   refine lw_v (.int .u32 ((((x) % 18446744073709551616) / 4294967296) % 4294967296)) (dv_conv (a := ((x) % 18446744073709551616) / 4294967296) (z := (((x) % 18446744073709551616) / 4294967296) % 4294967296) ui24 ui95 (T rfl rfl) (wr_u32 _)) ?_
   refine lw_e (oe_buildSlice (pv := [(0, .int .u32 (((x) % 18446744073709551616) % 4294967296)), (1, .int .u32 ((((x) % 18446744073709551616) / 4294967296) % 4294967296))]) (init := [.int .u32 0, .int .u32 0]) (l := [.int .u32 (((x) % 18446744073709551616) % 4294967296), .int .u32 ((((x) % 18446744073709551616) / 4294967296) % 4294967296)]) us63 sz95 rfl rfl zc95 (by kernel_rfl) ⟨rfl, (T rfl rfl), ⟨rfl, (T rfl rfl), trivial⟩⟩ rfl ?_)
   intro b26 w27 n28
   have N29 : w.heap.size ≤ b26 := n28.eq ▸ E5.size
   have : b1 < b26 := n28.eq ▸ lt_of_blk n3.blk
   have E30 := below_ext E5 E5.size n28.ext
   refine lw_e (oe_callf (vs := [.bool (decide (x < 0)), .slice (some ⟨b26, 0, none⟩) 2 2]) co75 (ar2 (T rfl rfl) (T rfl rfl)) (l1Trim_num (s := 64) (neg := decide (x < 0)) (⟨[((x) % 18446744073709551616) % 4294967296, (((x) % 18446744073709551616) / 4294967296) % 4294967296], rfl, Nat.le_refl _, Wd.ownW n28.blk, (okW_lit (by simp <;> omega)), rfl⟩ : Ws _ _ _ _ _ _ _ _) (by first | omega | decide) (valB_sz (m := 32) (xs := [((x) % 18446744073709551616) % 4294967296, (((x) % 18446744073709551616) / 4294967296) % 4294967296]) (n := 2) (okW_lit (by simp <;> omega)) rfl)) ?_)
   rintro _ w36 ⟨nb31, A32, n33, c34, rfl, e37, hn35⟩
   have E38 := below_ext E30 E30.size e37
   have lhn35 := Num.len (by decide) hn35
   have H39 := (e37.blk (n28.ext.blk n3.blk))
   refine lw_e (oe_store (v := .agg #[.bool nb31, .slice A32 n33 c34]) (vs := [.bool nb31, .slice A32 n33 c34]) (l := [.bool nb31, .slice A32 n33 c34]) (T rfl rfl) (T rfl rfl) sz65 rfl rfl rfl H39 rfl ?_)
   intro w40 s41 H42
   have E43 := below_st E38 N4 s41
   refine lw_nil ?_
   refine rk_ret Try.func79 (v := .agg #[.bool nb31, .slice A32 n33 c34]) (res1 Try.results79 (rv_cells (l := [.bool nb31, .slice A32 n33 c34]) agt65 sz65 rfl rfl H42 rfl)) ⟨_, rfl, ?_⟩
   have h44 := (hn35.st s41 H39 (by decide))
   exact ⟨_, _, _, _, rfl, E43, h44.tight (int_32 (by omega) (by omega)) (by have e : (2 : Nat) ^ 64 = 18446744073709551616 := (by decide); omega)⟩
set_option maxHeartbeats 1000000 in
theorem l1Wide_ok {w : World} {na : Bool} {Aa : Option Addr} {la ca : Nat} {x : Int} {sx : Nat} (ha : Num 32 95 .u32 w na Aa la ca x sx) (hs : sx ≤ 400000) : Ct Try.prog 54 [.agg #[.bool na, .slice Aa la ca]] w fun v w1 => v = .tuple #[.agg #[.int .u64 (wv3 x), .int .u64 (wv2 x), .int .u64 (wv1 x), .int .u64 (wv0 x)], .bool (decide (fits x))] ∧ Ext w w1 := by
 refine ct_run (n := 77) Try.func54 rfl Try.ntmps54 rfl ?_
 have E0 : Below w.heap.size w w := Below.refl _ _
 have lha := Num.len (by decide) ha
 have e1 : valB (2 ^ 32) [1] = 1 := by simp [valB]
 have hn := ha.neg_iff
 have hn2 : na = false → ¬ x < 0 := fun h h2 => by rw [hn.2 h2] at h; cases h
 have nb := nb255 (x := x) (y := ((x.natAbs : Nat) : Int).toNat) (Int.toNat_natCast _)
 refine rk_seq ?_
 refine rk_reg ?_
 refine lw_e (oe_box (v := .agg #[.bool na, .slice Aa la ca]) (cs := #[.bool na, .slice Aa la ca]) (T rfl rfl) rfl ?_)
 intro b1 w2 n3
 have N4 : w.heap.size ≤ b1 := n3.eq ▸ E0.size
 have E5 := below_ext E0 E0.size n3.ext
 refine lw_e (oe_alloc ze26 ?_)
 intro b6 w7 n8
 have N9 : w.heap.size ≤ b6 := n8.eq ▸ E5.size
 have : b1 < b6 := n8.eq ▸ lt_of_blk n3.blk
 have E10 := below_ext E5 E5.size n8.ext
 refine lw_v (.bool false) (dv_assign C) ?_
 refine lw_nil ?_
 refine rk_seq ?_
 refine rk_reg ?_
 refine lw_v (.pointer (some ⟨b1, 1, none⟩)) (dv_fieldAddr (a := ⟨b1, 0, none⟩) (a' := ⟨b1, 1, none⟩) fo65_1 (T rfl rfl) rfl) ?_
 have H11 := (n8.ext.blk n3.blk)
 refine lw_v (.slice Aa la ca) (dv_load1 (b := b1) (o := 1) agt63 (T rfl rfl) H11 rfl) ?_
 refine lw_v (.slice Aa la ca) (dv_assign (T rfl rfl)) ?_
 refine lw_nil ?_
 refine rk_seq ?_
 refine rk_seq ?_
 refine rk_reg ?_
 refine lw_v (.pointer (some ⟨b1, 0, none⟩)) (dv_fieldAddr (a := ⟨b1, 0, none⟩) (a' := ⟨b1, 0, none⟩) fo65_0 (T rfl rfl) rfl) ?_
 refine lw_v (.bool na) (dv_load1 (b := b1) (o := 0) agt4 (T rfl rfl) H11 rfl) ?_
 refine lw_nil ?_
 refine rk_join (fun fr wl => ∃ (ys : List Int) (Ay : Option Addr) (my cy : Nat), fr 2 = .pointer (some ⟨b6, 0, none⟩) ∧ fr 4 = .slice Ay my cy ∧ Below w.heap.size w wl ∧ wl.heap[b1]? = some (.cells #[.bool na, .slice Aa la ca] 65) ∧ wl.heap[b6]? = some (.cells #[.int .u64 0, .int .u64 0, .int .u64 0, .int .u64 0] 26) ∧ Wd wl 95 .u32 Ay ys ∧ (ys.length = my) ∧ (okW (2 ^ 32) ys) ∧ (my ≤ 1000000) ∧ (fits x) ∧ (valB (2 ^ 32) ys = x % 115792089237316195423570985008687907853269984665640564039457584007913129639936)) ?_ (fun hj14 => ?_)
 · intro fr15 w12 hI13
   obtain ⟨ys, Ay, my, cy, f16, f17, E18, H19, H20, h21, hy1, hyo, hyb, hyf, hyv⟩ := hI13
   refine rk_seq ?_
   refine rk_reg ?_
   refine lw_e (oe_makeW (l := 8) (j := 8) us57 in24 C C (by omega) (by first | omega | (simp; done) | (simp; omega)) (by first | omega | (simp; done) | (simp; omega)) ?_)
   intro b22 w23 n24
   have N25 : w.heap.size ≤ b22 := n24.eq ▸ E18.size
   have : b6 < b22 := n24.eq ▸ lt_of_blk H20
   have E26 := below_ext E18 E18.size n24.ext
   refine lw_v (.slice (some ⟨b22, 0, none⟩) 8 8) (dv_assign (T rfl rfl)) ?_
   refine lw_nil ?_
   refine rk_seq ?_
   refine rk_seq ?_
   refine rk_reg ?_
   refine lw_v (.int .i64 0) (dv_assign C) ?_
   refine lw_nil ?_
   refine rk_block ?_
   have h27 := (h21.ext n24.ext)
   have H28 := (n24.ext.blk H19)
   have H29 := (n24.ext.blk H20)
   refine rk_loop (fun dm_ fr wl => ∃ (i : Nat) (X : List Int), dm_ = 8 - i ∧ fr 2 = .pointer (some ⟨b6, 0, none⟩) ∧ fr 4 = .slice Ay my cy ∧ fr 5 = .slice (some ⟨b22, 0, none⟩) 8 8 ∧ fr 6 = .int .i64 ((i : Int)) ∧ Below w.heap.size w wl ∧ wl.heap[b1]? = some (.cells #[.bool na, .slice Aa la ca] 65) ∧ wl.heap[b6]? = some (.cells #[.int .u64 0, .int .u64 0, .int .u64 0, .int .u64 0] 26) ∧ wl.heap[b22]? = some (.cells (X.map (Value.int .u64)).toArray 24) ∧ Wd wl 95 .u32 Ay ys ∧ (i ≤ 8) ∧ (X.length = 8) ∧ (∀ j, j < 8 → X.getD j 0 = if j < i then ys.getD j 0 else 0)) (8 - 0) ⟨0, (List.replicate 8 (0 : Int)), rfl, f16, f17, rfl, (vi (by omega)), E26, H28, H29, n24.blk, h27, (by decide), (by simp), (fun j hj => by rw [if_neg (by omega)]; exact rep0 j)⟩ ?_
   intro d34 fr33 w30 hI31 ih32
   obtain ⟨i, X, hd44, f35, f36, f37, f38, E39, H40, H41, H42, h43, hi, hX, hXv⟩ := hI31
   have bx0 := put_rg hXv hyo 0 (by decide)
   have bx1 := put_rg hXv hyo 1 (by decide)
   have bx2 := put_rg hXv hyo 2 (by decide)
   have bx3 := put_rg hXv hyo 3 (by decide)
   have bx4 := put_rg hXv hyo 4 (by decide)
   have bx5 := put_rg hXv hyo 5 (by decide)
   have bx6 := put_rg hXv hyo 6 (by decide)
   have bx7 := put_rg hXv hyo 7 (by decide)
   have by_ := okW.getD hyo (by decide) i
   refine rk_seq ?_
   refine rk_seq ?_
   refine rk_reg ?_
   refine lw_v (.int .i64 ((i : Int))) (dv_move (T rfl f38)) ?_
   refine lw_v (.bool (decide (((i : Int)) < 8))) (dv_lss (a := (i : Int)) (b := 8) (T rfl rfl) C) ?_
   refine lw_v (.bool (decide (((i : Int)) < 8))) (dv_move (T rfl rfl)) ?_
   by_cases hb45 : ((i : Int)) < 8
   · refine lw_vy (.int .i64 ((i : Int))) (d := 28) rfl rfl (congrArg Value.bool (decide_eq_true hb45)) (dv_move (T rfl f38)) ?_
     refine lw_vy (.slice Ay my cy) (d := 28) rfl rfl (congrArg Value.bool (decide_eq_true hb45)) (dv_move (T rfl f36)) ?_
     refine lw_vy (.int .i64 ((my : Int))) (d := 28) rfl rfl (congrArg Value.bool (decide_eq_true hb45)) (dv_len (ad := Ay) (l := my) (c := cy) us63 (T rfl rfl)) ?_
     refine lw_vy (.bool (decide (((i : Int)) < ((my : Int))))) (d := 28) rfl rfl (congrArg Value.bool (decide_eq_true hb45)) (dv_lss (a := (i : Int)) (b := (my : Int)) (T rfl rfl) (T rfl rfl)) ?_
     refine lw_v (.bool (decide (((i : Int)) < ((my : Int))))) (dv_pick_t (T rfl (congrArg Value.bool (decide_eq_true hb45))) (T rfl rfl)) ?_
     refine lw_nil ?_
     by_cases hb46 : ((i : Int)) < ((my : Int))
     · refine rk_ct (T rfl (congrArg Value.bool (decide_eq_true hb46))) ?_
       refine rk_skip ?_
       refine rk_seq ?_
       refine rk_block ?_
       refine rk_reg ?_
       refine lw_v (.slice (some ⟨b22, 0, none⟩) 8 8) (dv_move (T rfl f37)) ?_
       refine lw_v (.int .i64 ((i : Int))) (dv_move (T rfl f38)) ?_
       refine lw_v (.slice Ay my cy) (dv_move (T rfl f36)) ?_
       refine lw_v (.int .i64 ((i : Int))) (dv_move (T rfl f38)) ?_
       obtain ⟨g47, o48, rfl⟩ := Wd.at h43 (by first | omega | (simp; done) | (simp; omega))
       refine lw_v (.pointer (some ⟨g47, o48 + i, none⟩)) (dv_indexW (g := g47) (o := o48) (l := my) (c := cy) (i := i) (j := (i : Int)) us63 sz95 (T rfl rfl) (T rfl rfl) (by omega) (by first | omega | (simp; done) | (simp; omega))) ?_
       refine lw_v (.int .u32 (ys.getD i 0)) (dv_load agt95 (T rfl rfl) (Wd.cell h43 (by first | omega | (simp; done) | (simp; omega)))) ?_
       refine lw_v (.int .u64 (ys.getD i 0)) (dv_conv (a := ys.getD i 0) (z := ys.getD i 0) ui95 ui24 (T rfl rfl) (wn_u64 (by omega) (by omega))) ?_
       refine lw_v (.pointer (some ⟨b22, i, none⟩)) (dv_indexO (g := b22) (l := 8) (c := 8) (i := i) (j := (i : Int)) us57 sz24 (T rfl rfl) (T rfl rfl) (by omega) (by first | omega | (simp; done) | (simp; omega))) ?_
       refine lw_e (oe_storeW (L := X) (i := i) (z := ys.getD i 0) sz24 (T rfl rfl) (T rfl rfl) H42 (by first | omega | (simp; done) | (simp; omega)) ?_)
       intro w49 s50 H51
       have E52 := below_st E39 N25 s50
       refine lw_nil ?_
       refine rk_inBlock ?_
       refine rk_reg ?_
       refine lw_v (.int .i64 ((i : Int))) (dv_move (T rfl f38)) ?_
       refine lw_v (.int .i64 (((i : Int)) + 1)) (dv_add (a := (i : Int)) (b := 1) (z := ((i : Int)) + 1) (T rfl rfl) C (wr_i64 (by omega) (by omega))) ?_
       refine lw_v (.int .i64 (((i : Int)) + 1)) (dv_assign (T rfl rfl)) ?_
       refine lw_nil ?_
       have h53 := (h43.st s50 H42 (by decide))
       have H54 := (s50.blk H40 (by omega))
       have H55 := (s50.blk H41 (by omega))
       exact ih32 (8 - ((i + 1))) _ _ (by rw [hd44]; omega) ⟨(i + 1), (X.set i (ys.getD i 0)), rfl, f35, f36, f37, (vi (by omega)), E52, H54, H55, H51, h53, (by omega), (by simp [hX]), (put_step (by omega) hXv)⟩
     · refine rk_cf (T rfl (congrArg Value.bool (decide_eq_false hb46))) ?_
       refine rk_exit rfl ?_
       refine rk_seq ?_
       refine rk_any (fun w => w.heap[b22]? = some (.cells (X.map (Value.int .u64)).toArray 24)) [34] mo ?_
       intro w56 d57
       have E58 := below_ext E39 E39.size d57.ext
       have H59 := (d57.ext.blk H42)
       refine aw_pure 0 (.slice (some ⟨b22, 0, none⟩) 8 8) rfl (by kernel_rfl) .none H59 (fun _ => dv_move (T rfl f37)) ?_
       refine aw_pure 1 (.pointer (some ⟨b22, 7, none⟩)) rfl (by kernel_rfl) .none H59 (fun _ => dv_indexO (g := b22) (l := 8) (c := 8) (i := 7) (j := 7) us57 sz24 (T rfl rfl) C (by omega) (by first | omega | (simp; done) | (simp; omega))) ?_
       refine aw_load 2 (.int .u64 (X.getD 7 0)) rfl (by kernel_rfl) .none H59 (fun _ s => dv_loadW (L := X) (v := X.getD 7 0) agt24 (T rfl rfl) s (by first | omega | (simp; done) | (simp; omega)) rfl) ?_
       refine aw_pure 3 (.int .u64 ((X.getD 7 0) * 4294967296)) rfl (by kernel_rfl) .none H59 (fun _ => dv_shl (a := X.getD 7 0) (b := 32) (z := (X.getD 7 0) * 4294967296) (T rfl rfl) C (by decide) (shl_c (m := 4294967296) (n := 32) (by decide) (wn_u64 (by omega) (by omega)))) ?_
       refine aw_pure 4 (.slice (some ⟨b22, 0, none⟩) 8 8) rfl (by kernel_rfl) .none H59 (fun _ => dv_move (T rfl f37)) ?_
       refine aw_pure 5 (.pointer (some ⟨b22, 6, none⟩)) rfl (by kernel_rfl) .none H59 (fun _ => dv_indexO (g := b22) (l := 8) (c := 8) (i := 6) (j := 6) us57 sz24 (T rfl rfl) C (by omega) (by first | omega | (simp; done) | (simp; omega))) ?_
       refine aw_load 6 (.int .u64 (X.getD 6 0)) rfl (by kernel_rfl) .none H59 (fun _ s => dv_loadW (L := X) (v := X.getD 6 0) agt24 (T rfl rfl) s (by first | omega | (simp; done) | (simp; omega)) rfl) ?_
       refine aw_pure 7 (.int .u64 ((X.getD 6 0) + ((X.getD 7 0) * 4294967296))) rfl (by kernel_rfl) .none H59 (fun _ => dv_or (a := (X.getD 7 0) * 4294967296) (b := X.getD 6 0) (z := (X.getD 6 0) + ((X.getD 7 0) * 4294967296)) (T rfl rfl) (T rfl rfl) (or_add (k := .u64) (a := X.getD 6 0) (b := (X.getD 7 0) * 4294967296) (i := 32) rfl (by omega) (by omega) (by omega) (by omega) (lt64 (by omega)) (lt64 (by omega))).2) ?_
       refine aw_pure 8 (.slice (some ⟨b22, 0, none⟩) 8 8) rfl (by kernel_rfl) .none H59 (fun _ => dv_move (T rfl f37)) ?_
       refine aw_pure 9 (.pointer (some ⟨b22, 5, none⟩)) rfl (by kernel_rfl) .none H59 (fun _ => dv_indexO (g := b22) (l := 8) (c := 8) (i := 5) (j := 5) us57 sz24 (T rfl rfl) C (by omega) (by first | omega | (simp; done) | (simp; omega))) ?_
       refine aw_load 10 (.int .u64 (X.getD 5 0)) rfl (by kernel_rfl) .none H59 (fun _ s => dv_loadW (L := X) (v := X.getD 5 0) agt24 (T rfl rfl) s (by first | omega | (simp; done) | (simp; omega)) rfl) ?_
       refine aw_pure 11 (.int .u64 ((X.getD 5 0) * 4294967296)) rfl (by kernel_rfl) .none H59 (fun _ => dv_shl (a := X.getD 5 0) (b := 32) (z := (X.getD 5 0) * 4294967296) (T rfl rfl) C (by decide) (shl_c (m := 4294967296) (n := 32) (by decide) (wn_u64 (by omega) (by omega)))) ?_
       refine aw_pure 12 (.slice (some ⟨b22, 0, none⟩) 8 8) rfl (by kernel_rfl) .none H59 (fun _ => dv_move (T rfl f37)) ?_
       refine aw_pure 13 (.pointer (some ⟨b22, 4, none⟩)) rfl (by kernel_rfl) .none H59 (fun _ => dv_indexO (g := b22) (l := 8) (c := 8) (i := 4) (j := 4) us57 sz24 (T rfl rfl) C (by omega) (by first | omega | (simp; done) | (simp; omega))) ?_
       refine aw_load 14 (.int .u64 (X.getD 4 0)) rfl (by kernel_rfl) .none H59 (fun _ s => dv_loadW (L := X) (v := X.getD 4 0) agt24 (T rfl rfl) s (by first | omega | (simp; done) | (simp; omega)) rfl) ?_
       refine aw_pure 15 (.int .u64 ((X.getD 4 0) + ((X.getD 5 0) * 4294967296))) rfl (by kernel_rfl) .none H59 (fun _ => dv_or (a := (X.getD 5 0) * 4294967296) (b := X.getD 4 0) (z := (X.getD 4 0) + ((X.getD 5 0) * 4294967296)) (T rfl rfl) (T rfl rfl) (or_add (k := .u64) (a := X.getD 4 0) (b := (X.getD 5 0) * 4294967296) (i := 32) rfl (by omega) (by omega) (by omega) (by omega) (lt64 (by omega)) (lt64 (by omega))).2) ?_
       refine aw_pure 16 (.slice (some ⟨b22, 0, none⟩) 8 8) rfl (by kernel_rfl) .none H59 (fun _ => dv_move (T rfl f37)) ?_
       refine aw_pure 17 (.pointer (some ⟨b22, 3, none⟩)) rfl (by kernel_rfl) .none H59 (fun _ => dv_indexO (g := b22) (l := 8) (c := 8) (i := 3) (j := 3) us57 sz24 (T rfl rfl) C (by omega) (by first | omega | (simp; done) | (simp; omega))) ?_
       refine aw_load 18 (.int .u64 (X.getD 3 0)) rfl (by kernel_rfl) .none H59 (fun _ s => dv_loadW (L := X) (v := X.getD 3 0) agt24 (T rfl rfl) s (by first | omega | (simp; done) | (simp; omega)) rfl) ?_
       refine aw_pure 19 (.int .u64 ((X.getD 3 0) * 4294967296)) rfl (by kernel_rfl) .none H59 (fun _ => dv_shl (a := X.getD 3 0) (b := 32) (z := (X.getD 3 0) * 4294967296) (T rfl rfl) C (by decide) (shl_c (m := 4294967296) (n := 32) (by decide) (wn_u64 (by omega) (by omega)))) ?_
       refine aw_pure 20 (.slice (some ⟨b22, 0, none⟩) 8 8) rfl (by kernel_rfl) .none H59 (fun _ => dv_move (T rfl f37)) ?_
       refine aw_pure 21 (.pointer (some ⟨b22, 2, none⟩)) rfl (by kernel_rfl) .none H59 (fun _ => dv_indexO (g := b22) (l := 8) (c := 8) (i := 2) (j := 2) us57 sz24 (T rfl rfl) C (by omega) (by first | omega | (simp; done) | (simp; omega))) ?_
       refine aw_load 22 (.int .u64 (X.getD 2 0)) rfl (by kernel_rfl) .none H59 (fun _ s => dv_loadW (L := X) (v := X.getD 2 0) agt24 (T rfl rfl) s (by first | omega | (simp; done) | (simp; omega)) rfl) ?_
       refine aw_pure 23 (.int .u64 ((X.getD 2 0) + ((X.getD 3 0) * 4294967296))) rfl (by kernel_rfl) .none H59 (fun _ => dv_or (a := (X.getD 3 0) * 4294967296) (b := X.getD 2 0) (z := (X.getD 2 0) + ((X.getD 3 0) * 4294967296)) (T rfl rfl) (T rfl rfl) (or_add (k := .u64) (a := X.getD 2 0) (b := (X.getD 3 0) * 4294967296) (i := 32) rfl (by omega) (by omega) (by omega) (by omega) (lt64 (by omega)) (lt64 (by omega))).2) ?_
       refine aw_pure 24 (.slice (some ⟨b22, 0, none⟩) 8 8) rfl (by kernel_rfl) .none H59 (fun _ => dv_move (T rfl f37)) ?_
       refine aw_pure 25 (.pointer (some ⟨b22, 1, none⟩)) rfl (by kernel_rfl) .none H59 (fun _ => dv_indexO (g := b22) (l := 8) (c := 8) (i := 1) (j := 1) us57 sz24 (T rfl rfl) C (by omega) (by first | omega | (simp; done) | (simp; omega))) ?_
       refine aw_load 26 (.int .u64 (X.getD 1 0)) rfl (by kernel_rfl) .none H59 (fun _ s => dv_loadW (L := X) (v := X.getD 1 0) agt24 (T rfl rfl) s (by first | omega | (simp; done) | (simp; omega)) rfl) ?_
       refine aw_pure 27 (.int .u64 ((X.getD 1 0) * 4294967296)) rfl (by kernel_rfl) .none H59 (fun _ => dv_shl (a := X.getD 1 0) (b := 32) (z := (X.getD 1 0) * 4294967296) (T rfl rfl) C (by decide) (shl_c (m := 4294967296) (n := 32) (by decide) (wn_u64 (by omega) (by omega)))) ?_
       refine aw_pure 28 (.slice (some ⟨b22, 0, none⟩) 8 8) rfl (by kernel_rfl) .none H59 (fun _ => dv_move (T rfl f37)) ?_
       refine aw_pure 29 (.pointer (some ⟨b22, 0, none⟩)) rfl (by kernel_rfl) .none H59 (fun _ => dv_indexO (g := b22) (l := 8) (c := 8) (i := 0) (j := 0) us57 sz24 (T rfl rfl) C (by omega) (by first | omega | (simp; done) | (simp; omega))) ?_
       refine aw_load 30 (.int .u64 (X.getD 0 0)) rfl (by kernel_rfl) .none H59 (fun _ s => dv_loadW (L := X) (v := X.getD 0 0) agt24 (T rfl rfl) s (by first | omega | (simp; done) | (simp; omega)) rfl) ?_
       refine aw_pure 31 (.int .u64 ((X.getD 0 0) + ((X.getD 1 0) * 4294967296))) rfl (by kernel_rfl) .none H59 (fun _ => dv_or (a := (X.getD 1 0) * 4294967296) (b := X.getD 0 0) (z := (X.getD 0 0) + ((X.getD 1 0) * 4294967296)) (T rfl rfl) (T rfl rfl) (or_add (k := .u64) (a := X.getD 0 0) (b := (X.getD 1 0) * 4294967296) (i := 32) rfl (by omega) (by omega) (by omega) (by omega) (lt64 (by omega)) (lt64 (by omega))).2) ?_
       refine aw_pure 32 (.agg #[.int .u64 ((X.getD 6 0) + ((X.getD 7 0) * 4294967296)), .int .u64 ((X.getD 4 0) + ((X.getD 5 0) * 4294967296)), .int .u64 ((X.getD 2 0) + ((X.getD 3 0) * 4294967296)), .int .u64 ((X.getD 0 0) + ((X.getD 1 0) * 4294967296))]) rfl (by kernel_rfl) .none H59 (fun _ => dv_build (pv := [(0, .int .u64 ((X.getD 6 0) + ((X.getD 7 0) * 4294967296))), (1, .int .u64 ((X.getD 4 0) + ((X.getD 5 0) * 4294967296))), (2, .int .u64 ((X.getD 2 0) + ((X.getD 3 0) * 4294967296))), (3, .int .u64 ((X.getD 0 0) + ((X.getD 1 0) * 4294967296)))]) (l := [.int .u64 ((X.getD 6 0) + ((X.getD 7 0) * 4294967296)), .int .u64 ((X.getD 4 0) + ((X.getD 5 0) * 4294967296)), .int .u64 ((X.getD 2 0) + ((X.getD 3 0) * 4294967296)), .int .u64 ((X.getD 0 0) + ((X.getD 1 0) * 4294967296))]) zc26 pl26 ⟨rfl, (T rfl rfl), ⟨rfl, (T rfl rfl), ⟨rfl, (T rfl rfl), ⟨rfl, (T rfl rfl), trivial⟩⟩⟩⟩ rfl) ?_
       have H60 := (d57.ext.blk H41)
       refine aw_one 33 rfl (by kernel_rfl) .none (oe_store (v := .agg #[.int .u64 ((X.getD 6 0) + ((X.getD 7 0) * 4294967296)), .int .u64 ((X.getD 4 0) + ((X.getD 5 0) * 4294967296)), .int .u64 ((X.getD 2 0) + ((X.getD 3 0) * 4294967296)), .int .u64 ((X.getD 0 0) + ((X.getD 1 0) * 4294967296))]) (vs := [.int .u64 ((X.getD 6 0) + ((X.getD 7 0) * 4294967296)), .int .u64 ((X.getD 4 0) + ((X.getD 5 0) * 4294967296)), .int .u64 ((X.getD 2 0) + ((X.getD 3 0) * 4294967296)), .int .u64 ((X.getD 0 0) + ((X.getD 1 0) * 4294967296))]) (l := [.int .u64 ((X.getD 6 0) + ((X.getD 7 0) * 4294967296)), .int .u64 ((X.getD 4 0) + ((X.getD 5 0) * 4294967296)), .int .u64 ((X.getD 2 0) + ((X.getD 3 0) * 4294967296)), .int .u64 ((X.getD 0 0) + ((X.getD 1 0) * 4294967296))]) (T rfl f35) (T rfl rfl) sz26 rfl rfl rfl H60 rfl ?_)
       intro w61 s62 H63
       have E64 := below_st E58 N9 s62
       have H65 := (s62.blk H59 (by omega))
       refine ⟨.inr H65, ?_⟩
       refine aw_last 34 (.bool true) rfl (by kernel_rfl) .none (fun _ => dv_assign C) ?_
       refine aw_done (by kernel_rfl) ?_
       refine rk_ret Try.func54 (v := .tuple #[.agg #[.int .u64 ((X.getD 6 0) + ((X.getD 7 0) * 4294967296)), .int .u64 ((X.getD 4 0) + ((X.getD 5 0) * 4294967296)), .int .u64 ((X.getD 2 0) + ((X.getD 3 0) * 4294967296)), .int .u64 ((X.getD 0 0) + ((X.getD 1 0) * 4294967296))], .bool true]) (res2 Try.results54 (rv_cells (l := [.int .u64 ((X.getD 6 0) + ((X.getD 7 0) * 4294967296)), .int .u64 ((X.getD 4 0) + ((X.getD 5 0) * 4294967296)), .int .u64 ((X.getD 2 0) + ((X.getD 3 0) * 4294967296)), .int .u64 ((X.getD 0 0) + ((X.getD 1 0) * 4294967296))]) agt26 sz26 rfl f35 H63 rfl) (rv_tmp rfl rfl)) ⟨_, rfl, ?_⟩
       have hws := wide32 hyo hyf hyv
       have hpe := put_end hXv (by omega)
       exact ⟨tu2 (ag4 (vi (by rw [hpe 6 (by decide), hpe 7 (by decide)]; exact hws.1)) (vi (by rw [hpe 4 (by decide), hpe 5 (by decide)]; exact hws.2.1)) (vi (by rw [hpe 2 (by decide), hpe 3 (by decide)]; exact hws.2.2.1)) (vi (by rw [hpe 0 (by decide), hpe 1 (by decide)]; exact hws.2.2.2))) (vt hyf), E64⟩
   · refine lw_no (d := 28) rfl rfl (congrArg Value.bool (decide_eq_false hb45)) ?_
     refine lw_no (d := 28) rfl rfl (congrArg Value.bool (decide_eq_false hb45)) ?_
     refine lw_no (d := 28) rfl rfl (congrArg Value.bool (decide_eq_false hb45)) ?_
     refine lw_no (d := 28) rfl rfl (congrArg Value.bool (decide_eq_false hb45)) ?_
     refine lw_v (.bool false) (dv_pick_f (T rfl (congrArg Value.bool (decide_eq_false hb45))) C) ?_
     refine lw_nil ?_
     refine rk_cf (T rfl rfl) ?_
     refine rk_exit rfl ?_
     refine rk_seq ?_
     refine rk_any (fun w => w.heap[b22]? = some (.cells (X.map (Value.int .u64)).toArray 24)) [34] mo ?_
     intro w66 d67
     have E68 := below_ext E39 E39.size d67.ext
     have H69 := (d67.ext.blk H42)
     refine aw_pure 0 (.slice (some ⟨b22, 0, none⟩) 8 8) rfl (by kernel_rfl) .none H69 (fun _ => dv_move (T rfl f37)) ?_
     refine aw_pure 1 (.pointer (some ⟨b22, 7, none⟩)) rfl (by kernel_rfl) .none H69 (fun _ => dv_indexO (g := b22) (l := 8) (c := 8) (i := 7) (j := 7) us57 sz24 (T rfl rfl) C (by omega) (by first | omega | (simp; done) | (simp; omega))) ?_
     refine aw_load 2 (.int .u64 (X.getD 7 0)) rfl (by kernel_rfl) .none H69 (fun _ s => dv_loadW (L := X) (v := X.getD 7 0) agt24 (T rfl rfl) s (by first | omega | (simp; done) | (simp; omega)) rfl) ?_
     refine aw_pure 3 (.int .u64 ((X.getD 7 0) * 4294967296)) rfl (by kernel_rfl) .none H69 (fun _ => dv_shl (a := X.getD 7 0) (b := 32) (z := (X.getD 7 0) * 4294967296) (T rfl rfl) C (by decide) (shl_c (m := 4294967296) (n := 32) (by decide) (wn_u64 (by omega) (by omega)))) ?_
     refine aw_pure 4 (.slice (some ⟨b22, 0, none⟩) 8 8) rfl (by kernel_rfl) .none H69 (fun _ => dv_move (T rfl f37)) ?_
     refine aw_pure 5 (.pointer (some ⟨b22, 6, none⟩)) rfl (by kernel_rfl) .none H69 (fun _ => dv_indexO (g := b22) (l := 8) (c := 8) (i := 6) (j := 6) us57 sz24 (T rfl rfl) C (by omega) (by first | omega | (simp; done) | (simp; omega))) ?_
     refine aw_load 6 (.int .u64 (X.getD 6 0)) rfl (by kernel_rfl) .none H69 (fun _ s => dv_loadW (L := X) (v := X.getD 6 0) agt24 (T rfl rfl) s (by first | omega | (simp; done) | (simp; omega)) rfl) ?_
     refine aw_pure 7 (.int .u64 ((X.getD 6 0) + ((X.getD 7 0) * 4294967296))) rfl (by kernel_rfl) .none H69 (fun _ => dv_or (a := (X.getD 7 0) * 4294967296) (b := X.getD 6 0) (z := (X.getD 6 0) + ((X.getD 7 0) * 4294967296)) (T rfl rfl) (T rfl rfl) (or_add (k := .u64) (a := X.getD 6 0) (b := (X.getD 7 0) * 4294967296) (i := 32) rfl (by omega) (by omega) (by omega) (by omega) (lt64 (by omega)) (lt64 (by omega))).2) ?_
     refine aw_pure 8 (.slice (some ⟨b22, 0, none⟩) 8 8) rfl (by kernel_rfl) .none H69 (fun _ => dv_move (T rfl f37)) ?_
     refine aw_pure 9 (.pointer (some ⟨b22, 5, none⟩)) rfl (by kernel_rfl) .none H69 (fun _ => dv_indexO (g := b22) (l := 8) (c := 8) (i := 5) (j := 5) us57 sz24 (T rfl rfl) C (by omega) (by first | omega | (simp; done) | (simp; omega))) ?_
     refine aw_load 10 (.int .u64 (X.getD 5 0)) rfl (by kernel_rfl) .none H69 (fun _ s => dv_loadW (L := X) (v := X.getD 5 0) agt24 (T rfl rfl) s (by first | omega | (simp; done) | (simp; omega)) rfl) ?_
     refine aw_pure 11 (.int .u64 ((X.getD 5 0) * 4294967296)) rfl (by kernel_rfl) .none H69 (fun _ => dv_shl (a := X.getD 5 0) (b := 32) (z := (X.getD 5 0) * 4294967296) (T rfl rfl) C (by decide) (shl_c (m := 4294967296) (n := 32) (by decide) (wn_u64 (by omega) (by omega)))) ?_
     refine aw_pure 12 (.slice (some ⟨b22, 0, none⟩) 8 8) rfl (by kernel_rfl) .none H69 (fun _ => dv_move (T rfl f37)) ?_
     refine aw_pure 13 (.pointer (some ⟨b22, 4, none⟩)) rfl (by kernel_rfl) .none H69 (fun _ => dv_indexO (g := b22) (l := 8) (c := 8) (i := 4) (j := 4) us57 sz24 (T rfl rfl) C (by omega) (by first | omega | (simp; done) | (simp; omega))) ?_
     refine aw_load 14 (.int .u64 (X.getD 4 0)) rfl (by kernel_rfl) .none H69 (fun _ s => dv_loadW (L := X) (v := X.getD 4 0) agt24 (T rfl rfl) s (by first | omega | (simp; done) | (simp; omega)) rfl) ?_
     refine aw_pure 15 (.int .u64 ((X.getD 4 0) + ((X.getD 5 0) * 4294967296))) rfl (by kernel_rfl) .none H69 (fun _ => dv_or (a := (X.getD 5 0) * 4294967296) (b := X.getD 4 0) (z := (X.getD 4 0) + ((X.getD 5 0) * 4294967296)) (T rfl rfl) (T rfl rfl) (or_add (k := .u64) (a := X.getD 4 0) (b := (X.getD 5 0) * 4294967296) (i := 32) rfl (by omega) (by omega) (by omega) (by omega) (lt64 (by omega)) (lt64 (by omega))).2) ?_
     refine aw_pure 16 (.slice (some ⟨b22, 0, none⟩) 8 8) rfl (by kernel_rfl) .none H69 (fun _ => dv_move (T rfl f37)) ?_
     refine aw_pure 17 (.pointer (some ⟨b22, 3, none⟩)) rfl (by kernel_rfl) .none H69 (fun _ => dv_indexO (g := b22) (l := 8) (c := 8) (i := 3) (j := 3) us57 sz24 (T rfl rfl) C (by omega) (by first | omega | (simp; done) | (simp; omega))) ?_
     refine aw_load 18 (.int .u64 (X.getD 3 0)) rfl (by kernel_rfl) .none H69 (fun _ s => dv_loadW (L := X) (v := X.getD 3 0) agt24 (T rfl rfl) s (by first | omega | (simp; done) | (simp; omega)) rfl) ?_
     refine aw_pure 19 (.int .u64 ((X.getD 3 0) * 4294967296)) rfl (by kernel_rfl) .none H69 (fun _ => dv_shl (a := X.getD 3 0) (b := 32) (z := (X.getD 3 0) * 4294967296) (T rfl rfl) C (by decide) (shl_c (m := 4294967296) (n := 32) (by decide) (wn_u64 (by omega) (by omega)))) ?_
     refine aw_pure 20 (.slice (some ⟨b22, 0, none⟩) 8 8) rfl (by kernel_rfl) .none H69 (fun _ => dv_move (T rfl f37)) ?_
     refine aw_pure 21 (.pointer (some ⟨b22, 2, none⟩)) rfl (by kernel_rfl) .none H69 (fun _ => dv_indexO (g := b22) (l := 8) (c := 8) (i := 2) (j := 2) us57 sz24 (T rfl rfl) C (by omega) (by first | omega | (simp; done) | (simp; omega))) ?_
     refine aw_load 22 (.int .u64 (X.getD 2 0)) rfl (by kernel_rfl) .none H69 (fun _ s => dv_loadW (L := X) (v := X.getD 2 0) agt24 (T rfl rfl) s (by first | omega | (simp; done) | (simp; omega)) rfl) ?_
     refine aw_pure 23 (.int .u64 ((X.getD 2 0) + ((X.getD 3 0) * 4294967296))) rfl (by kernel_rfl) .none H69 (fun _ => dv_or (a := (X.getD 3 0) * 4294967296) (b := X.getD 2 0) (z := (X.getD 2 0) + ((X.getD 3 0) * 4294967296)) (T rfl rfl) (T rfl rfl) (or_add (k := .u64) (a := X.getD 2 0) (b := (X.getD 3 0) * 4294967296) (i := 32) rfl (by omega) (by omega) (by omega) (by omega) (lt64 (by omega)) (lt64 (by omega))).2) ?_
     refine aw_pure 24 (.slice (some ⟨b22, 0, none⟩) 8 8) rfl (by kernel_rfl) .none H69 (fun _ => dv_move (T rfl f37)) ?_
     refine aw_pure 25 (.pointer (some ⟨b22, 1, none⟩)) rfl (by kernel_rfl) .none H69 (fun _ => dv_indexO (g := b22) (l := 8) (c := 8) (i := 1) (j := 1) us57 sz24 (T rfl rfl) C (by omega) (by first | omega | (simp; done) | (simp; omega))) ?_
     refine aw_load 26 (.int .u64 (X.getD 1 0)) rfl (by kernel_rfl) .none H69 (fun _ s => dv_loadW (L := X) (v := X.getD 1 0) agt24 (T rfl rfl) s (by first | omega | (simp; done) | (simp; omega)) rfl) ?_
     refine aw_pure 27 (.int .u64 ((X.getD 1 0) * 4294967296)) rfl (by kernel_rfl) .none H69 (fun _ => dv_shl (a := X.getD 1 0) (b := 32) (z := (X.getD 1 0) * 4294967296) (T rfl rfl) C (by decide) (shl_c (m := 4294967296) (n := 32) (by decide) (wn_u64 (by omega) (by omega)))) ?_
     refine aw_pure 28 (.slice (some ⟨b22, 0, none⟩) 8 8) rfl (by kernel_rfl) .none H69 (fun _ => dv_move (T rfl f37)) ?_
     refine aw_pure 29 (.pointer (some ⟨b22, 0, none⟩)) rfl (by kernel_rfl) .none H69 (fun _ => dv_indexO (g := b22) (l := 8) (c := 8) (i := 0) (j := 0) us57 sz24 (T rfl rfl) C (by omega) (by first | omega | (simp; done) | (simp; omega))) ?_
     refine aw_load 30 (.int .u64 (X.getD 0 0)) rfl (by kernel_rfl) .none H69 (fun _ s => dv_loadW (L := X) (v := X.getD 0 0) agt24 (T rfl rfl) s (by first | omega | (simp; done) | (simp; omega)) rfl) ?_
     refine aw_pure 31 (.int .u64 ((X.getD 0 0) + ((X.getD 1 0) * 4294967296))) rfl (by kernel_rfl) .none H69 (fun _ => dv_or (a := (X.getD 1 0) * 4294967296) (b := X.getD 0 0) (z := (X.getD 0 0) + ((X.getD 1 0) * 4294967296)) (T rfl rfl) (T rfl rfl) (or_add (k := .u64) (a := X.getD 0 0) (b := (X.getD 1 0) * 4294967296) (i := 32) rfl (by omega) (by omega) (by omega) (by omega) (lt64 (by omega)) (lt64 (by omega))).2) ?_
     refine aw_pure 32 (.agg #[.int .u64 ((X.getD 6 0) + ((X.getD 7 0) * 4294967296)), .int .u64 ((X.getD 4 0) + ((X.getD 5 0) * 4294967296)), .int .u64 ((X.getD 2 0) + ((X.getD 3 0) * 4294967296)), .int .u64 ((X.getD 0 0) + ((X.getD 1 0) * 4294967296))]) rfl (by kernel_rfl) .none H69 (fun _ => dv_build (pv := [(0, .int .u64 ((X.getD 6 0) + ((X.getD 7 0) * 4294967296))), (1, .int .u64 ((X.getD 4 0) + ((X.getD 5 0) * 4294967296))), (2, .int .u64 ((X.getD 2 0) + ((X.getD 3 0) * 4294967296))), (3, .int .u64 ((X.getD 0 0) + ((X.getD 1 0) * 4294967296)))]) (l := [.int .u64 ((X.getD 6 0) + ((X.getD 7 0) * 4294967296)), .int .u64 ((X.getD 4 0) + ((X.getD 5 0) * 4294967296)), .int .u64 ((X.getD 2 0) + ((X.getD 3 0) * 4294967296)), .int .u64 ((X.getD 0 0) + ((X.getD 1 0) * 4294967296))]) zc26 pl26 ⟨rfl, (T rfl rfl), ⟨rfl, (T rfl rfl), ⟨rfl, (T rfl rfl), ⟨rfl, (T rfl rfl), trivial⟩⟩⟩⟩ rfl) ?_
     have H70 := (d67.ext.blk H41)
     refine aw_one 33 rfl (by kernel_rfl) .none (oe_store (v := .agg #[.int .u64 ((X.getD 6 0) + ((X.getD 7 0) * 4294967296)), .int .u64 ((X.getD 4 0) + ((X.getD 5 0) * 4294967296)), .int .u64 ((X.getD 2 0) + ((X.getD 3 0) * 4294967296)), .int .u64 ((X.getD 0 0) + ((X.getD 1 0) * 4294967296))]) (vs := [.int .u64 ((X.getD 6 0) + ((X.getD 7 0) * 4294967296)), .int .u64 ((X.getD 4 0) + ((X.getD 5 0) * 4294967296)), .int .u64 ((X.getD 2 0) + ((X.getD 3 0) * 4294967296)), .int .u64 ((X.getD 0 0) + ((X.getD 1 0) * 4294967296))]) (l := [.int .u64 ((X.getD 6 0) + ((X.getD 7 0) * 4294967296)), .int .u64 ((X.getD 4 0) + ((X.getD 5 0) * 4294967296)), .int .u64 ((X.getD 2 0) + ((X.getD 3 0) * 4294967296)), .int .u64 ((X.getD 0 0) + ((X.getD 1 0) * 4294967296))]) (T rfl f35) (T rfl rfl) sz26 rfl rfl rfl H70 rfl ?_)
     intro w71 s72 H73
     have E74 := below_st E68 N9 s72
     have H75 := (s72.blk H69 (by omega))
     refine ⟨.inr H75, ?_⟩
     refine aw_last 34 (.bool true) rfl (by kernel_rfl) .none (fun _ => dv_assign C) ?_
     refine aw_done (by kernel_rfl) ?_
     refine rk_ret Try.func54 (v := .tuple #[.agg #[.int .u64 ((X.getD 6 0) + ((X.getD 7 0) * 4294967296)), .int .u64 ((X.getD 4 0) + ((X.getD 5 0) * 4294967296)), .int .u64 ((X.getD 2 0) + ((X.getD 3 0) * 4294967296)), .int .u64 ((X.getD 0 0) + ((X.getD 1 0) * 4294967296))], .bool true]) (res2 Try.results54 (rv_cells (l := [.int .u64 ((X.getD 6 0) + ((X.getD 7 0) * 4294967296)), .int .u64 ((X.getD 4 0) + ((X.getD 5 0) * 4294967296)), .int .u64 ((X.getD 2 0) + ((X.getD 3 0) * 4294967296)), .int .u64 ((X.getD 0 0) + ((X.getD 1 0) * 4294967296))]) agt26 sz26 rfl f35 H73 rfl) (rv_tmp rfl rfl)) ⟨_, rfl, ?_⟩
     have hws := wide32 hyo hyf hyv
     have hpe := put_end hXv (by omega)
     exact ⟨tu2 (ag4 (vi (by rw [hpe 6 (by decide), hpe 7 (by decide)]; exact hws.1)) (vi (by rw [hpe 4 (by decide), hpe 5 (by decide)]; exact hws.2.1)) (vi (by rw [hpe 2 (by decide), hpe 3 (by decide)]; exact hws.2.2.1)) (vi (by rw [hpe 0 (by decide), hpe 1 (by decide)]; exact hws.2.2.2))) (vt hyf), E74⟩
 · rcases Bool.eq_false_or_eq_true (na) with hb76 | hb76
   · refine rk_ct (T rfl (congrArg Value.bool hb76)) ?_
     refine rk_seq ?_
     refine rk_seq ?_
     refine rk_reg ?_
     refine lw_v (.slice Aa la ca) (dv_move (T rfl rfl)) ?_
     refine lw_e (oe_buildSlice (pv := [(0, .int .u32 1)]) (init := [.int .u32 0]) (l := [.int .u32 1]) us63 sz95 rfl rfl zc95 (by kernel_rfl) ⟨rfl, C, trivial⟩ rfl ?_)
     intro b77 w78 n79
     have N80 : w.heap.size ≤ b77 := n79.eq ▸ E10.size
     have : b6 < b77 := n79.eq ▸ lt_of_blk n8.blk
     have E81 := below_ext E10 E10.size n79.ext
     refine lw_e (oe_callf (vs := [.slice (some ⟨b77, 0, none⟩) 1 1, .int .i64 255]) co76 (ar2 (T rfl rfl) C) (l1Left_ws (N := 255) (j := 255) (⟨[1], rfl, Nat.le_refl _, Wd.ownW n79.blk, (okW_lit (by simp <;> omega)), rfl⟩ : Ws _ _ _ _ _ _ _ _) (by first | omega | (simp; done) | (simp; omega)) (by first | omega | (simp; done) | (simp; omega)) (valB_sz (m := 32) (xs := [1]) (n := 1) (okW_lit (by simp <;> omega)) rfl) (by omega)) ?_)
     rintro _ w86 ⟨A82, n83, c84, rfl, e87, h85⟩
     have E88 := below_ext E81 E81.size e87
     have lh85 := Wc.len (by decide) h85 (left_sz (m := 255) (s := 32) rfl (valB_sz (m := 32) (xs := [1]) (n := 1) (okW_lit (by simp <;> omega)) rfl))
     have h89 := ((((ha.ext n3.ext).ext n8.ext).ext n79.ext).ext e87)
     refine lw_e (oe_callf (vs := [.slice Aa la ca, .slice A82 n83 c84]) co91 (ar2 (T rfl rfl) (T rfl rfl)) (l1CmpAbs_wc h89.wc h85 (by first | omega | (simp; done) | (simp; omega)) (by first | omega | (simp; done) | (simp; omega))) ?_)
     rintro _ w92 ⟨r90, rfl, e93, hr91⟩
     have E94 := below_ext E88 E88.size e93
     have qhr91 := cmpR.ge hr91
     have phr91 := cmpR.eq hr91
     have ohr91 := cmpR.gt hr91
     refine lw_v (.bool (decide (0 < r90))) (dv_gtr (a := r90) (b := 0) (T rfl rfl) C) ?_
     refine lw_nil ?_
     by_cases hb95 : 0 < r90
     · refine rk_ct (T rfl (congrArg Value.bool (decide_eq_true hb95))) ?_
       refine rk_seq ?_
       refine rk_reg ?_
       refine lw_v (.agg #[.int .u64 0, .int .u64 0, .int .u64 0, .int .u64 0]) (dv_build (pv := []) (l := [.int .u64 0, .int .u64 0, .int .u64 0, .int .u64 0]) zc26 pl26 trivial rfl) ?_
       have H96 := (e93.blk (e87.blk (n79.ext.blk n8.blk)))
       refine lw_e (oe_store (v := .agg #[.int .u64 0, .int .u64 0, .int .u64 0, .int .u64 0]) (vs := [.int .u64 0, .int .u64 0, .int .u64 0, .int .u64 0]) (l := [.int .u64 0, .int .u64 0, .int .u64 0, .int .u64 0]) (T rfl rfl) (T rfl rfl) sz26 rfl rfl rfl H96 rfl ?_)
       intro w97 s98 H99
       have E100 := below_st E94 N9 s98
       refine lw_v (.bool false) (dv_assign C) ?_
       refine lw_nil ?_
       refine rk_ret Try.func54 (v := .tuple #[.agg #[.int .u64 0, .int .u64 0, .int .u64 0, .int .u64 0], .bool false]) (res2 Try.results54 (rv_cells (l := [.int .u64 0, .int .u64 0, .int .u64 0, .int .u64 0]) agt26 sz26 rfl rfl H99 rfl) (rv_tmp rfl rfl)) ⟨_, rfl, ?_⟩
       have hno := wide_no32 (x := x) (by unfold fits; have := hn.1 (by assumption); omega)
       exact ⟨tu2 (ag4 (vi hno.2.1.symm) (vi hno.2.2.1.symm) (vi hno.2.2.2.1.symm) (vi hno.2.2.2.2.symm)) (vf hno.1), E100⟩
     · refine rk_cf (T rfl (congrArg Value.bool (decide_eq_false hb95))) ?_
       refine rk_skip ?_
       refine rk_reg ?_
       refine lw_e (oe_buildSlice (pv := [(0, .int .u32 1)]) (init := [.int .u32 0]) (l := [.int .u32 1]) us63 sz95 rfl rfl zc95 (by kernel_rfl) ⟨rfl, C, trivial⟩ rfl ?_)
       intro b101 w102 n103
       have N104 : w.heap.size ≤ b101 := n103.eq ▸ E94.size
       have H105 := (e93.blk (e87.blk n79.blk))
       have : b77 < b101 := n103.eq ▸ lt_of_blk H105
       have E106 := below_ext E94 E94.size n103.ext
       refine lw_e (oe_callf (vs := [.slice (some ⟨b101, 0, none⟩) 1 1, .int .i64 256]) co76 (ar2 (T rfl rfl) C) (l1Left_ws (N := 256) (j := 256) (⟨[1], rfl, Nat.le_refl _, Wd.ownW n103.blk, (okW_lit (by simp <;> omega)), rfl⟩ : Ws _ _ _ _ _ _ _ _) (by first | omega | (simp; done) | (simp; omega)) (by first | omega | (simp; done) | (simp; omega)) (valB_sz (m := 32) (xs := [1]) (n := 1) (okW_lit (by simp <;> omega)) rfl) (by omega)) ?_)
       rintro _ w111 ⟨A107, n108, c109, rfl, e112, h110⟩
       have E113 := below_ext E106 E106.size e112
       have lh110 := Wc.len (by decide) h110 (left_sz (m := 256) (s := 32) rfl (valB_sz (m := 32) (xs := [1]) (n := 1) (okW_lit (by simp <;> omega)) rfl))
       refine lw_v (.slice Aa la ca) (dv_move (T rfl rfl)) ?_
       have h114 := (((h89.ext e93).ext n103.ext).ext e112)
       refine lw_e (oe_callf (vs := [.slice A107 n108 c109, .slice Aa la ca]) co86 (ar2 (T rfl rfl) (T rfl rfl)) (l1SubAbs_ws h110.ws h114.wc.ws (by first | omega | (simp; done) | (simp; omega)) (by first | omega | (simp; done) | (simp; omega)) (by exact len_le32 h110 h114.wc (by omega)) (by omega)) ?_)
       rintro _ w119 ⟨A115, n116, c117, rfl, e120, h118, hnh118⟩
       have E121 := below_ext E113 E113.size e120
       refine lw_v (.slice A115 n116 c117) (dv_assign (T rfl rfl)) ?_
       refine lw_nil ?_
       obtain ⟨ys122, hl123, hc124, hw125, ho126, hv127⟩ := h118
       have hsg : x < 0 := by exact hn.1 (by assumption)
       have H128 := (e120.blk (e112.blk (n103.ext.blk (e93.blk (e87.blk (n79.ext.blk H11))))))
       have H129 := (e120.blk (e112.blk (n103.ext.blk (e93.blk (e87.blk (n79.ext.blk n8.blk))))))
       exact hj14 _ _ ⟨ys122, A115, n116, c117, rfl, rfl, E121, H128, H129, hw125, hl123, ho126, (by omega), (by unfold fits; omega), (by omega)⟩
   · refine rk_cf (T rfl (congrArg Value.bool hb76)) ?_
     refine rk_seq ?_
     refine rk_reg ?_
     refine lw_v (.slice Aa la ca) (dv_move (T rfl rfl)) ?_
     have h130 := ((ha.ext n3.ext).ext n8.ext)
     refine lw_e (oe_callf (vs := [.slice Aa la ca]) co92 (ar1 (T rfl rfl)) (l1Bits_wc h130.wc (by first | omega | (simp; done) | (simp; omega))) ?_)
     rintro _ w131 ⟨rfl, e132⟩
     have E133 := below_ext E10 E10.size e132
     refine lw_v (.bool (decide (255 < ((nbits ((x.natAbs : Int)).toNat : Int))))) (dv_gtr (a := (nbits ((x.natAbs : Int)).toNat : Int)) (b := 255) (T rfl rfl) C) ?_
     refine lw_nil ?_
     by_cases hb134 : 255 < ((nbits ((x.natAbs : Int)).toNat : Int))
     · refine rk_ct (T rfl (congrArg Value.bool (decide_eq_true hb134))) ?_
       refine rk_seq ?_
       refine rk_reg ?_
       refine lw_v (.agg #[.int .u64 0, .int .u64 0, .int .u64 0, .int .u64 0]) (dv_build (pv := []) (l := [.int .u64 0, .int .u64 0, .int .u64 0, .int .u64 0]) zc26 pl26 trivial rfl) ?_
       have H135 := (e132.blk n8.blk)
       refine lw_e (oe_store (v := .agg #[.int .u64 0, .int .u64 0, .int .u64 0, .int .u64 0]) (vs := [.int .u64 0, .int .u64 0, .int .u64 0, .int .u64 0]) (l := [.int .u64 0, .int .u64 0, .int .u64 0, .int .u64 0]) (T rfl rfl) (T rfl rfl) sz26 rfl rfl rfl H135 rfl ?_)
       intro w136 s137 H138
       have E139 := below_st E133 N9 s137
       refine lw_v (.bool false) (dv_assign C) ?_
       refine lw_nil ?_
       refine rk_ret Try.func54 (v := .tuple #[.agg #[.int .u64 0, .int .u64 0, .int .u64 0, .int .u64 0], .bool false]) (res2 Try.results54 (rv_cells (l := [.int .u64 0, .int .u64 0, .int .u64 0, .int .u64 0]) agt26 sz26 rfl rfl H138 rfl) (rv_tmp rfl rfl)) ⟨_, rfl, ?_⟩
       have hno := wide_no32 (x := x) (by unfold fits; have := hn2 (by assumption); omega)
       exact ⟨tu2 (ag4 (vi hno.2.1.symm) (vi hno.2.2.1.symm) (vi hno.2.2.2.1.symm) (vi hno.2.2.2.2.symm)) (vf hno.1), E139⟩
     · refine rk_cf (T rfl (congrArg Value.bool (decide_eq_false hb134))) ?_
       refine rk_skip ?_
       have h140 := (h130.ext e132)
       obtain ⟨ys141, hl142, hc143, hw144, ho145, hv146⟩ := h140.wc.ws
       have hsg : ¬ x < 0 := by exact hn2 (by assumption)
       have H147 := (e132.blk H11)
       have H148 := (e132.blk n8.blk)
       exact hj14 _ _ ⟨ys141, Aa, la, ca, rfl, rfl, E133, H147, H148, hw144, hl142, ho145, (by omega), (by unfold fits; omega), (by omega)⟩
end Go.Proofs.Ytfmkadgjoechnaa.W
set_option linter.unusedVariables false
set_option linter.unusedSimpArgs false
namespace Go.Proofs.Ytfmkadgjoechnaa.W
open Go Go.RowKit Go.Proofs.Ytfmkadgjoechnaa.Fw
attribute [local irreducible] RunK LW AW DV OE Ct
theorem co94 : callOk Try.prog 94 = true := by kernel_rfl
theorem mul64_ok {w : World} {x y : Int} (hx : 0 ≤ x ∧ x < 18446744073709551616) (hy : 0 ≤ y ∧ y < 18446744073709551616) : Ct Try.prog 94 [.int .u64 x, .int .u64 y] w fun v w1 => v = .tuple #[.int .u64 (x * y / 18446744073709551616), .int .u64 (x * y % 18446744073709551616)] ∧ Ext w w1 := by
 unfold Ct
 obtain ⟨X, rfl⟩ := Int.eq_ofNat_of_zero_le hx.1
 obtain ⟨Y, rfl⟩ := Int.eq_ofNat_of_zero_le hy.1
 exact Calls.mono (Try.bits_Mul64 X Y (by omega) (by omega) w) fun e w' ⟨he, hw⟩ => ⟨_, he, rfl, by subst hw; exact Below.refl _ _⟩
set_option maxHeartbeats 1000000 in
theorem nby_ok {w : World} {na : Bool} {Aa : Option Addr} {la ca : Nat} {x : Int} {sx : Nat} (ha : Num 64 24 .u64 w na Aa la ca x sx) {nb : Bool} {Ab : Option Addr} {lb cb : Nat} {y : Int} {sy : Nat} (hb : Num 64 24 .u64 w nb Ab lb cb y sy) (hs : sx ≤ 200000) (hs2 : sy ≤ 200000) : Ct Try.prog 56 [.agg #[.bool na, .slice Aa la ca], .agg #[.bool nb, .slice Ab lb cb]] w fun v w1 => ∃ nr A' n c', v = .agg #[.bool nr, .slice A' n c'] ∧ Ext w w1 ∧ Num 64 24 .u64 w1 nr A' n c' (x * y) (sx + sy) := by
 refine ct_run (n := 100) Try.func56 rfl Try.ntmps56 rfl ?_
 have E0 : Below w.heap.size w w := Below.refl _ _
 have lha := Num.len (by decide) ha
 have lhb := Num.len (by decide) hb
 obtain ⟨xs, hxl, hxc, hxw, ox, hxk, hxv⟩ := ha.wc
 obtain ⟨ys, hyl, hyc, hyw, oy, hyk, hyv⟩ := hb.wc
 refine rk_seq ?_
 refine rk_reg ?_
 refine lw_e (oe_box (v := .agg #[.bool na, .slice Aa la ca]) (cs := #[.bool na, .slice Aa la ca]) (T rfl rfl) rfl ?_)
 intro b1 w2 n3
 have N4 : w.heap.size ≤ b1 := n3.eq ▸ E0.size
 have E5 := below_ext E0 E0.size n3.ext
 refine lw_e (oe_box (v := .agg #[.bool nb, .slice Ab lb cb]) (cs := #[.bool nb, .slice Ab lb cb]) (T rfl rfl) rfl ?_)
 intro b6 w7 n8
 have N9 : w.heap.size ≤ b6 := n8.eq ▸ E5.size
 have : b1 < b6 := n8.eq ▸ lt_of_blk n3.blk
 have E10 := below_ext E5 E5.size n8.ext
 refine lw_e (oe_alloc ze59 ?_)
 intro b11 w12 n13
 have N14 : w.heap.size ≤ b11 := n13.eq ▸ E10.size
 have : b6 < b11 := n13.eq ▸ lt_of_blk n8.blk
 have E15 := below_ext E10 E10.size n13.ext
 refine lw_nil ?_
 refine rk_seq ?_
 refine rk_seq ?_
 refine rk_reg ?_
 refine lw_v (.pointer (some ⟨b1, 1, none⟩)) (dv_fieldAddr (a := ⟨b1, 0, none⟩) (a' := ⟨b1, 1, none⟩) fo59_1 (T rfl rfl) rfl) ?_
 have H16 := (n13.ext.blk (n8.ext.blk n3.blk))
 refine lw_v (.slice Aa la ca) (dv_load1 (b := b1) (o := 1) agt57 (T rfl rfl) H16 rfl) ?_
 refine lw_v (.int .i64 ((la : Int))) (dv_len (ad := Aa) (l := la) (c := ca) us57 (T rfl rfl)) ?_
 refine lw_v (.bool (decide (((la : Int)) = 0))) (dv_eql (a := (la : Int)) (b := 0) (T rfl rfl) C) ?_
 refine lw_v (.bool (decide (((la : Int)) = 0))) (dv_move (T rfl rfl)) ?_
 by_cases hb17 : ((la : Int)) = 0
 · refine lw_no (d := 18) rfl rfl (congrArg Value.bool (decide_eq_true hb17)) ?_
   refine lw_no (d := 18) rfl rfl (congrArg Value.bool (decide_eq_true hb17)) ?_
   refine lw_no (d := 18) rfl rfl (congrArg Value.bool (decide_eq_true hb17)) ?_
   refine lw_no (d := 18) rfl rfl (congrArg Value.bool (decide_eq_true hb17)) ?_
   refine lw_v (.bool true) (dv_pick_t (T rfl (congrArg Value.bool (decide_eq_true hb17))) C) ?_
   refine lw_nil ?_
   refine rk_ct (T rfl rfl) ?_
   refine rk_seq ?_
   refine rk_reg ?_
   refine lw_v (.agg #[.bool false, .slice none 0 0]) (dv_build (pv := []) (l := [.bool false, .slice none 0 0]) zc59 pl59 trivial rfl) ?_
   refine lw_e (oe_store (v := .agg #[.bool false, .slice none 0 0]) (vs := [.bool false, .slice none 0 0]) (l := [.bool false, .slice none 0 0]) (T rfl rfl) (T rfl rfl) sz59 rfl rfl rfl n13.blk rfl ?_)
   intro w18 s19 H20
   have E21 := below_st E15 N14 s19
   refine lw_nil ?_
   refine rk_ret Try.func56 (v := .agg #[.bool false, .slice none 0 0]) (res1 Try.results56 (rv_cells (l := [.bool false, .slice none 0 0]) agt59 sz59 rfl rfl H20 rfl)) ⟨_, rfl, ?_⟩
   exact ⟨_, _, _, _, rfl, E21, (Num.zero (s := 0)).tight (by have h1 := ha.pos_iff; have h2 := hb.pos_iff; exact (mul_zero_of (by omega)).symm) (by rw [Int.natAbs_mul]; exact nat_mul_sz ha.lt hb.lt)⟩
 · refine lw_vy (.pointer (some ⟨b6, 1, none⟩)) (d := 18) rfl rfl (congrArg Value.bool (decide_eq_false hb17)) (dv_fieldAddr (a := ⟨b6, 0, none⟩) (a' := ⟨b6, 1, none⟩) fo59_1 (T rfl rfl) rfl) ?_
   have H22 := (n13.ext.blk n8.blk)
   refine lw_vy (.slice Ab lb cb) (d := 18) rfl rfl (congrArg Value.bool (decide_eq_false hb17)) (dv_load1 (b := b6) (o := 1) agt57 (T rfl rfl) H22 rfl) ?_
   refine lw_vy (.int .i64 ((lb : Int))) (d := 18) rfl rfl (congrArg Value.bool (decide_eq_false hb17)) (dv_len (ad := Ab) (l := lb) (c := cb) us57 (T rfl rfl)) ?_
   refine lw_vy (.bool (decide (((lb : Int)) = 0))) (d := 18) rfl rfl (congrArg Value.bool (decide_eq_false hb17)) (dv_eql (a := (lb : Int)) (b := 0) (T rfl rfl) C) ?_
   refine lw_v (.bool (decide (((lb : Int)) = 0))) (dv_pick_f (T rfl (congrArg Value.bool (decide_eq_false hb17))) (T rfl rfl)) ?_
   refine lw_nil ?_
   by_cases hb23 : ((lb : Int)) = 0
   · refine rk_ct (T rfl (congrArg Value.bool (decide_eq_true hb23))) ?_
     refine rk_seq ?_
     refine rk_reg ?_
     refine lw_v (.agg #[.bool false, .slice none 0 0]) (dv_build (pv := []) (l := [.bool false, .slice none 0 0]) zc59 pl59 trivial rfl) ?_
     refine lw_e (oe_store (v := .agg #[.bool false, .slice none 0 0]) (vs := [.bool false, .slice none 0 0]) (l := [.bool false, .slice none 0 0]) (T rfl rfl) (T rfl rfl) sz59 rfl rfl rfl n13.blk rfl ?_)
     intro w24 s25 H26
     have E27 := below_st E15 N14 s25
     refine lw_nil ?_
     refine rk_ret Try.func56 (v := .agg #[.bool false, .slice none 0 0]) (res1 Try.results56 (rv_cells (l := [.bool false, .slice none 0 0]) agt59 sz59 rfl rfl H26 rfl)) ⟨_, rfl, ?_⟩
     exact ⟨_, _, _, _, rfl, E27, (Num.zero (s := 0)).tight (by have h1 := ha.pos_iff; have h2 := hb.pos_iff; exact (mul_zero_of (by omega)).symm) (by rw [Int.natAbs_mul]; exact nat_mul_sz ha.lt hb.lt)⟩
   · refine rk_cf (T rfl (congrArg Value.bool (decide_eq_false hb23))) ?_
     refine rk_skip ?_
     refine rk_seq ?_
     refine rk_reg ?_
     refine lw_v (.pointer (some ⟨b1, 1, none⟩)) (dv_fieldAddr (a := ⟨b1, 0, none⟩) (a' := ⟨b1, 1, none⟩) fo59_1 (T rfl rfl) rfl) ?_
     refine lw_v (.slice Aa la ca) (dv_load1 (b := b1) (o := 1) agt57 (T rfl rfl) H16 rfl) ?_
     refine lw_v (.int .i64 ((la : Int))) (dv_len (ad := Aa) (l := la) (c := ca) us57 (T rfl rfl)) ?_
     refine lw_v (.pointer (some ⟨b6, 1, none⟩)) (dv_fieldAddr (a := ⟨b6, 0, none⟩) (a' := ⟨b6, 1, none⟩) fo59_1 (T rfl rfl) rfl) ?_
     refine lw_v (.slice Ab lb cb) (dv_load1 (b := b6) (o := 1) agt57 (T rfl rfl) H22 rfl) ?_
     refine lw_v (.int .i64 ((lb : Int))) (dv_len (ad := Ab) (l := lb) (c := cb) us57 (T rfl rfl)) ?_
     refine lw_v (.int .i64 (((la : Int)) + ((lb : Int)))) (dv_add (a := (la : Int)) (b := (lb : Int)) (z := ((la : Int)) + ((lb : Int))) (T rfl rfl) (T rfl rfl) (wr_i64 (by omega) (by omega))) ?_
     refine lw_e (oe_makeW (l := ((la) + (lb))) (j := ((la : Int)) + ((lb : Int))) us57 in24 (T rfl rfl) (T rfl rfl) (by omega) (by first | omega | (simp; done) | (simp; omega)) (by first | omega | (simp; done) | (simp; omega)) ?_)
     intro b28 w29 n30
     have N31 : w.heap.size ≤ b28 := n30.eq ▸ E15.size
     have : b11 < b28 := n30.eq ▸ lt_of_blk n13.blk
     have E32 := below_ext E15 E15.size n30.ext
     refine lw_v (.slice (some ⟨b28, 0, none⟩) (((la) + (lb))) (((la) + (lb)))) (dv_assign (T rfl rfl)) ?_
     refine lw_nil ?_
     refine rk_seq ?_
     refine rk_seq ?_
     refine rk_reg ?_
     refine lw_v (.pointer (some ⟨b1, 1, none⟩)) (dv_fieldAddr (a := ⟨b1, 0, none⟩) (a' := ⟨b1, 1, none⟩) fo59_1 (T rfl rfl) rfl) ?_
     have H33 := (n30.ext.blk H16)
     refine lw_v (.slice Aa la ca) (dv_load1 (b := b1) (o := 1) agt57 (T rfl rfl) H33 rfl) ?_
     refine lw_v (.int .i64 ((la : Int))) (dv_len (ad := Aa) (l := la) (c := ca) us57 (T rfl rfl)) ?_
     refine lw_v (.int .i64 0) (dv_move C) ?_
     refine lw_nil ?_
     refine rk_block ?_
     have H34 := (n30.ext.blk H22)
     have H35 := (n30.ext.blk n13.blk)
     refine rk_loop (fun dm_ fr wl => ∃ (i : Nat) (L : List Int), dm_ = xs.length - i ∧ fr 2 = .pointer (some ⟨b1, 0, none⟩) ∧ fr 3 = .pointer (some ⟨b6, 0, none⟩) ∧ fr 4 = .pointer (some ⟨b11, 0, none⟩) ∧ fr 5 = .slice (some ⟨b28, 0, none⟩) (((la) + (lb))) (((la) + (lb))) ∧ fr 34 = .slice Aa la ca ∧ fr 35 = .int .i64 ((la : Int)) ∧ fr 36 = .int .i64 ((i : Int)) ∧ Below w.heap.size w wl ∧ wl.heap[b1]? = some (.cells #[.bool na, .slice Aa la ca] 59) ∧ wl.heap[b6]? = some (.cells #[.bool nb, .slice Ab lb cb] 59) ∧ wl.heap[b11]? = some (.cells #[.bool false, .slice none 0 0] 59) ∧ wl.heap[b28]? = some (.cells (L.map (Value.int .u64)).toArray 24) ∧ (i ≤ xs.length) ∧ (L.length = xs.length + ys.length) ∧ (okW (2 ^ 64) L) ∧ (valB (2 ^ 64) L = valB (2 ^ 64) (xs.take i) * valB (2 ^ 64) ys) ∧ (∀ q, i + ys.length ≤ q → L.getD q 0 = 0)) (xs.length - 0) ⟨0, (List.replicate (((la) + (lb))) (0 : Int)), rfl, rfl, rfl, rfl, rfl, rfl, rfl, (vi (by omega)), E32, H33, H34, H35, n30.blk, (Nat.zero_le _), (by simp; omega), (okW.replicate (by decide) _), (by rw [valB_zeros, List.take_zero]; simp [valB]), (fun q _ => rep_zero _ q)⟩ ?_
     intro d40 fr39 w36 hI37 ih38
     obtain ⟨i, L, hd53, f41, f42, f43, f44, f45, f46, f47, E48, H49, H50, H51, H52, hi, hl, hok, hv, hL0⟩ := hI37
     have bxs := okW.getD ox (by decide) i
     refine rk_seq ?_
     refine rk_reg ?_
     refine lw_v (.bool (decide (((i : Int)) < ((la : Int))))) (dv_lss (a := (i : Int)) (b := (la : Int)) (T rfl f47) (T rfl f46)) ?_
     refine lw_nil ?_
     refine rk_seq ?_
     by_cases hb54 : ((i : Int)) < ((la : Int))
     · refine rk_ct (T rfl (congrArg Value.bool (decide_eq_true hb54))) ?_
       refine rk_skip ?_
       refine rk_seq ?_
       refine rk_block ?_
       refine rk_seq ?_
       refine rk_reg ?_
       refine lw_v (.int .i64 ((i : Int))) (dv_move (T rfl f47)) ?_
       have h55 := (hxw.ext E48)
       obtain ⟨g56, o57, rfl⟩ := Wd.at h55 (by first | omega | (simp; done) | (simp; omega))
       refine lw_v (.pointer (some ⟨g56, o57 + i, none⟩)) (dv_indexW (g := g56) (o := o57) (l := la) (c := ca) (i := i) (j := (i : Int)) us57 sz24 (T rfl f45) (T rfl f47) (by omega) (by first | omega | (simp; done) | (simp; omega))) ?_
       refine lw_v (.int .u64 (xs.getD i 0)) (dv_load agt24 (T rfl rfl) (Wd.cell h55 (by first | omega | (simp; done) | (simp; omega)))) ?_
       refine lw_v (.int .i64 ((i : Int))) (dv_assign (T rfl rfl)) ?_
       refine lw_v (.int .u64 (xs.getD i 0)) (dv_assign (T rfl rfl)) ?_
       refine lw_nil ?_
       refine rk_seq ?_
       refine rk_reg ?_
       refine lw_v (.int .u64 0) (dv_assign C) ?_
       refine lw_nil ?_
       refine rk_seq ?_
       refine rk_seq ?_
       refine rk_reg ?_
       refine lw_v (.pointer (some ⟨b6, 1, none⟩)) (dv_fieldAddr (a := ⟨b6, 0, none⟩) (a' := ⟨b6, 1, none⟩) fo59_1 (T rfl f42) rfl) ?_
       refine lw_v (.slice Ab lb cb) (dv_load1 (b := b6) (o := 1) agt57 (T rfl rfl) H50 rfl) ?_
       refine lw_v (.int .i64 ((lb : Int))) (dv_len (ad := Ab) (l := lb) (c := cb) us57 (T rfl rfl)) ?_
       refine lw_v (.int .i64 0) (dv_move C) ?_
       refine lw_nil ?_
       refine rk_block ?_
       refine rk_loop (fun dm_ fr wl => ∃ (k : Nat) (M : List Int) (cy : Int), dm_ = ys.length - k ∧ fr 2 = .pointer (some ⟨b1, 0, none⟩) ∧ fr 3 = .pointer (some ⟨b6, 0, none⟩) ∧ fr 4 = .pointer (some ⟨b11, 0, none⟩) ∧ fr 5 = .slice (some ⟨b28, 0, none⟩) (((la) + (lb))) (((la) + (lb))) ∧ fr 6 = .int .i64 ((i : Int)) ∧ fr 7 = .int .u64 (xs.getD i 0) ∧ fr 8 = .int .u64 cy ∧ fr 34 = .slice (some ⟨g56, o57, none⟩) la ca ∧ fr 35 = .int .i64 ((la : Int)) ∧ fr 36 = .int .i64 ((i : Int)) ∧ fr 37 = .bool (decide (((i : Int)) < ((la : Int)))) ∧ fr 38 = .int .i64 ((i : Int)) ∧ fr 39 = .pointer (some ⟨g56, o57 + i, none⟩) ∧ fr 40 = .int .u64 (xs.getD i 0) ∧ fr 41 = .pointer (some ⟨b6, 1, none⟩) ∧ fr 42 = .slice Ab lb cb ∧ fr 43 = .int .i64 ((lb : Int)) ∧ fr 44 = .int .i64 ((k : Int)) ∧ Below w.heap.size w wl ∧ wl.heap[b1]? = some (.cells #[.bool na, .slice (some ⟨g56, o57, none⟩) la ca] 59) ∧ wl.heap[b6]? = some (.cells #[.bool nb, .slice Ab lb cb] 59) ∧ wl.heap[b11]? = some (.cells #[.bool false, .slice none 0 0] 59) ∧ wl.heap[b28]? = some (.cells (M.map (Value.int .u64)).toArray 24) ∧ (k ≤ ys.length) ∧ (M.length = xs.length + ys.length) ∧ (okW (2 ^ 64) M) ∧ (0 ≤ cy ∧ cy < 18446744073709551616) ∧ (valB (2 ^ 64) M + cy * (2 ^ 64) ^ (i + k) = valB (2 ^ 64) (xs.take i) * valB (2 ^ 64) ys + xs.getD i 0 * valB (2 ^ 64) (ys.take k) * (2 ^ 64) ^ i) ∧ (∀ q, i + ys.length ≤ q → M.getD q 0 = 0)) (ys.length - 0) ⟨0, L, 0, rfl, f41, f42, f43, f44, rfl, rfl, rfl, f45, f46, f47, rfl, rfl, rfl, rfl, rfl, rfl, rfl, (vi (by omega)), E48, H49, H50, H51, H52, (Nat.zero_le _), hl, hok, (by decide), (mul_start hv), hL0⟩ ?_
       intro d62 fr61 w58 hI59 ih60
       obtain ⟨k, M, cy, hd86, f63, f64, f65, f66, f67, f68, f69, f70, f71, f72, f73, f74, f75, f76, f77, f78, f79, f80, E81, H82, H83, H84, H85, hk, hMl, hok2, hcy, hM, hM0⟩ := hI59
       have bys := okW.getD oy (by decide) k
       have bMk := okW.getD hok2 (by decide) (i + k)
       refine rk_seq ?_
       refine rk_reg ?_
       refine lw_v (.bool (decide (((k : Int)) < ((lb : Int))))) (dv_lss (a := (k : Int)) (b := (lb : Int)) (T rfl f80) (T rfl f79)) ?_
       refine lw_nil ?_
       refine rk_seq ?_
       by_cases hb87 : ((k : Int)) < ((lb : Int))
       · refine rk_ct (T rfl (congrArg Value.bool (decide_eq_true hb87))) ?_
         refine rk_skip ?_
         refine rk_seq ?_
         refine rk_block ?_
         refine rk_seq ?_
         refine rk_reg ?_
         refine lw_v (.int .i64 ((k : Int))) (dv_move (T rfl f80)) ?_
         have h88 := (hyw.ext E81)
         obtain ⟨g89, o90, rfl⟩ := Wd.at h88 (by first | omega | (simp; done) | (simp; omega))
         refine lw_v (.pointer (some ⟨g89, o90 + k, none⟩)) (dv_indexW (g := g89) (o := o90) (l := lb) (c := cb) (i := k) (j := (k : Int)) us57 sz24 (T rfl f78) (T rfl f80) (by omega) (by first | omega | (simp; done) | (simp; omega))) ?_
         refine lw_v (.int .u64 (ys.getD k 0)) (dv_load agt24 (T rfl rfl) (Wd.cell h88 (by first | omega | (simp; done) | (simp; omega)))) ?_
         refine lw_v (.int .i64 ((k : Int))) (dv_assign (T rfl rfl)) ?_
         refine lw_v (.int .u64 (ys.getD k 0)) (dv_assign (T rfl rfl)) ?_
         refine lw_nil ?_
         refine rk_seq ?_
         refine rk_reg ?_
         refine lw_v (.int .u64 (xs.getD i 0)) (dv_move (T rfl f68)) ?_
         refine lw_v (.int .u64 (ys.getD k 0)) (dv_move (T rfl rfl)) ?_
         have hm91 := mul_pos_bd (A := 18446744073709551615) (show 0 ≤ xs.getD i 0 by omega) (by omega) (show 0 ≤ ys.getD k 0 by omega) (by omega)
         refine lw_e (oe_callf (vs := [.int .u64 (xs.getD i 0), .int .u64 (ys.getD k 0)]) co94 (ar2 (T rfl rfl) (T rfl rfl)) (mul64_ok (by omega) (by omega)) ?_)
         rintro _ w92 ⟨rfl, e93⟩
         have E94 := below_ext E81 E81.size e93
         refine lw_v (.tuple #[.int .u64 ((xs.getD i 0) * (ys.getD k 0) / 18446744073709551616), .int .u64 ((xs.getD i 0) * (ys.getD k 0) % 18446744073709551616)]) (dv_move (T rfl rfl)) ?_
         refine lw_v (.int .u64 ((xs.getD i 0) * (ys.getD k 0) / 18446744073709551616)) (dv_extract (vs := #[.int .u64 ((xs.getD i 0) * (ys.getD k 0) / 18446744073709551616), .int .u64 ((xs.getD i 0) * (ys.getD k 0) % 18446744073709551616)]) (T rfl rfl) rfl) ?_
         refine lw_v (.int .u64 ((xs.getD i 0) * (ys.getD k 0) % 18446744073709551616)) (dv_extract (vs := #[.int .u64 ((xs.getD i 0) * (ys.getD k 0) / 18446744073709551616), .int .u64 ((xs.getD i 0) * (ys.getD k 0) % 18446744073709551616)]) (T rfl rfl) rfl) ?_
         refine lw_v (.int .u64 ((xs.getD i 0) * (ys.getD k 0) / 18446744073709551616)) (dv_assign (T rfl rfl)) ?_
         refine lw_v (.int .u64 ((xs.getD i 0) * (ys.getD k 0) % 18446744073709551616)) (dv_assign (T rfl rfl)) ?_
         refine lw_nil ?_
         refine rk_seq ?_
         refine rk_reg ?_
         refine lw_v (.int .u64 0) (dv_assign C) ?_
         refine lw_nil ?_
         refine rk_seq ?_
         refine rk_reg ?_
         refine lw_v (.int .u64 ((xs.getD i 0) * (ys.getD k 0) % 18446744073709551616)) (dv_move (T rfl rfl)) ?_
         refine lw_v (.int .u64 cy) (dv_move (T rfl f69)) ?_
         refine lw_v (.tuple #[.int .u64 ((((xs.getD i 0) * (ys.getD k 0) % 18446744073709551616) + cy + 0) % 18446744073709551616), .int .u64 ((((xs.getD i 0) * (ys.getD k 0) % 18446744073709551616) + cy + 0) / 18446744073709551616)]) (dv_ext (e := add64Entry) (vs := [.int .u64 ((xs.getD i 0) * (ys.getD k 0) % 18446744073709551616), .int .u64 cy, .int .u64 0]) Try.func95 rfl rfl (by kernel_rfl) (by kernel_rfl) (ar3 (T rfl rfl) (T rfl rfl) C) (run_addE ((xs.getD i 0) * (ys.getD k 0) % 18446744073709551616) cy 0 (by omega) (by omega) (by omega))) ?_
         refine lw_v (.tuple #[.int .u64 ((((xs.getD i 0) * (ys.getD k 0) % 18446744073709551616) + cy + 0) % 18446744073709551616), .int .u64 ((((xs.getD i 0) * (ys.getD k 0) % 18446744073709551616) + cy + 0) / 18446744073709551616)]) (dv_move (T rfl rfl)) ?_
         refine lw_v (.int .u64 ((((xs.getD i 0) * (ys.getD k 0) % 18446744073709551616) + cy + 0) % 18446744073709551616)) (dv_extract (vs := #[.int .u64 ((((xs.getD i 0) * (ys.getD k 0) % 18446744073709551616) + cy + 0) % 18446744073709551616), .int .u64 ((((xs.getD i 0) * (ys.getD k 0) % 18446744073709551616) + cy + 0) / 18446744073709551616)]) (T rfl rfl) rfl) ?_
         refine lw_v (.int .u64 ((((xs.getD i 0) * (ys.getD k 0) % 18446744073709551616) + cy + 0) / 18446744073709551616)) (dv_extract (vs := #[.int .u64 ((((xs.getD i 0) * (ys.getD k 0) % 18446744073709551616) + cy + 0) % 18446744073709551616), .int .u64 ((((xs.getD i 0) * (ys.getD k 0) % 18446744073709551616) + cy + 0) / 18446744073709551616)]) (T rfl rfl) rfl) ?_
         refine lw_v (.int .u64 ((((xs.getD i 0) * (ys.getD k 0) % 18446744073709551616) + cy + 0) % 18446744073709551616)) (dv_assign (T rfl rfl)) ?_
         refine lw_v (.int .u64 ((((xs.getD i 0) * (ys.getD k 0) % 18446744073709551616) + cy + 0) / 18446744073709551616)) (dv_assign (T rfl rfl)) ?_
         refine lw_nil ?_
         refine rk_seq ?_
         refine rk_reg ?_
         refine lw_v (.int .u64 ((xs.getD i 0) * (ys.getD k 0) / 18446744073709551616)) (dv_move (T rfl rfl)) ?_
         refine lw_v (.int .u64 ((((xs.getD i 0) * (ys.getD k 0) % 18446744073709551616) + cy + 0) / 18446744073709551616)) (dv_move (T rfl rfl)) ?_
         refine lw_v (.int .u64 (((xs.getD i 0) * (ys.getD k 0) / 18446744073709551616) + ((((xs.getD i 0) * (ys.getD k 0) % 18446744073709551616) + cy + 0) / 18446744073709551616))) (dv_add (a := (xs.getD i 0) * (ys.getD k 0) / 18446744073709551616) (b := (((xs.getD i 0) * (ys.getD k 0) % 18446744073709551616) + cy + 0) / 18446744073709551616) (z := ((xs.getD i 0) * (ys.getD k 0) / 18446744073709551616) + ((((xs.getD i 0) * (ys.getD k 0) % 18446744073709551616) + cy + 0) / 18446744073709551616)) (T rfl rfl) (T rfl rfl) (wn_u64 (by omega) (by omega))) ?_
         refine lw_v (.int .u64 (((xs.getD i 0) * (ys.getD k 0) / 18446744073709551616) + ((((xs.getD i 0) * (ys.getD k 0) % 18446744073709551616) + cy + 0) / 18446744073709551616))) (dv_assign (T rfl rfl)) ?_
         refine lw_nil ?_
         refine rk_seq ?_
         refine rk_reg ?_
         refine lw_v (.slice (some ⟨b28, 0, none⟩) (((la) + (lb))) (((la) + (lb)))) (dv_move (T rfl f66)) ?_
         refine lw_v (.int .i64 ((i : Int))) (dv_move (T rfl f67)) ?_
         refine lw_v (.int .i64 ((k : Int))) (dv_move (T rfl rfl)) ?_
         refine lw_v (.int .i64 (((i : Int)) + ((k : Int)))) (dv_add (a := (i : Int)) (b := (k : Int)) (z := ((i : Int)) + ((k : Int))) (T rfl rfl) (T rfl rfl) (wr_i64 (by omega) (by omega))) ?_
         refine lw_v (.slice (some ⟨b28, 0, none⟩) (((la) + (lb))) (((la) + (lb)))) (dv_move (T rfl f66)) ?_
         refine lw_v (.int .i64 ((i : Int))) (dv_move (T rfl f67)) ?_
         refine lw_v (.int .i64 ((k : Int))) (dv_move (T rfl rfl)) ?_
         refine lw_v (.int .i64 (((i : Int)) + ((k : Int)))) (dv_add (a := (i : Int)) (b := (k : Int)) (z := ((i : Int)) + ((k : Int))) (T rfl rfl) (T rfl rfl) (wr_i64 (by omega) (by omega))) ?_
         refine lw_v (.pointer (some ⟨b28, (((i) + (k))), none⟩)) (dv_indexO (g := b28) (l := ((la) + (lb))) (c := ((la) + (lb))) (i := ((i) + (k))) (j := ((i : Int)) + ((k : Int))) us57 sz24 (T rfl rfl) (T rfl rfl) (by omega) (by first | omega | (simp; done) | (simp; omega))) ?_
         have H95 := (e93.blk H85)
         refine lw_v (.int .u64 (M.getD (((i) + (k))) 0)) (dv_loadW (L := M) (v := M.getD (((i) + (k))) 0) agt24 (T rfl rfl) H95 (by first | omega | (simp; done) | (simp; omega)) rfl) ?_
         refine lw_v (.int .u64 ((((xs.getD i 0) * (ys.getD k 0) % 18446744073709551616) + cy + 0) % 18446744073709551616)) (dv_move (T rfl rfl)) ?_
         refine lw_v (.tuple #[.int .u64 (((M.getD (((i) + (k))) 0) + ((((xs.getD i 0) * (ys.getD k 0) % 18446744073709551616) + cy + 0) % 18446744073709551616) + 0) % 18446744073709551616), .int .u64 (((M.getD (((i) + (k))) 0) + ((((xs.getD i 0) * (ys.getD k 0) % 18446744073709551616) + cy + 0) % 18446744073709551616) + 0) / 18446744073709551616)]) (dv_ext (e := add64Entry) (vs := [.int .u64 (M.getD (((i) + (k))) 0), .int .u64 ((((xs.getD i 0) * (ys.getD k 0) % 18446744073709551616) + cy + 0) % 18446744073709551616), .int .u64 0]) Try.func95 rfl rfl (by kernel_rfl) (by kernel_rfl) (ar3 (T rfl rfl) (T rfl rfl) C) (run_addE (M.getD (((i) + (k))) 0) ((((xs.getD i 0) * (ys.getD k 0) % 18446744073709551616) + cy + 0) % 18446744073709551616) 0 (by omega) (by omega) (by omega))) ?_
         refine lw_v (.tuple #[.int .u64 (((M.getD (((i) + (k))) 0) + ((((xs.getD i 0) * (ys.getD k 0) % 18446744073709551616) + cy + 0) % 18446744073709551616) + 0) % 18446744073709551616), .int .u64 (((M.getD (((i) + (k))) 0) + ((((xs.getD i 0) * (ys.getD k 0) % 18446744073709551616) + cy + 0) % 18446744073709551616) + 0) / 18446744073709551616)]) (dv_move (T rfl rfl)) ?_
         refine lw_v (.int .u64 (((M.getD (((i) + (k))) 0) + ((((xs.getD i 0) * (ys.getD k 0) % 18446744073709551616) + cy + 0) % 18446744073709551616) + 0) % 18446744073709551616)) (dv_extract (vs := #[.int .u64 (((M.getD (((i) + (k))) 0) + ((((xs.getD i 0) * (ys.getD k 0) % 18446744073709551616) + cy + 0) % 18446744073709551616) + 0) % 18446744073709551616), .int .u64 (((M.getD (((i) + (k))) 0) + ((((xs.getD i 0) * (ys.getD k 0) % 18446744073709551616) + cy + 0) % 18446744073709551616) + 0) / 18446744073709551616)]) (T rfl rfl) rfl) ?_
         refine lw_v (.int .u64 (((M.getD (((i) + (k))) 0) + ((((xs.getD i 0) * (ys.getD k 0) % 18446744073709551616) + cy + 0) % 18446744073709551616) + 0) / 18446744073709551616)) (dv_extract (vs := #[.int .u64 (((M.getD (((i) + (k))) 0) + ((((xs.getD i 0) * (ys.getD k 0) % 18446744073709551616) + cy + 0) % 18446744073709551616) + 0) % 18446744073709551616), .int .u64 (((M.getD (((i) + (k))) 0) + ((((xs.getD i 0) * (ys.getD k 0) % 18446744073709551616) + cy + 0) % 18446744073709551616) + 0) / 18446744073709551616)]) (T rfl rfl) rfl) ?_
         refine lw_v (.pointer (some ⟨b28, (((i) + (k))), none⟩)) (dv_indexO (g := b28) (l := ((la) + (lb))) (c := ((la) + (lb))) (i := ((i) + (k))) (j := ((i : Int)) + ((k : Int))) us57 sz24 (T rfl rfl) (T rfl rfl) (by omega) (by first | omega | (simp; done) | (simp; omega))) ?_
         refine lw_e (oe_storeW (L := M) (i := ((i) + (k))) (z := ((M.getD (((i) + (k))) 0) + ((((xs.getD i 0) * (ys.getD k 0) % 18446744073709551616) + cy + 0) % 18446744073709551616) + 0) % 18446744073709551616) sz24 (T rfl rfl) (T rfl rfl) H95 (by first | omega | (simp; done) | (simp; omega)) ?_)
         intro w96 s97 H98
         have E99 := below_st E94 N31 s97
         refine lw_v (.int .u64 (((M.getD (((i) + (k))) 0) + ((((xs.getD i 0) * (ys.getD k 0) % 18446744073709551616) + cy + 0) % 18446744073709551616) + 0) / 18446744073709551616)) (dv_assign (T rfl rfl)) ?_
         refine lw_nil ?_
         refine rk_reg ?_
         refine lw_v (.int .u64 (((xs.getD i 0) * (ys.getD k 0) / 18446744073709551616) + ((((xs.getD i 0) * (ys.getD k 0) % 18446744073709551616) + cy + 0) / 18446744073709551616))) (dv_move (T rfl rfl)) ?_
         refine lw_v (.int .u64 (((M.getD (((i) + (k))) 0) + ((((xs.getD i 0) * (ys.getD k 0) % 18446744073709551616) + cy + 0) % 18446744073709551616) + 0) / 18446744073709551616)) (dv_move (T rfl rfl)) ?_
         refine lw_v (.int .u64 ((((xs.getD i 0) * (ys.getD k 0) / 18446744073709551616) + ((((xs.getD i 0) * (ys.getD k 0) % 18446744073709551616) + cy + 0) / 18446744073709551616)) + (((M.getD (((i) + (k))) 0) + ((((xs.getD i 0) * (ys.getD k 0) % 18446744073709551616) + cy + 0) % 18446744073709551616) + 0) / 18446744073709551616))) (dv_add (a := ((xs.getD i 0) * (ys.getD k 0) / 18446744073709551616) + ((((xs.getD i 0) * (ys.getD k 0) % 18446744073709551616) + cy + 0) / 18446744073709551616)) (b := ((M.getD (((i) + (k))) 0) + ((((xs.getD i 0) * (ys.getD k 0) % 18446744073709551616) + cy + 0) % 18446744073709551616) + 0) / 18446744073709551616) (z := (((xs.getD i 0) * (ys.getD k 0) / 18446744073709551616) + ((((xs.getD i 0) * (ys.getD k 0) % 18446744073709551616) + cy + 0) / 18446744073709551616)) + (((M.getD (((i) + (k))) 0) + ((((xs.getD i 0) * (ys.getD k 0) % 18446744073709551616) + cy + 0) % 18446744073709551616) + 0) / 18446744073709551616)) (T rfl rfl) (T rfl rfl) (wn_u64 (by omega) (by omega))) ?_
         refine lw_v (.int .u64 ((((xs.getD i 0) * (ys.getD k 0) / 18446744073709551616) + ((((xs.getD i 0) * (ys.getD k 0) % 18446744073709551616) + cy + 0) / 18446744073709551616)) + (((M.getD (((i) + (k))) 0) + ((((xs.getD i 0) * (ys.getD k 0) % 18446744073709551616) + cy + 0) % 18446744073709551616) + 0) / 18446744073709551616))) (dv_assign (T rfl rfl)) ?_
         refine lw_nil ?_
         refine rk_inBlock ?_
         refine rk_reg ?_
         refine lw_v (.int .i64 (((k : Int)) + 1)) (dv_add (a := (k : Int)) (b := 1) (z := ((k : Int)) + 1) (T rfl f80) C (wr_i64 (by omega) (by omega))) ?_
         refine lw_v (.int .i64 (((k : Int)) + 1)) (dv_move (T rfl rfl)) ?_
         refine lw_nil ?_
         have H100 := (s97.blk (e93.blk H82) (by omega))
         have H101 := (s97.blk (e93.blk H83) (by omega))
         have H102 := (s97.blk (e93.blk H84) (by omega))
         exact ih60 (ys.length - ((k + 1))) _ _ (by rw [hd86]; omega) ⟨(k + 1), (M.set (((i) + (k))) (((M.getD (((i) + (k))) 0) + ((((xs.getD i 0) * (ys.getD k 0) % 18446744073709551616) + cy + 0) % 18446744073709551616) + 0) % 18446744073709551616)), ((((xs.getD i 0) * (ys.getD k 0) / 18446744073709551616) + ((((xs.getD i 0) * (ys.getD k 0) % 18446744073709551616) + cy + 0) / 18446744073709551616)) + (((M.getD (((i) + (k))) 0) + ((((xs.getD i 0) * (ys.getD k 0) % 18446744073709551616) + cy + 0) % 18446744073709551616) + 0) / 18446744073709551616)), rfl, f63, f64, f65, f66, f67, f68, rfl, f70, f71, f72, f73, f74, f75, f76, f77, f78, f79, (vi (by omega)), E99, H100, H101, H102, H98, (by omega), (by simp; omega), (okW.set hok2 (by omega) (by omega) _), (by omega), (mul_step (by omega) hM rfl rfl (by omega)), (zero_set hM0 (by omega))⟩
       · refine rk_cf (T rfl (congrArg Value.bool (decide_eq_false hb87))) ?_
         refine rk_exit rfl ?_
         refine rk_reg ?_
         refine lw_v (.slice (some ⟨b28, 0, none⟩) (((la) + (lb))) (((la) + (lb)))) (dv_move (T rfl f66)) ?_
         refine lw_v (.int .i64 ((i : Int))) (dv_move (T rfl f67)) ?_
         refine lw_v (.pointer (some ⟨b6, 1, none⟩)) (dv_fieldAddr (a := ⟨b6, 0, none⟩) (a' := ⟨b6, 1, none⟩) fo59_1 (T rfl f64) rfl) ?_
         refine lw_v (.slice Ab lb cb) (dv_load1 (b := b6) (o := 1) agt57 (T rfl rfl) H83 rfl) ?_
         refine lw_v (.int .i64 ((lb : Int))) (dv_len (ad := Ab) (l := lb) (c := cb) us57 (T rfl rfl)) ?_
         refine lw_v (.int .i64 (((i : Int)) + ((lb : Int)))) (dv_add (a := (i : Int)) (b := (lb : Int)) (z := ((i : Int)) + ((lb : Int))) (T rfl rfl) (T rfl rfl) (wr_i64 (by omega) (by omega))) ?_
         refine lw_v (.int .u64 cy) (dv_move (T rfl f69)) ?_
         refine lw_v (.pointer (some ⟨b28, (((i) + (lb))), none⟩)) (dv_indexO (g := b28) (l := ((la) + (lb))) (c := ((la) + (lb))) (i := ((i) + (lb))) (j := ((i : Int)) + ((lb : Int))) us57 sz24 (T rfl rfl) (T rfl rfl) (by omega) (by first | omega | (simp; done) | (simp; omega))) ?_
         refine lw_e (oe_storeW (L := M) (i := ((i) + (lb))) (z := cy) sz24 (T rfl rfl) (T rfl rfl) H85 (by first | omega | (simp; done) | (simp; omega)) ?_)
         intro w103 s104 H105
         have E106 := below_st E81 N31 s104
         refine lw_nil ?_
         refine rk_inBlock ?_
         refine rk_reg ?_
         refine lw_v (.int .i64 (((i : Int)) + 1)) (dv_add (a := (i : Int)) (b := 1) (z := ((i : Int)) + 1) (T rfl f72) C (wr_i64 (by omega) (by omega))) ?_
         refine lw_v (.int .i64 (((i : Int)) + 1)) (dv_move (T rfl rfl)) ?_
         refine lw_nil ?_
         have H107 := (s104.blk H82 (by omega))
         have H108 := (s104.blk H83 (by omega))
         have H109 := (s104.blk H84 (by omega))
         exact ih38 (xs.length - ((i + 1))) _ _ (by rw [hd53]; omega) ⟨(i + 1), (M.set (((i) + (lb))) cy), rfl, f63, f64, f65, f66, f70, f71, (vi (by omega)), E106, H107, H108, H109, H105, (by omega), (by simp; omega), (okW.set hok2 (by omega) (by omega) _), (by have hk : k = ys.length := (by omega); subst hk; rw [← hyl]; exact mul_last (by omega) (hM0 _ (by omega)) hM), (by rw [← hyl]; intro q hq; exact zero_set1 hM0 q (by omega))⟩
     · refine rk_cf (T rfl (congrArg Value.bool (decide_eq_false hb54))) ?_
       refine rk_exit rfl ?_
       refine rk_seq ?_
       refine rk_reg ?_
       refine lw_v (.pointer (some ⟨b1, 0, none⟩)) (dv_fieldAddr (a := ⟨b1, 0, none⟩) (a' := ⟨b1, 0, none⟩) fo59_0 (T rfl f41) rfl) ?_
       refine lw_v (.bool na) (dv_load1 (b := b1) (o := 0) agt4 (T rfl rfl) H49 rfl) ?_
       refine lw_v (.pointer (some ⟨b6, 0, none⟩)) (dv_fieldAddr (a := ⟨b6, 0, none⟩) (a' := ⟨b6, 0, none⟩) fo59_0 (T rfl f42) rfl) ?_
       refine lw_v (.bool nb) (dv_load1 (b := b6) (o := 0) agt4 (T rfl rfl) H50 rfl) ?_
       refine lw_v (.bool (na != nb)) (dv_neqb (a := na) (b := nb) ub4 (T rfl rfl) (T rfl rfl)) ?_
       refine lw_v (.slice (some ⟨b28, 0, none⟩) (((la) + (lb))) (((la) + (lb)))) (dv_move (T rfl f44)) ?_
       refine lw_e (oe_callf (vs := [.bool (na != nb), .slice (some ⟨b28, 0, none⟩) (((la) + (lb))) (((la) + (lb)))]) co81 (ar2 (T rfl rfl) (T rfl rfl)) (made_num (s := (64 * (((la) + (lb))))) (neg := na != nb) (⟨L, (by first | (simp; done) | (simp; omega) | omega), (by first | (simp; done) | (simp; omega) | omega), Wd.ownW H52, hok, rfl⟩ : Ws _ _ _ _ _ _ _ _) (by first | omega | (simp; done) | (simp; omega)) (valB_sz hok (by first | (simp; done) | (simp; omega) | omega))) ?_)
       rintro _ w113 ⟨nb110, n111, rfl, e114, hn112⟩
       have E115 := below_ext E48 E48.size e114
       have lhn112 := Num.len (by decide) hn112
       have H116 := (e114.blk H51)
       refine lw_e (oe_store (v := .agg #[.bool nb110, .slice (some ⟨b28, 0, none⟩) n111 (((la) + (lb)))]) (vs := [.bool nb110, .slice (some ⟨b28, 0, none⟩) n111 (((la) + (lb)))]) (l := [.bool nb110, .slice (some ⟨b28, 0, none⟩) n111 (((la) + (lb)))]) (T rfl f43) (T rfl rfl) sz59 rfl rfl rfl H116 rfl ?_)
       intro w117 s118 H119
       have E120 := below_st E115 N14 s118
       refine lw_nil ?_
       refine rk_ret Try.func56 (v := .agg #[.bool nb110, .slice (some ⟨b28, 0, none⟩) n111 (((la) + (lb)))]) (res1 Try.results56 (rv_cells (l := [.bool nb110, .slice (some ⟨b28, 0, none⟩) n111 (((la) + (lb)))]) agt59 sz59 rfl f43 H119 rfl)) ⟨_, rfl, ?_⟩
       have h121 := (hn112.st s118 H116 (by decide))
       exact ⟨_, _, _, _, rfl, E120, h121.tight (by rw [hv, List.take_of_length_le (by omega), ← hxv, ← hyv]; exact sg_mul ha.neg_iff hb.neg_iff) (by rw [Int.natAbs_mul]; exact nat_mul_sz ha.lt hb.lt)⟩
set_option maxHeartbeats 1000000 in
theorem l1Mul_ok {w : World} {na : Bool} {Aa : Option Addr} {la ca : Nat} {x : Int} {sx : Nat} (ha : Num 32 95 .u32 w na Aa la ca x sx) {nb : Bool} {Ab : Option Addr} {lb cb : Nat} {y : Int} {sy : Nat} (hb : Num 32 95 .u32 w nb Ab lb cb y sy) (hs : sx ≤ 200000) (hs2 : sy ≤ 200000) : Ct Try.prog 78 [.agg #[.bool na, .slice Aa la ca], .agg #[.bool nb, .slice Ab lb cb]] w fun v w1 => ∃ nr A' n c', v = .agg #[.bool nr, .slice A' n c'] ∧ Ext w w1 ∧ Num 32 95 .u32 w1 nr A' n c' (x * y) (sx + sy) := by
 refine ct_run (n := 90) Try.func78 rfl Try.ntmps78 rfl ?_
 have E0 : Below w.heap.size w w := Below.refl _ _
 have lha := Num.len (by decide) ha
 have lhb := Num.len (by decide) hb
 obtain ⟨xs, hxl, hxc, hxw, ox, hxk, hxv⟩ := ha.wc
 obtain ⟨ys, hyl, hyc, hyw, oy, hyk, hyv⟩ := hb.wc
 refine rk_seq ?_
 refine rk_reg ?_
 refine lw_e (oe_box (v := .agg #[.bool na, .slice Aa la ca]) (cs := #[.bool na, .slice Aa la ca]) (T rfl rfl) rfl ?_)
 intro b1 w2 n3
 have N4 : w.heap.size ≤ b1 := n3.eq ▸ E0.size
 have E5 := below_ext E0 E0.size n3.ext
 refine lw_e (oe_box (v := .agg #[.bool nb, .slice Ab lb cb]) (cs := #[.bool nb, .slice Ab lb cb]) (T rfl rfl) rfl ?_)
 intro b6 w7 n8
 have N9 : w.heap.size ≤ b6 := n8.eq ▸ E5.size
 have : b1 < b6 := n8.eq ▸ lt_of_blk n3.blk
 have E10 := below_ext E5 E5.size n8.ext
 refine lw_e (oe_alloc ze65 ?_)
 intro b11 w12 n13
 have N14 : w.heap.size ≤ b11 := n13.eq ▸ E10.size
 have : b6 < b11 := n13.eq ▸ lt_of_blk n8.blk
 have E15 := below_ext E10 E10.size n13.ext
 refine lw_nil ?_
 refine rk_seq ?_
 refine rk_seq ?_
 refine rk_reg ?_
 refine lw_v (.pointer (some ⟨b1, 1, none⟩)) (dv_fieldAddr (a := ⟨b1, 0, none⟩) (a' := ⟨b1, 1, none⟩) fo65_1 (T rfl rfl) rfl) ?_
 have H16 := (n13.ext.blk (n8.ext.blk n3.blk))
 refine lw_v (.slice Aa la ca) (dv_load1 (b := b1) (o := 1) agt63 (T rfl rfl) H16 rfl) ?_
 refine lw_v (.int .i64 ((la : Int))) (dv_len (ad := Aa) (l := la) (c := ca) us63 (T rfl rfl)) ?_
 refine lw_v (.bool (decide (((la : Int)) = 0))) (dv_eql (a := (la : Int)) (b := 0) (T rfl rfl) C) ?_
 refine lw_v (.bool (decide (((la : Int)) = 0))) (dv_move (T rfl rfl)) ?_
 by_cases hb17 : ((la : Int)) = 0
 · refine lw_no (d := 13) rfl rfl (congrArg Value.bool (decide_eq_true hb17)) ?_
   refine lw_no (d := 13) rfl rfl (congrArg Value.bool (decide_eq_true hb17)) ?_
   refine lw_no (d := 13) rfl rfl (congrArg Value.bool (decide_eq_true hb17)) ?_
   refine lw_no (d := 13) rfl rfl (congrArg Value.bool (decide_eq_true hb17)) ?_
   refine lw_v (.bool true) (dv_pick_t (T rfl (congrArg Value.bool (decide_eq_true hb17))) C) ?_
   refine lw_nil ?_
   refine rk_ct (T rfl rfl) ?_
   refine rk_seq ?_
   refine rk_reg ?_
   refine lw_v (.agg #[.bool false, .slice none 0 0]) (dv_build (pv := []) (l := [.bool false, .slice none 0 0]) zc65 pl65 trivial rfl) ?_
   refine lw_e (oe_store (v := .agg #[.bool false, .slice none 0 0]) (vs := [.bool false, .slice none 0 0]) (l := [.bool false, .slice none 0 0]) (T rfl rfl) (T rfl rfl) sz65 rfl rfl rfl n13.blk rfl ?_)
   intro w18 s19 H20
   have E21 := below_st E15 N14 s19
   refine lw_nil ?_
   refine rk_ret Try.func78 (v := .agg #[.bool false, .slice none 0 0]) (res1 Try.results78 (rv_cells (l := [.bool false, .slice none 0 0]) agt65 sz65 rfl rfl H20 rfl)) ⟨_, rfl, ?_⟩
   exact ⟨_, _, _, _, rfl, E21, (Num.zero (s := 0)).tight (by have h1 := ha.pos_iff; have h2 := hb.pos_iff; exact (mul_zero_of (by omega)).symm) (by rw [Int.natAbs_mul]; exact nat_mul_sz ha.lt hb.lt)⟩
 · refine lw_vy (.pointer (some ⟨b6, 1, none⟩)) (d := 13) rfl rfl (congrArg Value.bool (decide_eq_false hb17)) (dv_fieldAddr (a := ⟨b6, 0, none⟩) (a' := ⟨b6, 1, none⟩) fo65_1 (T rfl rfl) rfl) ?_
   have H22 := (n13.ext.blk n8.blk)
   refine lw_vy (.slice Ab lb cb) (d := 13) rfl rfl (congrArg Value.bool (decide_eq_false hb17)) (dv_load1 (b := b6) (o := 1) agt63 (T rfl rfl) H22 rfl) ?_
   refine lw_vy (.int .i64 ((lb : Int))) (d := 13) rfl rfl (congrArg Value.bool (decide_eq_false hb17)) (dv_len (ad := Ab) (l := lb) (c := cb) us63 (T rfl rfl)) ?_
   refine lw_vy (.bool (decide (((lb : Int)) = 0))) (d := 13) rfl rfl (congrArg Value.bool (decide_eq_false hb17)) (dv_eql (a := (lb : Int)) (b := 0) (T rfl rfl) C) ?_
   refine lw_v (.bool (decide (((lb : Int)) = 0))) (dv_pick_f (T rfl (congrArg Value.bool (decide_eq_false hb17))) (T rfl rfl)) ?_
   refine lw_nil ?_
   by_cases hb23 : ((lb : Int)) = 0
   · refine rk_ct (T rfl (congrArg Value.bool (decide_eq_true hb23))) ?_
     refine rk_seq ?_
     refine rk_reg ?_
     refine lw_v (.agg #[.bool false, .slice none 0 0]) (dv_build (pv := []) (l := [.bool false, .slice none 0 0]) zc65 pl65 trivial rfl) ?_
     refine lw_e (oe_store (v := .agg #[.bool false, .slice none 0 0]) (vs := [.bool false, .slice none 0 0]) (l := [.bool false, .slice none 0 0]) (T rfl rfl) (T rfl rfl) sz65 rfl rfl rfl n13.blk rfl ?_)
     intro w24 s25 H26
     have E27 := below_st E15 N14 s25
     refine lw_nil ?_
     refine rk_ret Try.func78 (v := .agg #[.bool false, .slice none 0 0]) (res1 Try.results78 (rv_cells (l := [.bool false, .slice none 0 0]) agt65 sz65 rfl rfl H26 rfl)) ⟨_, rfl, ?_⟩
     exact ⟨_, _, _, _, rfl, E27, (Num.zero (s := 0)).tight (by have h1 := ha.pos_iff; have h2 := hb.pos_iff; exact (mul_zero_of (by omega)).symm) (by rw [Int.natAbs_mul]; exact nat_mul_sz ha.lt hb.lt)⟩
   · refine rk_cf (T rfl (congrArg Value.bool (decide_eq_false hb23))) ?_
     refine rk_skip ?_
     refine rk_seq ?_
     refine rk_reg ?_
     refine lw_v (.pointer (some ⟨b1, 1, none⟩)) (dv_fieldAddr (a := ⟨b1, 0, none⟩) (a' := ⟨b1, 1, none⟩) fo65_1 (T rfl rfl) rfl) ?_
     refine lw_v (.slice Aa la ca) (dv_load1 (b := b1) (o := 1) agt63 (T rfl rfl) H16 rfl) ?_
     refine lw_v (.int .i64 ((la : Int))) (dv_len (ad := Aa) (l := la) (c := ca) us63 (T rfl rfl)) ?_
     refine lw_v (.pointer (some ⟨b6, 1, none⟩)) (dv_fieldAddr (a := ⟨b6, 0, none⟩) (a' := ⟨b6, 1, none⟩) fo65_1 (T rfl rfl) rfl) ?_
     refine lw_v (.slice Ab lb cb) (dv_load1 (b := b6) (o := 1) agt63 (T rfl rfl) H22 rfl) ?_
     refine lw_v (.int .i64 ((lb : Int))) (dv_len (ad := Ab) (l := lb) (c := cb) us63 (T rfl rfl)) ?_
     refine lw_v (.int .i64 (((la : Int)) + ((lb : Int)))) (dv_add (a := (la : Int)) (b := (lb : Int)) (z := ((la : Int)) + ((lb : Int))) (T rfl rfl) (T rfl rfl) (wr_i64 (by omega) (by omega))) ?_
     refine lw_e (oe_makeW (l := ((la) + (lb))) (j := ((la : Int)) + ((lb : Int))) us63 in95 (T rfl rfl) (T rfl rfl) (by omega) (by first | omega | (simp; done) | (simp; omega)) (by first | omega | (simp; done) | (simp; omega)) ?_)
     intro b28 w29 n30
     have N31 : w.heap.size ≤ b28 := n30.eq ▸ E15.size
     have : b11 < b28 := n30.eq ▸ lt_of_blk n13.blk
     have E32 := below_ext E15 E15.size n30.ext
     refine lw_v (.slice (some ⟨b28, 0, none⟩) (((la) + (lb))) (((la) + (lb)))) (dv_assign (T rfl rfl)) ?_
     refine lw_nil ?_
     refine rk_seq ?_
     refine rk_seq ?_
     refine rk_reg ?_
     refine lw_v (.int .i64 0) (dv_assign C) ?_
     refine lw_nil ?_
     refine rk_block ?_
     have H33 := (n30.ext.blk H16)
     have H34 := (n30.ext.blk H22)
     have H35 := (n30.ext.blk n13.blk)
     refine rk_loop (fun dm_ fr wl => ∃ (i : Nat) (L : List Int), dm_ = xs.length - i ∧ fr 2 = .pointer (some ⟨b1, 0, none⟩) ∧ fr 3 = .pointer (some ⟨b6, 0, none⟩) ∧ fr 4 = .pointer (some ⟨b11, 0, none⟩) ∧ fr 5 = .slice (some ⟨b28, 0, none⟩) (((la) + (lb))) (((la) + (lb))) ∧ fr 6 = .int .i64 ((i : Int)) ∧ Below w.heap.size w wl ∧ wl.heap[b1]? = some (.cells #[.bool na, .slice Aa la ca] 65) ∧ wl.heap[b6]? = some (.cells #[.bool nb, .slice Ab lb cb] 65) ∧ wl.heap[b11]? = some (.cells #[.bool false, .slice none 0 0] 65) ∧ wl.heap[b28]? = some (.cells (L.map (Value.int .u32)).toArray 95) ∧ (i ≤ xs.length) ∧ (L.length = xs.length + ys.length) ∧ (okW (2 ^ 32) L) ∧ (valB (2 ^ 32) L = valB (2 ^ 32) (xs.take i) * valB (2 ^ 32) ys) ∧ (∀ q, i + ys.length ≤ q → L.getD q 0 = 0)) (xs.length - 0) ⟨0, (List.replicate (((la) + (lb))) (0 : Int)), rfl, rfl, rfl, rfl, rfl, (vi (by omega)), E32, H33, H34, H35, n30.blk, (Nat.zero_le _), (by simp; omega), (okW.replicate (by decide) _), (by rw [valB_zeros, List.take_zero]; simp [valB]), (fun q _ => rep_zero _ q)⟩ ?_
     intro d40 fr39 w36 hI37 ih38
     obtain ⟨i, L, hd51, f41, f42, f43, f44, f45, E46, H47, H48, H49, H50, hi, hl, hok, hv, hL0⟩ := hI37
     have bxs := okW.getD ox (by decide) i
     refine rk_seq ?_
     refine rk_seq ?_
     refine rk_reg ?_
     refine lw_v (.int .i64 ((i : Int))) (dv_move (T rfl f45)) ?_
     refine lw_v (.pointer (some ⟨b1, 1, none⟩)) (dv_fieldAddr (a := ⟨b1, 0, none⟩) (a' := ⟨b1, 1, none⟩) fo65_1 (T rfl f41) rfl) ?_
     refine lw_v (.slice Aa la ca) (dv_load1 (b := b1) (o := 1) agt63 (T rfl rfl) H47 rfl) ?_
     refine lw_v (.int .i64 ((la : Int))) (dv_len (ad := Aa) (l := la) (c := ca) us63 (T rfl rfl)) ?_
     refine lw_v (.bool (decide (((i : Int)) < ((la : Int))))) (dv_lss (a := (i : Int)) (b := (la : Int)) (T rfl rfl) (T rfl rfl)) ?_
     refine lw_nil ?_
     by_cases hb52 : ((i : Int)) < ((la : Int))
     · refine rk_ct (T rfl (congrArg Value.bool (decide_eq_true hb52))) ?_
       refine rk_skip ?_
       refine rk_seq ?_
       refine rk_block ?_
       refine rk_seq ?_
       refine rk_reg ?_
       refine lw_v (.int .u64 0) (dv_assign C) ?_
       refine lw_nil ?_
       refine rk_seq ?_
       refine rk_seq ?_
       refine rk_reg ?_
       refine lw_v (.int .i64 0) (dv_assign C) ?_
       refine lw_nil ?_
       refine rk_block ?_
       refine rk_loop (fun dm_ fr wl => ∃ (k : Nat) (M : List Int) (cy : Int), dm_ = ys.length - k ∧ fr 2 = .pointer (some ⟨b1, 0, none⟩) ∧ fr 3 = .pointer (some ⟨b6, 0, none⟩) ∧ fr 4 = .pointer (some ⟨b11, 0, none⟩) ∧ fr 5 = .slice (some ⟨b28, 0, none⟩) (((la) + (lb))) (((la) + (lb))) ∧ fr 6 = .int .i64 ((i : Int)) ∧ fr 7 = .int .u64 cy ∧ fr 8 = .int .i64 ((k : Int)) ∧ fr 28 = .int .i64 ((i : Int)) ∧ fr 29 = .pointer (some ⟨b1, 1, none⟩) ∧ fr 30 = .slice Aa la ca ∧ fr 31 = .int .i64 ((la : Int)) ∧ fr 32 = .bool (decide (((i : Int)) < ((la : Int)))) ∧ Below w.heap.size w wl ∧ wl.heap[b1]? = some (.cells #[.bool na, .slice Aa la ca] 65) ∧ wl.heap[b6]? = some (.cells #[.bool nb, .slice Ab lb cb] 65) ∧ wl.heap[b11]? = some (.cells #[.bool false, .slice none 0 0] 65) ∧ wl.heap[b28]? = some (.cells (M.map (Value.int .u32)).toArray 95) ∧ (k ≤ ys.length) ∧ (M.length = xs.length + ys.length) ∧ (okW (2 ^ 32) M) ∧ (0 ≤ cy ∧ cy < 4294967296) ∧ (valB (2 ^ 32) M + cy * (2 ^ 32) ^ (i + k) = valB (2 ^ 32) (xs.take i) * valB (2 ^ 32) ys + xs.getD i 0 * valB (2 ^ 32) (ys.take k) * (2 ^ 32) ^ i) ∧ (∀ q, i + ys.length ≤ q → M.getD q 0 = 0)) (ys.length - 0) ⟨0, L, 0, rfl, f41, f42, f43, f44, f45, rfl, (vi (by omega)), rfl, rfl, rfl, rfl, rfl, E46, H47, H48, H49, H50, (Nat.zero_le _), hl, hok, (by decide), (mul_start hv), hL0⟩ ?_
       intro d57 fr56 w53 hI54 ih55
       obtain ⟨k, M, cy, hd75, f58, f59, f60, f61, f62, f63, f64, f65, f66, f67, f68, f69, E70, H71, H72, H73, H74, hk, hMl, hok2, hcy, hM, hM0⟩ := hI54
       have bys := okW.getD oy (by decide) k
       have bMk := okW.getD hok2 (by decide) (i + k)
       refine rk_seq ?_
       refine rk_seq ?_
       refine rk_reg ?_
       refine lw_v (.int .i64 ((k : Int))) (dv_move (T rfl f64)) ?_
       refine lw_v (.pointer (some ⟨b6, 1, none⟩)) (dv_fieldAddr (a := ⟨b6, 0, none⟩) (a' := ⟨b6, 1, none⟩) fo65_1 (T rfl f59) rfl) ?_
       refine lw_v (.slice Ab lb cb) (dv_load1 (b := b6) (o := 1) agt63 (T rfl rfl) H72 rfl) ?_
       refine lw_v (.int .i64 ((lb : Int))) (dv_len (ad := Ab) (l := lb) (c := cb) us63 (T rfl rfl)) ?_
       refine lw_v (.bool (decide (((k : Int)) < ((lb : Int))))) (dv_lss (a := (k : Int)) (b := (lb : Int)) (T rfl rfl) (T rfl rfl)) ?_
       refine lw_nil ?_
       by_cases hb76 : ((k : Int)) < ((lb : Int))
       · refine rk_ct (T rfl (congrArg Value.bool (decide_eq_true hb76))) ?_
         refine rk_skip ?_
         refine rk_seq ?_
         refine rk_block ?_
         refine rk_seq ?_
         have h77 := (hxw.ext E70)
         have h78 := (hyw.ext E70)
         refine rk_any (fun w => w.heap[b1]? = some (.cells #[.bool na, .slice Aa la ca] 65) ∧ Wd w 95 .u32 Aa xs ∧ w.heap[b6]? = some (.cells #[.bool nb, .slice Ab lb cb] 65) ∧ Wd w 95 .u32 Ab ys ∧ w.heap[b28]? = some (.cells (M.map (Value.int .u32)).toArray 95)) [23] mo ?_
         intro w79 d80
         have E81 := below_ext E70 E70.size d80.ext
         have H82 := (d80.ext.blk H71)
         have h83 := (h77.ext d80.ext)
         have H84 := (d80.ext.blk H72)
         have h85 := (h78.ext d80.ext)
         have H86 := (d80.ext.blk H74)
         refine aw_pure 0 (.int .u64 cy) rfl (by kernel_rfl) .none ⟨H82, h83, H84, h85, H86⟩ (fun _ => dv_move (T rfl f63)) ?_
         refine aw_pure 1 (.pointer (some ⟨b1, 1, none⟩)) rfl (by kernel_rfl) .none ⟨H82, h83, H84, h85, H86⟩ (fun _ => dv_fieldAddr (a := ⟨b1, 0, none⟩) (a' := ⟨b1, 1, none⟩) fo65_1 (T rfl f58) rfl) ?_
         refine aw_load 2 (.slice Aa la ca) rfl (by kernel_rfl) .none ⟨H82, h83, H84, h85, H86⟩ (fun _ s => dv_load1 (b := b1) (o := 1) agt63 (T rfl rfl) s.1 rfl) ?_
         refine aw_pure 3 (.int .i64 ((i : Int))) rfl (by kernel_rfl) .none ⟨H82, h83, H84, h85, H86⟩ (fun _ => dv_move (T rfl f62)) ?_
         obtain ⟨g87, o88, rfl⟩ := Wd.at h83 (by first | omega | (simp; done) | (simp; omega))
         refine aw_pure 4 (.pointer (some ⟨g87, o88 + i, none⟩)) rfl (by kernel_rfl) .none ⟨H82, h83, H84, h85, H86⟩ (fun _ => dv_indexW (g := g87) (o := o88) (l := la) (c := ca) (i := i) (j := (i : Int)) us63 sz95 (T rfl rfl) (T rfl rfl) (by omega) (by first | omega | (simp; done) | (simp; omega))) ?_
         refine aw_load 5 (.int .u32 (xs.getD i 0)) rfl (by kernel_rfl) .none ⟨H82, h83, H84, h85, H86⟩ (fun _ s => dv_load agt95 (T rfl rfl) (Wd.cell s.2.1 (by first | omega | (simp; done) | (simp; omega)))) ?_
         refine aw_pure 6 (.int .u64 (xs.getD i 0)) rfl (by kernel_rfl) .none ⟨H82, h83, H84, h85, H86⟩ (fun _ => dv_conv (a := xs.getD i 0) (z := xs.getD i 0) ui95 ui24 (T rfl rfl) (wn_u64 (by omega) (by omega))) ?_
         refine aw_pure 7 (.pointer (some ⟨b6, 1, none⟩)) rfl (by kernel_rfl) .none ⟨H82, h83, H84, h85, H86⟩ (fun _ => dv_fieldAddr (a := ⟨b6, 0, none⟩) (a' := ⟨b6, 1, none⟩) fo65_1 (T rfl f59) rfl) ?_
         refine aw_load 8 (.slice Ab lb cb) rfl (by kernel_rfl) .none ⟨H82, h83, H84, h85, H86⟩ (fun _ s => dv_load1 (b := b6) (o := 1) agt63 (T rfl rfl) s.2.2.1 rfl) ?_
         refine aw_pure 9 (.int .i64 ((k : Int))) rfl (by kernel_rfl) .none ⟨H82, h83, H84, h85, H86⟩ (fun _ => dv_move (T rfl f64)) ?_
         obtain ⟨g89, o90, rfl⟩ := Wd.at h85 (by first | omega | (simp; done) | (simp; omega))
         refine aw_pure 10 (.pointer (some ⟨g89, o90 + k, none⟩)) rfl (by kernel_rfl) .none ⟨H82, h83, H84, h85, H86⟩ (fun _ => dv_indexW (g := g89) (o := o90) (l := lb) (c := cb) (i := k) (j := (k : Int)) us63 sz95 (T rfl rfl) (T rfl rfl) (by omega) (by first | omega | (simp; done) | (simp; omega))) ?_
         refine aw_load 11 (.int .u32 (ys.getD k 0)) rfl (by kernel_rfl) .none ⟨H82, h83, H84, h85, H86⟩ (fun _ s => dv_load agt95 (T rfl rfl) (Wd.cell s.2.2.2.1 (by first | omega | (simp; done) | (simp; omega)))) ?_
         refine aw_pure 12 (.int .u64 (ys.getD k 0)) rfl (by kernel_rfl) .none ⟨H82, h83, H84, h85, H86⟩ (fun _ => dv_conv (a := ys.getD k 0) (z := ys.getD k 0) ui95 ui24 (T rfl rfl) (wn_u64 (by omega) (by omega))) ?_
         have hm91 := mul_pos_bd (A := 4294967295) (show 0 ≤ (xs.getD i 0) by omega) (by omega) (show 0 ≤ (ys.getD k 0) by omega) (by omega)
         refine aw_pure 13 (.int .u64 ((xs.getD i 0) * (ys.getD k 0))) rfl (by kernel_rfl) .none ⟨H82, h83, H84, h85, H86⟩ (fun _ => dv_mul (a := xs.getD i 0) (b := ys.getD k 0) (z := (xs.getD i 0) * (ys.getD k 0)) (T rfl rfl) (T rfl rfl) (wn_u64 (by omega) (by omega))) ?_
         refine aw_pure 14 (.int .u64 (cy + ((xs.getD i 0) * (ys.getD k 0)))) rfl (by kernel_rfl) .none ⟨H82, h83, H84, h85, H86⟩ (fun _ => dv_add (a := cy) (b := (xs.getD i 0) * (ys.getD k 0)) (z := cy + ((xs.getD i 0) * (ys.getD k 0))) (T rfl rfl) (T rfl rfl) (wn_u64 (by omega) (by omega))) ?_
         refine aw_pure 15 (.slice (some ⟨b28, 0, none⟩) (((la) + (lb))) (((la) + (lb)))) rfl (by kernel_rfl) .none ⟨H82, h83, H84, h85, H86⟩ (fun _ => dv_move (T rfl f61)) ?_
         refine aw_pure 16 (.int .i64 ((i : Int))) rfl (by kernel_rfl) .none ⟨H82, h83, H84, h85, H86⟩ (fun _ => dv_move (T rfl f62)) ?_
         refine aw_pure 17 (.int .i64 ((k : Int))) rfl (by kernel_rfl) .none ⟨H82, h83, H84, h85, H86⟩ (fun _ => dv_move (T rfl f64)) ?_
         refine aw_pure 18 (.int .i64 (((i : Int)) + ((k : Int)))) rfl (by kernel_rfl) .none ⟨H82, h83, H84, h85, H86⟩ (fun _ => dv_add (a := (i : Int)) (b := (k : Int)) (z := ((i : Int)) + ((k : Int))) (T rfl rfl) (T rfl rfl) (wr_i64 (by omega) (by omega))) ?_
         refine aw_pure 19 (.pointer (some ⟨b28, (((i) + (k))), none⟩)) rfl (by kernel_rfl) .none ⟨H82, h83, H84, h85, H86⟩ (fun _ => dv_indexO (g := b28) (l := ((la) + (lb))) (c := ((la) + (lb))) (i := ((i) + (k))) (j := ((i : Int)) + ((k : Int))) us63 sz95 (T rfl rfl) (T rfl rfl) (by omega) (by first | omega | (simp; done) | (simp; omega))) ?_
         refine aw_load 20 (.int .u32 (M.getD (((i) + (k))) 0)) rfl (by kernel_rfl) .none ⟨H82, h83, H84, h85, H86⟩ (fun _ s => dv_loadW (L := M) (v := M.getD (((i) + (k))) 0) agt95 (T rfl rfl) s.2.2.2.2 (by first | omega | (simp; done) | (simp; omega)) rfl) ?_
         refine aw_pure 21 (.int .u64 (M.getD (((i) + (k))) 0)) rfl (by kernel_rfl) .none ⟨H82, h83, H84, h85, H86⟩ (fun _ => dv_conv (a := M.getD (((i) + (k))) 0) (z := M.getD (((i) + (k))) 0) ui95 ui24 (T rfl rfl) (wn_u64 (by omega) (by omega))) ?_
         refine aw_pure 22 (.int .u64 ((cy + ((xs.getD i 0) * (ys.getD k 0))) + (M.getD (((i) + (k))) 0))) rfl (by kernel_rfl) .none ⟨H82, h83, H84, h85, H86⟩ (fun _ => dv_add (a := cy + ((xs.getD i 0) * (ys.getD k 0))) (b := M.getD (((i) + (k))) 0) (z := (cy + ((xs.getD i 0) * (ys.getD k 0))) + (M.getD (((i) + (k))) 0)) (T rfl rfl) (T rfl rfl) (wn_u64 (by omega) (by omega))) ?_
         refine aw_last 23 (.int .u64 ((cy + ((xs.getD i 0) * (ys.getD k 0))) + (M.getD (((i) + (k))) 0))) rfl (by kernel_rfl) .none (fun _ => dv_assign (T rfl rfl)) ?_
         refine aw_done (by kernel_rfl) ?_
         refine rk_seq ?_
         refine rk_reg ?_
         refine lw_v (.slice (some ⟨b28, 0, none⟩) (((la) + (lb))) (((la) + (lb)))) (dv_move (T rfl f61)) ?_
         refine lw_v (.int .i64 ((i : Int))) (dv_move (T rfl f62)) ?_
         refine lw_v (.int .i64 ((k : Int))) (dv_move (T rfl f64)) ?_
         refine lw_v (.int .i64 (((i : Int)) + ((k : Int)))) (dv_add (a := (i : Int)) (b := (k : Int)) (z := ((i : Int)) + ((k : Int))) (T rfl rfl) (T rfl rfl) (wr_i64 (by omega) (by omega))) ?_
         refine lw_v (.int .u64 ((cy + ((xs.getD i 0) * (ys.getD k 0))) + (M.getD (((i) + (k))) 0))) (dv_move (T rfl rfl)) ?_
         refine lw_v (.int .u32 (((cy + ((xs.getD i 0) * (ys.getD k 0))) + (M.getD (((i) + (k))) 0)) % 4294967296)) (dv_conv (a := (cy + ((xs.getD i 0) * (ys.getD k 0))) + (M.getD (((i) + (k))) 0)) (z := ((cy + ((xs.getD i 0) * (ys.getD k 0))) + (M.getD (((i) + (k))) 0)) % 4294967296) ui24 ui95 (T rfl rfl) (wr_u32 _)) ?_
         refine lw_v (.pointer (some ⟨b28, (((i) + (k))), none⟩)) (dv_indexO (g := b28) (l := ((la) + (lb))) (c := ((la) + (lb))) (i := ((i) + (k))) (j := ((i : Int)) + ((k : Int))) us63 sz95 (T rfl rfl) (T rfl rfl) (by omega) (by first | omega | (simp; done) | (simp; omega))) ?_
         refine lw_e (oe_storeW (L := M) (i := ((i) + (k))) (z := ((cy + ((xs.getD i 0) * (ys.getD k 0))) + (M.getD (((i) + (k))) 0)) % 4294967296) sz95 (T rfl rfl) (T rfl rfl) H86 (by first | omega | (simp; done) | (simp; omega)) ?_)
         intro w92 s93 H94
         have E95 := below_st E81 N31 s93
         refine lw_nil ?_
         refine rk_reg ?_
         refine lw_v (.int .u64 ((cy + ((xs.getD i 0) * (ys.getD k 0))) + (M.getD (((i) + (k))) 0))) (dv_move (T rfl rfl)) ?_
         refine lw_v (.int .u64 (((cy + ((xs.getD i 0) * (ys.getD k 0))) + (M.getD (((i) + (k))) 0)) / 4294967296)) (dv_shr (a := (cy + ((xs.getD i 0) * (ys.getD k 0))) + (M.getD (((i) + (k))) 0)) (b := 32) (z := ((cy + ((xs.getD i 0) * (ys.getD k 0))) + (M.getD (((i) + (k))) 0)) / 4294967296) (T rfl rfl) C (by decide) (shr_c (n := 32) (by omega) (by decide))) ?_
         refine lw_v (.int .u64 (((cy + ((xs.getD i 0) * (ys.getD k 0))) + (M.getD (((i) + (k))) 0)) / 4294967296)) (dv_assign (T rfl rfl)) ?_
         refine lw_nil ?_
         refine rk_inBlock ?_
         refine rk_reg ?_
         refine lw_v (.int .i64 ((k : Int))) (dv_move (T rfl f64)) ?_
         refine lw_v (.int .i64 (((k : Int)) + 1)) (dv_add (a := (k : Int)) (b := 1) (z := ((k : Int)) + 1) (T rfl rfl) C (wr_i64 (by omega) (by omega))) ?_
         refine lw_v (.int .i64 (((k : Int)) + 1)) (dv_assign (T rfl rfl)) ?_
         refine lw_nil ?_
         have H96 := (s93.blk H82 (by omega))
         have H97 := (s93.blk H84 (by omega))
         have H98 := (s93.blk (d80.ext.blk H73) (by omega))
         exact ih55 (ys.length - ((k + 1))) _ _ (by rw [hd75]; omega) ⟨(k + 1), (M.set (((i) + (k))) (((cy + ((xs.getD i 0) * (ys.getD k 0))) + (M.getD (((i) + (k))) 0)) % 4294967296)), (((cy + ((xs.getD i 0) * (ys.getD k 0))) + (M.getD (((i) + (k))) 0)) / 4294967296), rfl, f58, f59, f60, f61, f62, rfl, (vi (by omega)), f65, f66, f67, f68, f69, E95, H96, H97, H98, H94, (by omega), (by simp; omega), (okW.set hok2 (by omega) (by omega) _), (by omega), (mul_step (by omega) hM rfl rfl (by omega)), (zero_set hM0 (by omega))⟩
       · refine rk_cf (T rfl (congrArg Value.bool (decide_eq_false hb76))) ?_
         refine rk_exit rfl ?_
         refine rk_reg ?_
         refine lw_v (.slice (some ⟨b28, 0, none⟩) (((la) + (lb))) (((la) + (lb)))) (dv_move (T rfl f61)) ?_
         refine lw_v (.int .i64 ((i : Int))) (dv_move (T rfl f62)) ?_
         refine lw_v (.pointer (some ⟨b6, 1, none⟩)) (dv_fieldAddr (a := ⟨b6, 0, none⟩) (a' := ⟨b6, 1, none⟩) fo65_1 (T rfl f59) rfl) ?_
         refine lw_v (.slice Ab lb cb) (dv_load1 (b := b6) (o := 1) agt63 (T rfl rfl) H72 rfl) ?_
         refine lw_v (.int .i64 ((lb : Int))) (dv_len (ad := Ab) (l := lb) (c := cb) us63 (T rfl rfl)) ?_
         refine lw_v (.int .i64 (((i : Int)) + ((lb : Int)))) (dv_add (a := (i : Int)) (b := (lb : Int)) (z := ((i : Int)) + ((lb : Int))) (T rfl rfl) (T rfl rfl) (wr_i64 (by omega) (by omega))) ?_
         refine lw_v (.int .u64 cy) (dv_move (T rfl f63)) ?_
         refine lw_v (.int .u32 ((cy) % 4294967296)) (dv_conv (a := cy) (z := (cy) % 4294967296) ui24 ui95 (T rfl rfl) (wr_u32 _)) ?_
         refine lw_v (.pointer (some ⟨b28, (((i) + (lb))), none⟩)) (dv_indexO (g := b28) (l := ((la) + (lb))) (c := ((la) + (lb))) (i := ((i) + (lb))) (j := ((i : Int)) + ((lb : Int))) us63 sz95 (T rfl rfl) (T rfl rfl) (by omega) (by first | omega | (simp; done) | (simp; omega))) ?_
         refine lw_e (oe_storeW (L := M) (i := ((i) + (lb))) (z := (cy) % 4294967296) sz95 (T rfl rfl) (T rfl rfl) H74 (by first | omega | (simp; done) | (simp; omega)) ?_)
         intro w99 s100 H101
         have E102 := below_st E70 N31 s100
         refine lw_nil ?_
         refine rk_inBlock ?_
         refine rk_reg ?_
         refine lw_v (.int .i64 ((i : Int))) (dv_move (T rfl f62)) ?_
         refine lw_v (.int .i64 (((i : Int)) + 1)) (dv_add (a := (i : Int)) (b := 1) (z := ((i : Int)) + 1) (T rfl rfl) C (wr_i64 (by omega) (by omega))) ?_
         refine lw_v (.int .i64 (((i : Int)) + 1)) (dv_assign (T rfl rfl)) ?_
         refine lw_nil ?_
         have H103 := (s100.blk H71 (by omega))
         have H104 := (s100.blk H72 (by omega))
         have H105 := (s100.blk H73 (by omega))
         exact ih38 (xs.length - ((i + 1))) _ _ (by rw [hd51]; omega) ⟨(i + 1), (M.set (((i) + (lb))) ((cy) % 4294967296)), rfl, f58, f59, f60, f61, (vi (by omega)), E102, H103, H104, H105, H101, (by omega), (by simp; omega), (okW.set hok2 (by omega) (by omega) _), (by have hk : k = ys.length := (by omega); subst hk; rw [← hyl]; rw [Int.emod_eq_of_lt hcy.1 hcy.2]; exact mul_last (by omega) (hM0 _ (by omega)) hM), (by rw [← hyl]; intro q hq; exact zero_set1 hM0 q (by omega))⟩
     · refine rk_cf (T rfl (congrArg Value.bool (decide_eq_false hb52))) ?_
       refine rk_exit rfl ?_
       refine rk_seq ?_
       refine rk_reg ?_
       refine lw_v (.pointer (some ⟨b1, 0, none⟩)) (dv_fieldAddr (a := ⟨b1, 0, none⟩) (a' := ⟨b1, 0, none⟩) fo65_0 (T rfl f41) rfl) ?_
       refine lw_v (.bool na) (dv_load1 (b := b1) (o := 0) agt4 (T rfl rfl) H47 rfl) ?_
       refine lw_v (.pointer (some ⟨b6, 0, none⟩)) (dv_fieldAddr (a := ⟨b6, 0, none⟩) (a' := ⟨b6, 0, none⟩) fo65_0 (T rfl f42) rfl) ?_
       refine lw_v (.bool nb) (dv_load1 (b := b6) (o := 0) agt4 (T rfl rfl) H48 rfl) ?_
       refine lw_v (.bool (na != nb)) (dv_neqb (a := na) (b := nb) ub4 (T rfl rfl) (T rfl rfl)) ?_
       refine lw_v (.slice (some ⟨b28, 0, none⟩) (((la) + (lb))) (((la) + (lb)))) (dv_move (T rfl f44)) ?_
       refine lw_e (oe_callf (vs := [.bool (na != nb), .slice (some ⟨b28, 0, none⟩) (((la) + (lb))) (((la) + (lb)))]) co75 (ar2 (T rfl rfl) (T rfl rfl)) (l1Trim_num (s := (32 * (((la) + (lb))))) (neg := na != nb) (⟨L, (by first | (simp; done) | (simp; omega) | omega), (by first | (simp; done) | (simp; omega) | omega), Wd.ownW H50, hok, rfl⟩ : Ws _ _ _ _ _ _ _ _) (by first | omega | (simp; done) | (simp; omega)) (valB_sz hok (by first | (simp; done) | (simp; omega) | omega))) ?_)
       rintro _ w111 ⟨nb106, A107, n108, c109, rfl, e112, hn110⟩
       have E113 := below_ext E46 E46.size e112
       have lhn110 := Num.len (by decide) hn110
       have H114 := (e112.blk H49)
       refine lw_e (oe_store (v := .agg #[.bool nb106, .slice A107 n108 c109]) (vs := [.bool nb106, .slice A107 n108 c109]) (l := [.bool nb106, .slice A107 n108 c109]) (T rfl f43) (T rfl rfl) sz65 rfl rfl rfl H114 rfl ?_)
       intro w115 s116 H117
       have E118 := below_st E113 N14 s116
       refine lw_nil ?_
       refine rk_ret Try.func78 (v := .agg #[.bool nb106, .slice A107 n108 c109]) (res1 Try.results78 (rv_cells (l := [.bool nb106, .slice A107 n108 c109]) agt65 sz65 rfl f43 H117 rfl)) ⟨_, rfl, ?_⟩
       have h119 := (hn110.st s116 H114 (by decide))
       exact ⟨_, _, _, _, rfl, E118, h119.tight (by rw [hv, List.take_of_length_le (by omega), ← hxv, ← hyv]; exact sg_mul ha.neg_iff hb.neg_iff) (by rw [Int.natAbs_mul]; exact nat_mul_sz ha.lt hb.lt)⟩
end Go.Proofs.Ytfmkadgjoechnaa.W
set_option linter.unusedVariables false
set_option linter.unusedSimpArgs false
namespace Go.Proofs.Ytfmkadgjoechnaa.W
open Go Go.RowKit Go.Proofs.Ytfmkadgjoechnaa.Fw
attribute [local irreducible] RunK LW AW DV OE Ct
theorem lzS_ok {w : World} {x : Int} (h0 : 0 < x) (h1 : x < 18446744073709551616) : Ct Try.prog 102 [.int .u64 x] w fun v w1 => ∃ S : Nat, v = .int .i64 (S : Int) ∧ Ext w w1 ∧ S ≤ 63 ∧ 9223372036854775808 ≤ x * 2 ^ S ∧ x * 2 ^ S < 18446744073709551616 := by
 obtain ⟨S, hS, h2, h3, h4⟩ := norm_word h0 h1
 exact (lz_ok (w := w) ⟨by omega, h1⟩).mono fun v w1 ⟨hv, he⟩ => ⟨S, by rw [hv, hS], he, h2, h3, h4⟩
set_option maxHeartbeats 1000000 in
theorem div64_ok {w : World} {hi lo y : Int} (hhi : 0 ≤ hi) (hlt : hi < y) (hyl : y < 18446744073709551616) (hlo : 0 ≤ lo ∧ lo < 18446744073709551616) : Ct Try.prog 111 [.int .u64 hi, .int .u64 lo, .int .u64 y] w fun v w1 => v = .tuple #[.int .u64 ((hi * 18446744073709551616 + lo) / y), .int .u64 ((hi * 18446744073709551616 + lo) % y)] ∧ Ext w w1 := by
 refine ct_run (n := 135) Try.func111 rfl Try.ntmps111 rfl ?_
 have E0 : Below w.heap.size w w := Below.refl _ _
 refine rk_seq ?_
 refine rk_reg ?_
 refine lw_v (.int .u64 0) (dv_assign C) ?_
 refine lw_v (.int .u64 0) (dv_assign C) ?_
 refine lw_nil ?_
 refine rk_seq ?_
 refine rk_seq ?_
 refine rk_reg ?_
 refine lw_v (.int .u64 y) (dv_move (T rfl rfl)) ?_
 refine lw_v (.bool (decide (y = 0))) (dv_eql (a := y) (b := 0) (T rfl rfl) C) ?_
 refine lw_nil ?_
 by_cases hb1 : y = 0
 · exfalso; omega
 · refine rk_cf (T rfl (congrArg Value.bool (decide_eq_false hb1))) ?_
   refine rk_skip ?_
   refine rk_seq ?_
   refine rk_seq ?_
   refine rk_reg ?_
   refine lw_v (.int .u64 y) (dv_move (T rfl rfl)) ?_
   refine lw_v (.int .u64 hi) (dv_move (T rfl rfl)) ?_
   refine lw_v (.bool (decide (y ≤ hi))) (dv_leq (a := y) (b := hi) (T rfl rfl) (T rfl rfl)) ?_
   refine lw_nil ?_
   by_cases hb2 : y ≤ hi
   · exfalso; omega
   · refine rk_cf (T rfl (congrArg Value.bool (decide_eq_false hb2))) ?_
     refine rk_skip ?_
     refine rk_seq ?_
     refine rk_seq ?_
     refine rk_reg ?_
     refine lw_v (.int .u64 hi) (dv_move (T rfl rfl)) ?_
     refine lw_v (.bool (decide (hi = 0))) (dv_eql (a := hi) (b := 0) (T rfl rfl) C) ?_
     refine lw_nil ?_
     by_cases hb3 : hi = 0
     · refine rk_ct (T rfl (congrArg Value.bool (decide_eq_true hb3))) ?_
       refine rk_seq ?_
       refine rk_any (fun _ => True) [7] mo ?_
       intro w4 d5
       have E6 := below_ext E0 E0.size d5.ext
       refine aw_pure 0 (.int .u64 lo) rfl (by kernel_rfl) .none trivial (fun _ => dv_move (T rfl rfl)) ?_
       refine aw_pure 1 (.int .u64 y) rfl (by kernel_rfl) .none trivial (fun _ => dv_move (T rfl rfl)) ?_
       have hq7 := ediv_rg (a := lo) (b := y) (by omega) (by omega)
       refine aw_pure 2 (.int .u64 (lo / y)) rfl (by kernel_rfl) .none trivial (fun _ => dv_quo (a := lo) (b := y) (z := lo / y) (T rfl rfl) (T rfl rfl) (by omega) (quo_c (by omega) (by omega) (wn_u64 (by omega) (by omega)))) ?_
       refine aw_pure 3 (.int .u64 lo) rfl (by kernel_rfl) .none trivial (fun _ => dv_move (T rfl rfl)) ?_
       refine aw_pure 4 (.int .u64 y) rfl (by kernel_rfl) .none trivial (fun _ => dv_move (T rfl rfl)) ?_
       refine aw_pure 5 (.int .u64 (lo % y)) rfl (by kernel_rfl) .none trivial (fun _ => dv_rem (a := lo) (b := y) (z := lo % y) (T rfl rfl) (T rfl rfl) (by omega) (rem_c (by omega) rfl)) ?_
       refine aw_pure 6 (.int .u64 (lo / y)) rfl (by kernel_rfl) .none trivial (fun _ => dv_assign (T rfl rfl)) ?_
       refine aw_last 7 (.int .u64 (lo % y)) rfl (by kernel_rfl) .none (fun _ => dv_assign (T rfl rfl)) ?_
       refine aw_done (by kernel_rfl) ?_
       refine rk_ret Try.func111 (v := .tuple #[.int .u64 (lo / y), .int .u64 (lo % y)]) (res2 Try.results111 (rv_tmp rfl rfl) (rv_tmp rfl rfl)) ⟨_, rfl, ?_⟩
       have h0 : hi = 0 := by omega
       subst h0
       exact ⟨tu2 (vi (by rw [Int.zero_mul, Int.zero_add])) (vi (by rw [Int.zero_mul, Int.zero_add])), E6⟩
     · refine rk_cf (T rfl (congrArg Value.bool (decide_eq_false hb3))) ?_
       refine rk_skip ?_
       refine rk_seq ?_
       refine rk_reg ?_
       refine lw_v (.int .u64 y) (dv_move (T rfl rfl)) ?_
       refine lw_e (oe_callf (vs := [.int .u64 y]) co102 (ar1 (T rfl rfl)) (lzS_ok (by omega) (by omega)) ?_)
       rintro _ w12 ⟨S8, rfl, e13, hs9, hs10, hs11⟩
       have E14 := below_ext E0 E0.size e13
       refine lw_v (.int .u64 ((S8 : Int))) (dv_conv (a := (S8 : Int)) (z := (S8 : Int)) ui3 ui97 (T rfl rfl) (wn_u64 (by omega) (by omega))) ?_
       refine lw_v (.int .u64 ((S8 : Int))) (dv_assign (T rfl rfl)) ?_
       refine lw_nil ?_
       refine rk_seq ?_
       refine rk_reg ?_
       refine lw_v (.int .u64 y) (dv_move (T rfl rfl)) ?_
       refine lw_v (.int .u64 ((S8 : Int))) (dv_move (T rfl rfl)) ?_
       refine lw_v (.int .u64 (y * 2 ^ S8)) (dv_shl (a := y) (b := (S8 : Int)) (z := y * 2 ^ S8) (T rfl rfl) (T rfl rfl) (by omega) (shl_w (K := S8) (by omega) (show _ ≤ 64 by omega) (wn_u64 (by omega) (by omega)))) ?_
       refine lw_v (.int .u64 (y * 2 ^ S8)) (dv_assign (T rfl rfl)) ?_
       refine lw_nil ?_
       refine rk_seq ?_
       obtain ⟨Y, ha15⟩ : ∃ q_ : Int, q_ = y * 2 ^ S8 := ⟨_, rfl⟩
       have hY : 9223372036854775808 ≤ Y ∧ Y < 18446744073709551616 := by rw [ha15]; exact ⟨hs10, hs11⟩
       have htop := shl_top (hi := hi) (y := y) (lo := lo) hs9 hhi hlt hs11 hlo.1 hlo.2
       refine rk_reg ?_
       refine lw_v (.int .u64 Y) (dv_move (T rfl (vi (ha15.symm)))) ?_
       refine lw_v (.int .u64 (Y / 4294967296)) (dv_shr (a := Y) (b := 32) (z := Y / 4294967296) (T rfl rfl) C (by decide) (shr_c (n := 32) (by omega) (by decide))) ?_
       refine lw_v (.int .u64 (Y / 4294967296)) (dv_assign (T rfl rfl)) ?_
       refine lw_nil ?_
       refine rk_seq ?_
       refine rk_reg ?_
       refine lw_v (.int .u64 Y) (dv_move (T rfl (vi (ha15.symm)))) ?_
       refine lw_v (.int .u64 (Y % 4294967296)) (dv_and (a := Y) (b := 4294967295) (z := Y % 4294967296) (T rfl rfl) C (and_mask (n := 32) (by omega) (by omega) (by decide))) ?_
       refine lw_v (.int .u64 (Y % 4294967296)) (dv_assign (T rfl rfl)) ?_
       refine lw_nil ?_
       refine rk_seq ?_
       refine rk_reg ?_
       refine lw_v (.int .u64 hi) (dv_move (T rfl rfl)) ?_
       refine lw_v (.int .u64 ((S8 : Int))) (dv_move (T rfl rfl)) ?_
       refine lw_v (.int .u64 (hi * 2 ^ S8)) (dv_shl (a := hi) (b := (S8 : Int)) (z := hi * 2 ^ S8) (T rfl rfl) (T rfl rfl) (by omega) (shl_w (K := S8) (by omega) (show _ ≤ 64 by omega) (wn_u64 (by omega) (by omega)))) ?_
       refine lw_v (.int .u64 lo) (dv_move (T rfl rfl)) ?_
       refine lw_v (.int .u64 ((S8 : Int))) (dv_move (T rfl rfl)) ?_
       refine lw_v (.int .u64 (64 - ((S8 : Int)))) (dv_sub (a := 64) (b := (S8 : Int)) (z := 64 - ((S8 : Int))) C (T rfl rfl) (wn_u64 (by omega) (by omega))) ?_
       refine lw_v (.int .u64 (lo / 2 ^ ((64 - (S8))))) (dv_shr (a := lo) (b := 64 - ((S8 : Int))) (z := lo / 2 ^ ((64 - (S8)))) (T rfl rfl) (T rfl rfl) (by omega) (shr_v (K := (64 - (S8))) (by omega) (show _ ≤ 64 by omega))) ?_
       refine lw_v (.int .u64 ((hi * 2 ^ S8) + (lo / 2 ^ ((64 - (S8)))))) (dv_or (a := hi * 2 ^ S8) (b := lo / 2 ^ ((64 - (S8)))) (z := (hi * 2 ^ S8) + (lo / 2 ^ ((64 - (S8))))) (T rfl rfl) (T rfl rfl) ((or_add (k := .u64) (a := lo / 2 ^ (64 - S8)) (b := hi * 2 ^ S8) (i := S8) rfl htop.1 htop.2.1 htop.2.2.1 (Int.mul_emod_left _ _) (lt64 (by omega)) (lt64 (by omega))).2.trans (Int.add_comm _ _))) ?_
       refine lw_v (.int .u64 ((hi * 2 ^ S8) + (lo / 2 ^ ((64 - (S8)))))) (dv_assign (T rfl rfl)) ?_
       refine lw_nil ?_
       refine rk_seq ?_
       obtain ⟨Uu, ha16⟩ : ∃ q_ : Int, q_ = hi * 2 ^ S8 + lo / 2 ^ (64 - S8) := ⟨_, rfl⟩
       have hUr : 0 ≤ Uu ∧ Uu < Y := by rw [ha16, ha15]; omega
       refine rk_reg ?_
       refine lw_v (.int .u64 lo) (dv_move (T rfl rfl)) ?_
       refine lw_v (.int .u64 ((S8 : Int))) (dv_move (T rfl rfl)) ?_
       refine lw_v (.int .u64 ((lo * 2 ^ S8) % 18446744073709551616)) (dv_shl (a := lo) (b := (S8 : Int)) (z := (lo * 2 ^ S8) % 18446744073709551616) (T rfl rfl) (T rfl rfl) (by omega) (shl_w (K := S8) (by omega) (show _ ≤ 64 by omega) (wr_u64 _))) ?_
       refine lw_v (.int .u64 ((lo * 2 ^ S8) % 18446744073709551616)) (dv_assign (T rfl rfl)) ?_
       refine lw_nil ?_
       refine rk_seq ?_
       obtain ⟨un, ha17⟩ : ∃ q_ : Int, q_ = lo * 2 ^ S8 % 18446744073709551616 := ⟨_, rfl⟩
       have hun : 0 ≤ un ∧ un < 18446744073709551616 := by rw [ha17]; exact ⟨Int.emod_nonneg _ (by decide), Int.emod_lt_of_pos _ (by decide)⟩
       have hN : (Uu * 4294967296 + un / 4294967296) * 4294967296 + un % 4294967296 = (hi * 18446744073709551616 + lo) * 2 ^ S8 := by
        have h1 := shl_split (x := lo) (S := S8) (by omega)
        rw [← ha17] at h1
        have h2 : (hi * 18446744073709551616 + lo) * 2 ^ S8 = (hi * 2 ^ S8) * 18446744073709551616 + lo * 2 ^ S8 := by grind
        rw [h2, ← h1, ha16]; omega
       have hg := half_guess (U := Uu) (u := un / 4294967296) (Y := Y) hY.1 hY.2 hUr.1 hUr.2 (by omega) (by omega)
       refine rk_reg ?_
       refine lw_v (.int .u64 un) (dv_move (T rfl (vi (ha17.symm)))) ?_
       refine lw_v (.int .u64 (un / 4294967296)) (dv_shr (a := un) (b := 32) (z := un / 4294967296) (T rfl rfl) C (by decide) (shr_c (n := 32) (by omega) (by decide))) ?_
       refine lw_v (.int .u64 (un / 4294967296)) (dv_assign (T rfl rfl)) ?_
       refine lw_nil ?_
       refine rk_seq ?_
       refine rk_reg ?_
       refine lw_v (.int .u64 un) (dv_move (T rfl (vi (ha17.symm)))) ?_
       refine lw_v (.int .u64 (un % 4294967296)) (dv_and (a := un) (b := 4294967295) (z := un % 4294967296) (T rfl rfl) C (and_mask (n := 32) (by omega) (by omega) (by decide))) ?_
       refine lw_v (.int .u64 (un % 4294967296)) (dv_assign (T rfl rfl)) ?_
       refine lw_nil ?_
       refine rk_seq ?_
       refine rk_reg ?_
       refine lw_v (.int .u64 Uu) (dv_move (T rfl (vi (ha16.symm)))) ?_
       refine lw_v (.int .u64 (Y / 4294967296)) (dv_move (T rfl rfl)) ?_
       have hq18 := ediv_rg (a := Uu) (b := Y / 4294967296) (by omega) (by omega)
       refine lw_v (.int .u64 (Uu / (Y / 4294967296))) (dv_quo (a := Uu) (b := Y / 4294967296) (z := Uu / (Y / 4294967296)) (T rfl rfl) (T rfl rfl) (by omega) (quo_c (by omega) (by omega) (wn_u64 (by omega) (by omega)))) ?_
       refine lw_v (.int .u64 (Uu / (Y / 4294967296))) (dv_assign (T rfl rfl)) ?_
       refine lw_nil ?_
       refine rk_seq ?_
       refine rk_reg ?_
       refine lw_v (.int .u64 Uu) (dv_move (T rfl (vi (ha16.symm)))) ?_
       refine lw_v (.int .u64 (Uu / (Y / 4294967296))) (dv_move (T rfl rfl)) ?_
       refine lw_v (.int .u64 (Y / 4294967296)) (dv_move (T rfl rfl)) ?_
       refine lw_v (.int .u64 ((Uu / (Y / 4294967296)) * (Y / 4294967296))) (dv_mul (a := Uu / (Y / 4294967296)) (b := Y / 4294967296) (z := (Uu / (Y / 4294967296)) * (Y / 4294967296)) (T rfl rfl) (T rfl rfl) (wn_u64 (by omega) (by omega))) ?_
       refine lw_v (.int .u64 (Uu - ((Uu / (Y / 4294967296)) * (Y / 4294967296)))) (dv_sub (a := Uu) (b := (Uu / (Y / 4294967296)) * (Y / 4294967296)) (z := Uu - ((Uu / (Y / 4294967296)) * (Y / 4294967296))) (T rfl rfl) (T rfl rfl) (wn_u64 (by omega) (by omega))) ?_
       refine lw_v (.int .u64 (Uu - ((Uu / (Y / 4294967296)) * (Y / 4294967296)))) (dv_assign (T rfl rfl)) ?_
       refine lw_nil ?_
       refine rk_seq ?_
       refine rk_join (fun fr wl => ∃ (qa : Int), fr 2 = .int .u64 Y ∧ fr 6 = .int .u64 0 ∧ fr 7 = .int .u64 0 ∧ fr 8 = .int .u64 ((S8 : Int)) ∧ fr 9 = .int .u64 (Y / 4294967296) ∧ fr 10 = .int .u64 (Y % 4294967296) ∧ fr 11 = .int .u64 Uu ∧ fr 13 = .int .u64 (un / 4294967296) ∧ fr 14 = .int .u64 (un % 4294967296) ∧ fr 15 = .int .u64 qa ∧ Below w.heap.size w wl ∧ (qa * Y ≤ Uu * 4294967296 + un / 4294967296) ∧ (Uu * 4294967296 + un / 4294967296 < (qa + 1) * Y) ∧ (0 ≤ qa)) ?_ (fun hj21 => ?_)
       · intro fr22 w19 hI20
         obtain ⟨qa, f23, f24, f25, f26, f27, f28, f29, f30, f31, f32, E33, haqa, hbqa, h0qa⟩ := hI20
         refine rk_seq ?_
         have hlt1 := half_lt haqa hUr.2 (by omega) (by omega)
         have heq1 : (qa + 1) * Y = qa * Y + Y := by grind
         refine rk_reg ?_
         refine lw_v (.int .u64 Uu) (dv_move (T rfl f29)) ?_
         refine lw_v (.int .u64 ((Uu * 4294967296) % 18446744073709551616)) (dv_mul (a := Uu) (b := 4294967296) (z := (Uu * 4294967296) % 18446744073709551616) (T rfl rfl) C (wr_u64 _)) ?_
         refine lw_v (.int .u64 (un / 4294967296)) (dv_move (T rfl f30)) ?_
         refine lw_v (.int .u64 ((((Uu * 4294967296) % 18446744073709551616) + (un / 4294967296)) % 18446744073709551616)) (dv_add (a := (Uu * 4294967296) % 18446744073709551616) (b := un / 4294967296) (z := (((Uu * 4294967296) % 18446744073709551616) + (un / 4294967296)) % 18446744073709551616) (T rfl rfl) (T rfl rfl) (wr_u64 _)) ?_
         refine lw_v (.int .u64 qa) (dv_move (T rfl f32)) ?_
         refine lw_v (.int .u64 Y) (dv_move (T rfl f23)) ?_
         refine lw_v (.int .u64 ((qa * Y) % 18446744073709551616)) (dv_mul (a := qa) (b := Y) (z := (qa * Y) % 18446744073709551616) (T rfl rfl) (T rfl rfl) (wr_u64 _)) ?_
         refine lw_v (.int .u64 ((((((Uu * 4294967296) % 18446744073709551616) + (un / 4294967296)) % 18446744073709551616) - ((qa * Y) % 18446744073709551616)) % 18446744073709551616)) (dv_sub (a := (((Uu * 4294967296) % 18446744073709551616) + (un / 4294967296)) % 18446744073709551616) (b := (qa * Y) % 18446744073709551616) (z := (((((Uu * 4294967296) % 18446744073709551616) + (un / 4294967296)) % 18446744073709551616) - ((qa * Y) % 18446744073709551616)) % 18446744073709551616) (T rfl rfl) (T rfl rfl) (wr_u64 _)) ?_
         refine lw_v (.int .u64 ((((((Uu * 4294967296) % 18446744073709551616) + (un / 4294967296)) % 18446744073709551616) - ((qa * Y) % 18446744073709551616)) % 18446744073709551616)) (dv_assign (T rfl rfl)) ?_
         refine lw_nil ?_
         refine rk_seq ?_
         have hVe : (((((Uu * 4294967296) % 18446744073709551616) + (un / 4294967296)) % 18446744073709551616) - ((qa * Y) % 18446744073709551616)) % 18446744073709551616 = Uu * 4294967296 + un / 4294967296 - qa * Y := by omega
         obtain ⟨V, ha34⟩ : ∃ q_ : Int, q_ = Uu * 4294967296 + un / 4294967296 - qa * Y := ⟨_, rfl⟩
         have hVr : 0 ≤ V ∧ V < Y := by omega
         have hg0 := half_guess (U := V) (u := un % 4294967296) (Y := Y) hY.1 hY.2 hVr.1 hVr.2 (by omega) (by omega)
         refine rk_reg ?_
         refine lw_v (.int .u64 V) (dv_move (T rfl (vi ((hVe).trans ha34.symm)))) ?_
         refine lw_v (.int .u64 (Y / 4294967296)) (dv_move (T rfl f27)) ?_
         have hq35 := ediv_rg (a := V) (b := Y / 4294967296) (by omega) (by omega)
         refine lw_v (.int .u64 (V / (Y / 4294967296))) (dv_quo (a := V) (b := Y / 4294967296) (z := V / (Y / 4294967296)) (T rfl rfl) (T rfl rfl) (by omega) (quo_c (by omega) (by omega) (wn_u64 (by omega) (by omega)))) ?_
         refine lw_v (.int .u64 (V / (Y / 4294967296))) (dv_assign (T rfl rfl)) ?_
         refine lw_nil ?_
         refine rk_seq ?_
         refine rk_reg ?_
         refine lw_v (.int .u64 V) (dv_move (T rfl (vi ((hVe).trans ha34.symm)))) ?_
         refine lw_v (.int .u64 (V / (Y / 4294967296))) (dv_move (T rfl rfl)) ?_
         refine lw_v (.int .u64 (Y / 4294967296)) (dv_move (T rfl f27)) ?_
         refine lw_v (.int .u64 ((V / (Y / 4294967296)) * (Y / 4294967296))) (dv_mul (a := V / (Y / 4294967296)) (b := Y / 4294967296) (z := (V / (Y / 4294967296)) * (Y / 4294967296)) (T rfl rfl) (T rfl rfl) (wn_u64 (by omega) (by omega))) ?_
         refine lw_v (.int .u64 (V - ((V / (Y / 4294967296)) * (Y / 4294967296)))) (dv_sub (a := V) (b := (V / (Y / 4294967296)) * (Y / 4294967296)) (z := V - ((V / (Y / 4294967296)) * (Y / 4294967296))) (T rfl rfl) (T rfl rfl) (wn_u64 (by omega) (by omega))) ?_
         refine lw_v (.int .u64 (V - ((V / (Y / 4294967296)) * (Y / 4294967296)))) (dv_assign (T rfl rfl)) ?_
         refine lw_nil ?_
         refine rk_seq ?_
         refine rk_join (fun fr wl => ∃ (qb : Int), fr 2 = .int .u64 Y ∧ fr 6 = .int .u64 0 ∧ fr 7 = .int .u64 0 ∧ fr 8 = .int .u64 ((S8 : Int)) ∧ fr 14 = .int .u64 (un % 4294967296) ∧ fr 15 = .int .u64 qa ∧ fr 17 = .int .u64 V ∧ fr 18 = .int .u64 qb ∧ Below w.heap.size w wl ∧ (qb * Y ≤ V * 4294967296 + un % 4294967296) ∧ (V * 4294967296 + un % 4294967296 < (qb + 1) * Y) ∧ (0 ≤ qb)) ?_ (fun hj38 => ?_)
         · intro fr39 w36 hI37
           obtain ⟨qb, f40, f41, f42, f43, f44, f45, f46, f47, E48, haqb, hbqb, h0qb⟩ := hI37
           refine rk_seq ?_
           have hlt2 := half_lt haqb hVr.2 (by omega) (by omega)
           have heq2 : (qb + 1) * Y = qb * Y + Y := by grind
           have ht := two_halves (hi := hi) (lo := lo) (y := y) (p := 2 ^ S8) (N := 0) (U := Uu) (u1 := un / 4294967296) (u0 := un % 4294967296) (q1 := qa) (q0 := qb) (two_pos S8) (by omega) hN (by rw [← ha15]; exact haqa) (by rw [← ha15]; exact hbqa) (by rw [← ha15, ← ha34]; exact haqb) (by rw [← ha15, ← ha34]; exact hbqb) rfl
           rw [← ha15, ← ha34] at ht
           refine rk_reg ?_
           refine lw_v (.int .u64 qa) (dv_move (T rfl f45)) ?_
           refine lw_v (.int .u64 ((qa * 4294967296) % 18446744073709551616)) (dv_mul (a := qa) (b := 4294967296) (z := (qa * 4294967296) % 18446744073709551616) (T rfl rfl) C (wr_u64 _)) ?_
           refine lw_v (.int .u64 qb) (dv_move (T rfl f47)) ?_
           refine lw_v (.int .u64 ((((qa * 4294967296) % 18446744073709551616) + qb) % 18446744073709551616)) (dv_add (a := (qa * 4294967296) % 18446744073709551616) (b := qb) (z := (((qa * 4294967296) % 18446744073709551616) + qb) % 18446744073709551616) (T rfl rfl) (T rfl rfl) (wr_u64 _)) ?_
           refine lw_v (.int .u64 V) (dv_move (T rfl f46)) ?_
           refine lw_v (.int .u64 ((V * 4294967296) % 18446744073709551616)) (dv_mul (a := V) (b := 4294967296) (z := (V * 4294967296) % 18446744073709551616) (T rfl rfl) C (wr_u64 _)) ?_
           refine lw_v (.int .u64 (un % 4294967296)) (dv_move (T rfl f44)) ?_
           refine lw_v (.int .u64 ((((V * 4294967296) % 18446744073709551616) + (un % 4294967296)) % 18446744073709551616)) (dv_add (a := (V * 4294967296) % 18446744073709551616) (b := un % 4294967296) (z := (((V * 4294967296) % 18446744073709551616) + (un % 4294967296)) % 18446744073709551616) (T rfl rfl) (T rfl rfl) (wr_u64 _)) ?_
           refine lw_v (.int .u64 qb) (dv_move (T rfl f47)) ?_
           refine lw_v (.int .u64 Y) (dv_move (T rfl f40)) ?_
           refine lw_v (.int .u64 ((qb * Y) % 18446744073709551616)) (dv_mul (a := qb) (b := Y) (z := (qb * Y) % 18446744073709551616) (T rfl rfl) (T rfl rfl) (wr_u64 _)) ?_
           refine lw_v (.int .u64 ((((((V * 4294967296) % 18446744073709551616) + (un % 4294967296)) % 18446744073709551616) - ((qb * Y) % 18446744073709551616)) % 18446744073709551616)) (dv_sub (a := (((V * 4294967296) % 18446744073709551616) + (un % 4294967296)) % 18446744073709551616) (b := (qb * Y) % 18446744073709551616) (z := (((((V * 4294967296) % 18446744073709551616) + (un % 4294967296)) % 18446744073709551616) - ((qb * Y) % 18446744073709551616)) % 18446744073709551616) (T rfl rfl) (T rfl rfl) (wr_u64 _)) ?_
           refine lw_v (.int .u64 ((S8 : Int))) (dv_move (T rfl f43)) ?_
           refine lw_v (.int .u64 (((((((V * 4294967296) % 18446744073709551616) + (un % 4294967296)) % 18446744073709551616) - ((qb * Y) % 18446744073709551616)) % 18446744073709551616) / 2 ^ S8)) (dv_shr (a := (((((V * 4294967296) % 18446744073709551616) + (un % 4294967296)) % 18446744073709551616) - ((qb * Y) % 18446744073709551616)) % 18446744073709551616) (b := (S8 : Int)) (z := ((((((V * 4294967296) % 18446744073709551616) + (un % 4294967296)) % 18446744073709551616) - ((qb * Y) % 18446744073709551616)) % 18446744073709551616) / 2 ^ S8) (T rfl rfl) (T rfl rfl) (by omega) (shr_v (K := S8) (by omega) (show _ ≤ 64 by omega))) ?_
           refine lw_v (.int .u64 ((((qa * 4294967296) % 18446744073709551616) + qb) % 18446744073709551616)) (dv_assign (T rfl rfl)) ?_
           refine lw_v (.int .u64 (((((((V * 4294967296) % 18446744073709551616) + (un % 4294967296)) % 18446744073709551616) - ((qb * Y) % 18446744073709551616)) % 18446744073709551616) / 2 ^ S8)) (dv_assign (T rfl rfl)) ?_
           refine lw_nil ?_
           refine rk_ret Try.func111 (v := .tuple #[.int .u64 ((((qa * 4294967296) % 18446744073709551616) + qb) % 18446744073709551616), .int .u64 (((((((V * 4294967296) % 18446744073709551616) + (un % 4294967296)) % 18446744073709551616) - ((qb * Y) % 18446744073709551616)) % 18446744073709551616) / 2 ^ S8)]) (res2 Try.results111 (rv_tmp rfl rfl) (rv_tmp rfl rfl)) ⟨_, rfl, ?_⟩
           have hR : (((((V * 4294967296) % 18446744073709551616) + (un % 4294967296)) % 18446744073709551616) - ((qb * Y) % 18446744073709551616)) % 18446744073709551616 = V * 4294967296 + un % 4294967296 - qb * Y := by omega
           exact ⟨tu2 (vi (by rw [← ht.1]; omega)) (vi (by rw [hR]; exact ht.2)), E48⟩
         · refine rk_block ?_
           refine rk_loop (fun dm_ fr wl => ∃ (q r : Int), dm_ = q.toNat ∧ fr 2 = .int .u64 Y ∧ fr 6 = .int .u64 0 ∧ fr 7 = .int .u64 0 ∧ fr 8 = .int .u64 ((S8 : Int)) ∧ fr 9 = .int .u64 (Y / 4294967296) ∧ fr 10 = .int .u64 (Y % 4294967296) ∧ fr 14 = .int .u64 (un % 4294967296) ∧ fr 15 = .int .u64 qa ∧ fr 16 = .int .u64 r ∧ fr 17 = .int .u64 V ∧ fr 18 = .int .u64 q ∧ Below w.heap.size w wl ∧ (q * (Y / 4294967296) + r = V) ∧ (0 ≤ q ∧ q ≤ 4294967297) ∧ (0 ≤ r ∧ r < 4294967296) ∧ (V * 4294967296 + un % 4294967296 < (q + 1) * Y)) ((V / (Y / 4294967296)).toNat) ⟨V / (Y / 4294967296), V - ((V / (Y / 4294967296)) * (Y / 4294967296)), rfl, f23, f24, f25, f26, f27, f28, f31, f32, rfl, (vi ((hVe).trans ha34.symm)), rfl, E33, (by omega), ⟨by omega, by omega⟩, ⟨by omega, by omega⟩, hg0.2.2.2.2⟩ ?_
           intro d53 fr52 w49 hI50 ih51
           obtain ⟨q, r, hd66, f54, f55, f56, f57, f58, f59, f60, f61, f62, f63, f64, E65, hq, hq0, hr, hNq⟩ := hI50
           have hql : 4294967296 ≤ q ∨ r * 4294967296 + un % 4294967296 < q * (Y % 4294967296) → 1 ≤ q := fun h => by
            rcases h with h | h
            · omega
            · exact pos_of_mul hq0.1 (by omega) (by omega) h
           refine rk_seq ?_
           refine rk_seq ?_
           refine rk_reg ?_
           refine lw_v (.int .u64 q) (dv_move (T rfl f64)) ?_
           refine lw_v (.bool (decide (4294967296 ≤ q))) (dv_geq (a := q) (b := 4294967296) (T rfl rfl) C) ?_
           refine lw_v (.bool (decide (4294967296 ≤ q))) (dv_move (T rfl rfl)) ?_
           by_cases hb67 : 4294967296 ≤ q
           · refine lw_no (d := 104) rfl rfl (congrArg Value.bool (decide_eq_true hb67)) ?_
             refine lw_no (d := 104) rfl rfl (congrArg Value.bool (decide_eq_true hb67)) ?_
             refine lw_no (d := 104) rfl rfl (congrArg Value.bool (decide_eq_true hb67)) ?_
             refine lw_no (d := 104) rfl rfl (congrArg Value.bool (decide_eq_true hb67)) ?_
             refine lw_no (d := 104) rfl rfl (congrArg Value.bool (decide_eq_true hb67)) ?_
             refine lw_no (d := 104) rfl rfl (congrArg Value.bool (decide_eq_true hb67)) ?_
             refine lw_no (d := 104) rfl rfl (congrArg Value.bool (decide_eq_true hb67)) ?_
             refine lw_no (d := 104) rfl rfl (congrArg Value.bool (decide_eq_true hb67)) ?_
             refine lw_v (.bool true) (dv_pick_t (T rfl (congrArg Value.bool (decide_eq_true hb67))) C) ?_
             refine lw_nil ?_
             refine rk_ct (T rfl rfl) ?_
             refine rk_skip ?_
             refine rk_block ?_
             refine rk_seq ?_
             refine rk_reg ?_
             refine lw_v (.int .u64 q) (dv_move (T rfl f64)) ?_
             refine lw_v (.int .u64 (q - 1)) (dv_sub (a := q) (b := 1) (z := q - 1) (T rfl rfl) C (wn_u64 (by omega) (by omega))) ?_
             refine lw_v (.int .u64 (q - 1)) (dv_assign (T rfl rfl)) ?_
             refine lw_nil ?_
             refine rk_seq ?_
             refine rk_reg ?_
             refine lw_v (.int .u64 r) (dv_move (T rfl f62)) ?_
             refine lw_v (.int .u64 (Y / 4294967296)) (dv_move (T rfl f58)) ?_
             refine lw_v (.int .u64 (r + (Y / 4294967296))) (dv_add (a := r) (b := Y / 4294967296) (z := r + (Y / 4294967296)) (T rfl rfl) (T rfl rfl) (wn_u64 (by omega) (by omega))) ?_
             refine lw_v (.int .u64 (r + (Y / 4294967296))) (dv_assign (T rfl rfl)) ?_
             refine lw_nil ?_
             refine rk_seq ?_
             refine rk_reg ?_
             refine lw_v (.int .u64 (r + (Y / 4294967296))) (dv_move (T rfl rfl)) ?_
             refine lw_v (.bool (decide (4294967296 ≤ (r + (Y / 4294967296))))) (dv_geq (a := r + (Y / 4294967296)) (b := 4294967296) (T rfl rfl) C) ?_
             refine lw_nil ?_
             by_cases hb68 : 4294967296 ≤ (r + (Y / 4294967296))
             · refine rk_ct (T rfl (congrArg Value.bool (decide_eq_true hb68))) ?_
               refine rk_exit rfl ?_
               exact hj38 _ _ ⟨q - 1, f54, f55, f56, f57, f60, f61, f63, rfl, E65, (half_ok2 (r := r + (Y / 4294967296)) (by rw [Int.sub_mul, Int.one_mul]; omega) (by omega) (by omega) (by omega) (by omega)), (half_less hq (by omega) hVr.2 (by omega) (by omega)), (by omega)⟩
             · refine rk_cf (T rfl (congrArg Value.bool (decide_eq_false hb68))) ?_
               refine rk_skip ?_
               refine rk_inBlock ?_
               exact ih51 ((q - 1).toNat) _ _ (by rw [hd66]; omega) ⟨q - 1, r + (Y / 4294967296), rfl, f54, f55, f56, f57, f58, f59, f60, f61, rfl, f63, rfl, E65, (by rw [Int.sub_mul, Int.one_mul]; omega), ⟨by omega, by omega⟩, ⟨by omega, by omega⟩, (half_less hq (by omega) hVr.2 (by omega) (by omega))⟩
           · refine lw_vy (.int .u64 q) (d := 104) rfl rfl (congrArg Value.bool (decide_eq_false hb67)) (dv_move (T rfl f64)) ?_
             refine lw_vy (.int .u64 (Y % 4294967296)) (d := 104) rfl rfl (congrArg Value.bool (decide_eq_false hb67)) (dv_move (T rfl f59)) ?_
             have hm69 := mul_pos_bd (A := 4294967295) (show 0 ≤ q by omega) (by omega) (show 0 ≤ (Y % 4294967296) by omega) (by omega)
             refine lw_vy (.int .u64 (q * (Y % 4294967296))) (d := 104) rfl rfl (congrArg Value.bool (decide_eq_false hb67)) (dv_mul (a := q) (b := Y % 4294967296) (z := q * (Y % 4294967296)) (T rfl rfl) (T rfl rfl) (wn_u64 (by omega) (by omega))) ?_
             refine lw_vy (.int .u64 r) (d := 104) rfl rfl (congrArg Value.bool (decide_eq_false hb67)) (dv_move (T rfl f62)) ?_
             refine lw_vy (.int .u64 (4294967296 * r)) (d := 104) rfl rfl (congrArg Value.bool (decide_eq_false hb67)) (dv_mul (a := 4294967296) (b := r) (z := 4294967296 * r) C (T rfl rfl) (wn_u64 (by omega) (by omega))) ?_
             refine lw_vy (.int .u64 (un % 4294967296)) (d := 104) rfl rfl (congrArg Value.bool (decide_eq_false hb67)) (dv_move (T rfl f60)) ?_
             refine lw_vy (.int .u64 ((4294967296 * r) + (un % 4294967296))) (d := 104) rfl rfl (congrArg Value.bool (decide_eq_false hb67)) (dv_add (a := 4294967296 * r) (b := un % 4294967296) (z := (4294967296 * r) + (un % 4294967296)) (T rfl rfl) (T rfl rfl) (wn_u64 (by omega) (by omega))) ?_
             refine lw_vy (.bool (decide (((4294967296 * r) + (un % 4294967296)) < (q * (Y % 4294967296))))) (d := 104) rfl rfl (congrArg Value.bool (decide_eq_false hb67)) (dv_gtr (a := q * (Y % 4294967296)) (b := (4294967296 * r) + (un % 4294967296)) (T rfl rfl) (T rfl rfl)) ?_
             refine lw_v (.bool (decide (((4294967296 * r) + (un % 4294967296)) < (q * (Y % 4294967296))))) (dv_pick_f (T rfl (congrArg Value.bool (decide_eq_false hb67))) (T rfl rfl)) ?_
             refine lw_nil ?_
             by_cases hb70 : ((4294967296 * r) + (un % 4294967296)) < (q * (Y % 4294967296))
             · refine rk_ct (T rfl (congrArg Value.bool (decide_eq_true hb70))) ?_
               refine rk_skip ?_
               refine rk_block ?_
               refine rk_seq ?_
               refine rk_reg ?_
               refine lw_v (.int .u64 q) (dv_move (T rfl f64)) ?_
               refine lw_v (.int .u64 (q - 1)) (dv_sub (a := q) (b := 1) (z := q - 1) (T rfl rfl) C (wn_u64 (by omega) (by omega))) ?_
               refine lw_v (.int .u64 (q - 1)) (dv_assign (T rfl rfl)) ?_
               refine lw_nil ?_
               refine rk_seq ?_
               refine rk_reg ?_
               refine lw_v (.int .u64 r) (dv_move (T rfl f62)) ?_
               refine lw_v (.int .u64 (Y / 4294967296)) (dv_move (T rfl f58)) ?_
               refine lw_v (.int .u64 (r + (Y / 4294967296))) (dv_add (a := r) (b := Y / 4294967296) (z := r + (Y / 4294967296)) (T rfl rfl) (T rfl rfl) (wn_u64 (by omega) (by omega))) ?_
               refine lw_v (.int .u64 (r + (Y / 4294967296))) (dv_assign (T rfl rfl)) ?_
               refine lw_nil ?_
               refine rk_seq ?_
               refine rk_reg ?_
               refine lw_v (.int .u64 (r + (Y / 4294967296))) (dv_move (T rfl rfl)) ?_
               refine lw_v (.bool (decide (4294967296 ≤ (r + (Y / 4294967296))))) (dv_geq (a := r + (Y / 4294967296)) (b := 4294967296) (T rfl rfl) C) ?_
               refine lw_nil ?_
               by_cases hb71 : 4294967296 ≤ (r + (Y / 4294967296))
               · refine rk_ct (T rfl (congrArg Value.bool (decide_eq_true hb71))) ?_
                 refine rk_exit rfl ?_
                 exact hj38 _ _ ⟨q - 1, f54, f55, f56, f57, f60, f61, f63, rfl, E65, (half_ok2 (r := r + (Y / 4294967296)) (by rw [Int.sub_mul, Int.one_mul]; omega) (by omega) (by omega) (by omega) (by omega)), (half_less hq (by omega) hVr.2 (by omega) (by omega)), (by omega)⟩
               · refine rk_cf (T rfl (congrArg Value.bool (decide_eq_false hb71))) ?_
                 refine rk_skip ?_
                 refine rk_inBlock ?_
                 exact ih51 ((q - 1).toNat) _ _ (by rw [hd66]; omega) ⟨q - 1, r + (Y / 4294967296), rfl, f54, f55, f56, f57, f58, f59, f60, f61, rfl, f63, rfl, E65, (by rw [Int.sub_mul, Int.one_mul]; omega), ⟨by omega, by omega⟩, ⟨by omega, by omega⟩, (half_less hq (by omega) hVr.2 (by omega) (by omega))⟩
             · refine rk_cf (T rfl (congrArg Value.bool (decide_eq_false hb70))) ?_
               refine rk_exit rfl ?_
               exact hj38 _ _ ⟨q, f54, f55, f56, f57, f60, f61, f63, f64, E65, (half_ok hq (by omega)), hNq, hq0.1⟩
       · refine rk_block ?_
         refine rk_loop (fun dm_ fr wl => ∃ (q r : Int), dm_ = q.toNat ∧ fr 2 = .int .u64 Y ∧ fr 6 = .int .u64 0 ∧ fr 7 = .int .u64 0 ∧ fr 8 = .int .u64 ((S8 : Int)) ∧ fr 9 = .int .u64 (Y / 4294967296) ∧ fr 10 = .int .u64 (Y % 4294967296) ∧ fr 11 = .int .u64 Uu ∧ fr 13 = .int .u64 (un / 4294967296) ∧ fr 14 = .int .u64 (un % 4294967296) ∧ fr 15 = .int .u64 q ∧ fr 16 = .int .u64 r ∧ Below w.heap.size w wl ∧ (q * (Y / 4294967296) + r = Uu) ∧ (0 ≤ q ∧ q ≤ 4294967297) ∧ (0 ≤ r ∧ r < 4294967296) ∧ (Uu * 4294967296 + un / 4294967296 < (q + 1) * Y)) ((Uu / (Y / 4294967296)).toNat) ⟨Uu / (Y / 4294967296), Uu - ((Uu / (Y / 4294967296)) * (Y / 4294967296)), rfl, (vi (ha15.symm)), rfl, rfl, rfl, rfl, rfl, (vi (ha16.symm)), rfl, rfl, rfl, rfl, E14, (by omega), ⟨by omega, by omega⟩, ⟨by omega, by omega⟩, hg.2.2.2.2⟩ ?_
         intro d76 fr75 w72 hI73 ih74
         obtain ⟨q, r, hd89, f77, f78, f79, f80, f81, f82, f83, f84, f85, f86, f87, E88, hq, hq0, hr, hNq⟩ := hI73
         have hql : 4294967296 ≤ q ∨ r * 4294967296 + un / 4294967296 < q * (Y % 4294967296) → 1 ≤ q := fun h => by
          rcases h with h | h
          · omega
          · exact pos_of_mul hq0.1 (by omega) (by omega) h
         refine rk_seq ?_
         refine rk_seq ?_
         refine rk_reg ?_
         refine lw_v (.int .u64 q) (dv_move (T rfl f86)) ?_
         refine lw_v (.bool (decide (4294967296 ≤ q))) (dv_geq (a := q) (b := 4294967296) (T rfl rfl) C) ?_
         refine lw_v (.bool (decide (4294967296 ≤ q))) (dv_move (T rfl rfl)) ?_
         by_cases hb90 : 4294967296 ≤ q
         · refine lw_no (d := 69) rfl rfl (congrArg Value.bool (decide_eq_true hb90)) ?_
           refine lw_no (d := 69) rfl rfl (congrArg Value.bool (decide_eq_true hb90)) ?_
           refine lw_no (d := 69) rfl rfl (congrArg Value.bool (decide_eq_true hb90)) ?_
           refine lw_no (d := 69) rfl rfl (congrArg Value.bool (decide_eq_true hb90)) ?_
           refine lw_no (d := 69) rfl rfl (congrArg Value.bool (decide_eq_true hb90)) ?_
           refine lw_no (d := 69) rfl rfl (congrArg Value.bool (decide_eq_true hb90)) ?_
           refine lw_no (d := 69) rfl rfl (congrArg Value.bool (decide_eq_true hb90)) ?_
           refine lw_no (d := 69) rfl rfl (congrArg Value.bool (decide_eq_true hb90)) ?_
           refine lw_v (.bool true) (dv_pick_t (T rfl (congrArg Value.bool (decide_eq_true hb90))) C) ?_
           refine lw_nil ?_
           refine rk_ct (T rfl rfl) ?_
           refine rk_skip ?_
           refine rk_block ?_
           refine rk_seq ?_
           refine rk_reg ?_
           refine lw_v (.int .u64 q) (dv_move (T rfl f86)) ?_
           refine lw_v (.int .u64 (q - 1)) (dv_sub (a := q) (b := 1) (z := q - 1) (T rfl rfl) C (wn_u64 (by omega) (by omega))) ?_
           refine lw_v (.int .u64 (q - 1)) (dv_assign (T rfl rfl)) ?_
           refine lw_nil ?_
           refine rk_seq ?_
           refine rk_reg ?_
           refine lw_v (.int .u64 r) (dv_move (T rfl f87)) ?_
           refine lw_v (.int .u64 (Y / 4294967296)) (dv_move (T rfl f81)) ?_
           refine lw_v (.int .u64 (r + (Y / 4294967296))) (dv_add (a := r) (b := Y / 4294967296) (z := r + (Y / 4294967296)) (T rfl rfl) (T rfl rfl) (wn_u64 (by omega) (by omega))) ?_
           refine lw_v (.int .u64 (r + (Y / 4294967296))) (dv_assign (T rfl rfl)) ?_
           refine lw_nil ?_
           refine rk_seq ?_
           refine rk_reg ?_
           refine lw_v (.int .u64 (r + (Y / 4294967296))) (dv_move (T rfl rfl)) ?_
           refine lw_v (.bool (decide (4294967296 ≤ (r + (Y / 4294967296))))) (dv_geq (a := r + (Y / 4294967296)) (b := 4294967296) (T rfl rfl) C) ?_
           refine lw_nil ?_
           by_cases hb91 : 4294967296 ≤ (r + (Y / 4294967296))
           · refine rk_ct (T rfl (congrArg Value.bool (decide_eq_true hb91))) ?_
             refine rk_exit rfl ?_
             exact hj21 _ _ ⟨q - 1, f77, f78, f79, f80, f81, f82, f83, f84, f85, rfl, E88, (half_ok2 (r := r + (Y / 4294967296)) (by rw [Int.sub_mul, Int.one_mul]; omega) (by omega) (by omega) (by omega) (by omega)), (half_less hq (by omega) hUr.2 (by omega) (by omega)), (by omega)⟩
           · refine rk_cf (T rfl (congrArg Value.bool (decide_eq_false hb91))) ?_
             refine rk_skip ?_
             refine rk_inBlock ?_
             exact ih74 ((q - 1).toNat) _ _ (by rw [hd89]; omega) ⟨q - 1, r + (Y / 4294967296), rfl, f77, f78, f79, f80, f81, f82, f83, f84, f85, rfl, rfl, E88, (by rw [Int.sub_mul, Int.one_mul]; omega), ⟨by omega, by omega⟩, ⟨by omega, by omega⟩, (half_less hq (by omega) hUr.2 (by omega) (by omega))⟩
         · refine lw_vy (.int .u64 q) (d := 69) rfl rfl (congrArg Value.bool (decide_eq_false hb90)) (dv_move (T rfl f86)) ?_
           refine lw_vy (.int .u64 (Y % 4294967296)) (d := 69) rfl rfl (congrArg Value.bool (decide_eq_false hb90)) (dv_move (T rfl f82)) ?_
           have hm92 := mul_pos_bd (A := 4294967295) (show 0 ≤ q by omega) (by omega) (show 0 ≤ (Y % 4294967296) by omega) (by omega)
           refine lw_vy (.int .u64 (q * (Y % 4294967296))) (d := 69) rfl rfl (congrArg Value.bool (decide_eq_false hb90)) (dv_mul (a := q) (b := Y % 4294967296) (z := q * (Y % 4294967296)) (T rfl rfl) (T rfl rfl) (wn_u64 (by omega) (by omega))) ?_
           refine lw_vy (.int .u64 r) (d := 69) rfl rfl (congrArg Value.bool (decide_eq_false hb90)) (dv_move (T rfl f87)) ?_
           refine lw_vy (.int .u64 (4294967296 * r)) (d := 69) rfl rfl (congrArg Value.bool (decide_eq_false hb90)) (dv_mul (a := 4294967296) (b := r) (z := 4294967296 * r) C (T rfl rfl) (wn_u64 (by omega) (by omega))) ?_
           refine lw_vy (.int .u64 (un / 4294967296)) (d := 69) rfl rfl (congrArg Value.bool (decide_eq_false hb90)) (dv_move (T rfl f84)) ?_
           refine lw_vy (.int .u64 ((4294967296 * r) + (un / 4294967296))) (d := 69) rfl rfl (congrArg Value.bool (decide_eq_false hb90)) (dv_add (a := 4294967296 * r) (b := un / 4294967296) (z := (4294967296 * r) + (un / 4294967296)) (T rfl rfl) (T rfl rfl) (wn_u64 (by omega) (by omega))) ?_
           refine lw_vy (.bool (decide (((4294967296 * r) + (un / 4294967296)) < (q * (Y % 4294967296))))) (d := 69) rfl rfl (congrArg Value.bool (decide_eq_false hb90)) (dv_gtr (a := q * (Y % 4294967296)) (b := (4294967296 * r) + (un / 4294967296)) (T rfl rfl) (T rfl rfl)) ?_
           refine lw_v (.bool (decide (((4294967296 * r) + (un / 4294967296)) < (q * (Y % 4294967296))))) (dv_pick_f (T rfl (congrArg Value.bool (decide_eq_false hb90))) (T rfl rfl)) ?_
           refine lw_nil ?_
           by_cases hb93 : ((4294967296 * r) + (un / 4294967296)) < (q * (Y % 4294967296))
           · refine rk_ct (T rfl (congrArg Value.bool (decide_eq_true hb93))) ?_
             refine rk_skip ?_
             refine rk_block ?_
             refine rk_seq ?_
             refine rk_reg ?_
             refine lw_v (.int .u64 q) (dv_move (T rfl f86)) ?_
             refine lw_v (.int .u64 (q - 1)) (dv_sub (a := q) (b := 1) (z := q - 1) (T rfl rfl) C (wn_u64 (by omega) (by omega))) ?_
             refine lw_v (.int .u64 (q - 1)) (dv_assign (T rfl rfl)) ?_
             refine lw_nil ?_
             refine rk_seq ?_
             refine rk_reg ?_
             refine lw_v (.int .u64 r) (dv_move (T rfl f87)) ?_
             refine lw_v (.int .u64 (Y / 4294967296)) (dv_move (T rfl f81)) ?_
             refine lw_v (.int .u64 (r + (Y / 4294967296))) (dv_add (a := r) (b := Y / 4294967296) (z := r + (Y / 4294967296)) (T rfl rfl) (T rfl rfl) (wn_u64 (by omega) (by omega))) ?_
             refine lw_v (.int .u64 (r + (Y / 4294967296))) (dv_assign (T rfl rfl)) ?_
             refine lw_nil ?_
             refine rk_seq ?_
             refine rk_reg ?_
             refine lw_v (.int .u64 (r + (Y / 4294967296))) (dv_move (T rfl rfl)) ?_
             refine lw_v (.bool (decide (4294967296 ≤ (r + (Y / 4294967296))))) (dv_geq (a := r + (Y / 4294967296)) (b := 4294967296) (T rfl rfl) C) ?_
             refine lw_nil ?_
             by_cases hb94 : 4294967296 ≤ (r + (Y / 4294967296))
             · refine rk_ct (T rfl (congrArg Value.bool (decide_eq_true hb94))) ?_
               refine rk_exit rfl ?_
               exact hj21 _ _ ⟨q - 1, f77, f78, f79, f80, f81, f82, f83, f84, f85, rfl, E88, (half_ok2 (r := r + (Y / 4294967296)) (by rw [Int.sub_mul, Int.one_mul]; omega) (by omega) (by omega) (by omega) (by omega)), (half_less hq (by omega) hUr.2 (by omega) (by omega)), (by omega)⟩
             · refine rk_cf (T rfl (congrArg Value.bool (decide_eq_false hb94))) ?_
               refine rk_skip ?_
               refine rk_inBlock ?_
               exact ih74 ((q - 1).toNat) _ _ (by rw [hd89]; omega) ⟨q - 1, r + (Y / 4294967296), rfl, f77, f78, f79, f80, f81, f82, f83, f84, f85, rfl, rfl, E88, (by rw [Int.sub_mul, Int.one_mul]; omega), ⟨by omega, by omega⟩, ⟨by omega, by omega⟩, (half_less hq (by omega) hUr.2 (by omega) (by omega))⟩
           · refine rk_cf (T rfl (congrArg Value.bool (decide_eq_false hb93))) ?_
             refine rk_exit rfl ?_
             exact hj21 _ _ ⟨q, f77, f78, f79, f80, f81, f82, f83, f84, f85, f86, E88, (half_ok hq (by omega)), hNq, hq0.1⟩
theorem div64_q {w : World} {hi lo y : Int} (hhi : 0 ≤ hi) (hlt : hi < y) (hyl : y < 18446744073709551616) (hlo : 0 ≤ lo ∧ lo < 18446744073709551616) : Ct Try.prog 111 [.int .u64 hi, .int .u64 lo, .int .u64 y] w fun v w1 =>
 ∃ q r : Int, v = .tuple #[.int .u64 q, .int .u64 r] ∧ Ext w w1 ∧ q * y + r = hi * 18446744073709551616 + lo ∧ (0 ≤ r ∧ r < y) ∧ (0 ≤ q ∧ q < 18446744073709551616) ∧ (q = (hi * 18446744073709551616 + lo) / y ∧ r = (hi * 18446744073709551616 + lo) % y) :=
 (div64_ok hhi hlt hyl hlo).mono fun v w1 ⟨h1, h2⟩ => by
  have e := Int.mul_ediv_add_emod (hi * 18446744073709551616 + lo) y
  have r0 := Int.emod_nonneg (hi * 18446744073709551616 + lo) (show y ≠ 0 by omega)
  have r1 := Int.emod_lt_of_pos (hi * 18446744073709551616 + lo) (show 0 < y by omega)
  have q0 : 0 ≤ (hi * 18446744073709551616 + lo) / y := Int.ediv_nonneg (by omega) (by omega)
  have q1 : (hi * 18446744073709551616 + lo) / y < 18446744073709551616 := by
   refine Int.ediv_lt_of_lt_mul (by omega) ?_
   have : (hi + 1) * 18446744073709551616 ≤ y * 18446744073709551616 := Int.mul_le_mul_of_nonneg_right (by omega) (by decide)
   omega
  exact ⟨_, _, h1, h2, by rw [Int.mul_comm _ y]; exact e, ⟨r0, r1⟩, ⟨q0, q1⟩, rfl, rfl⟩
end Go.Proofs.Ytfmkadgjoechnaa.W
set_option linter.unusedVariables false
set_option linter.unusedSimpArgs false
namespace Go.Proofs.Ytfmkadgjoechnaa.W
open Go Go.RowKit Go.Proofs.Ytfmkadgjoechnaa.Fw
attribute [local irreducible] RunK LW AW DV OE Ct
set_option maxHeartbeats 1000000 in
theorem shifted_ok {w : World} {A : Option Addr} {c S : Nat} {xs : List Int} (hx : Wd w 24 .u64 A xs) (hS : S ≤ 63) (ox : okW (2 ^ 64) xs) (lx : xs.length ≤ 500000) : Ct Try.prog 112 [.slice A (xs.length) c, .int .i64 ((S : Int))] w fun v w1 => ∃ b L, v = .slice (some ⟨b, 0, none⟩) (xs.length + 1) (xs.length + 1) ∧ Ext w w1 ∧ w1.heap[b]? = some (.cells (L.map (Value.int .u64)).toArray 24) ∧ w.heap.size ≤ b ∧ L.length = xs.length + 1 ∧ okW (2 ^ 64) L ∧ valB (2 ^ 64) L = 2 ^ S * valB (2 ^ 64) xs := by
 refine ct_run (n := 40) Try.func112 rfl Try.ntmps112 rfl ?_
 have E0 : Below w.heap.size w w := Below.refl _ _
 refine rk_seq ?_
 refine rk_reg ?_
 refine lw_v (.slice none 0 0) (dv_assign C) ?_
 refine lw_nil ?_
 refine rk_seq ?_
 refine rk_reg ?_
 refine lw_v (.slice A (xs.length) c) (dv_move (T rfl rfl)) ?_
 refine lw_v (.int .i64 ((xs.length : Int))) (dv_len (ad := A) (l := xs.length) (c := c) us57 (T rfl rfl)) ?_
 refine lw_v (.int .i64 (((xs.length : Int)) + 1)) (dv_add (a := (xs.length : Int)) (b := 1) (z := ((xs.length : Int)) + 1) (T rfl rfl) C (wr_i64 (by omega) (by omega))) ?_
 refine lw_e (oe_makeW (l := ((xs.length) + 1)) (j := ((xs.length : Int)) + 1) us57 in24 (T rfl rfl) (T rfl rfl) (by omega) (by first | omega | (simp; done) | (simp; omega)) (by first | omega | (simp; done) | (simp; omega)) ?_)
 intro b1 w2 n3
 have N4 : w.heap.size ≤ b1 := n3.eq ▸ E0.size
 have E5 := below_ext E0 E0.size n3.ext
 refine lw_v (.slice (some ⟨b1, 0, none⟩) (((xs.length) + 1)) (((xs.length) + 1))) (dv_assign (T rfl rfl)) ?_
 refine lw_nil ?_
 refine rk_seq ?_
 refine rk_seq ?_
 refine rk_reg ?_
 refine lw_v (.slice A (xs.length) c) (dv_move (T rfl rfl)) ?_
 refine lw_v (.int .i64 ((xs.length : Int))) (dv_len (ad := A) (l := xs.length) (c := c) us57 (T rfl rfl)) ?_
 refine lw_v (.int .i64 0) (dv_move C) ?_
 refine lw_nil ?_
 refine rk_block ?_
 refine rk_loop (fun dm_ fr wl => ∃ (i : Nat) (L : List Int), dm_ = xs.length - i ∧ fr 1 = .int .i64 ((S : Int)) ∧ fr 4 = .slice none 0 0 ∧ fr 5 = .slice (some ⟨b1, 0, none⟩) (((xs.length) + 1)) (((xs.length) + 1)) ∧ fr 12 = .slice A (xs.length) c ∧ fr 13 = .int .i64 ((xs.length : Int)) ∧ fr 14 = .int .i64 ((i : Int)) ∧ Below w.heap.size w wl ∧ wl.heap[b1]? = some (.cells (L.map (Value.int .u64)).toArray 24) ∧ (i ≤ xs.length) ∧ (L.length = xs.length + 1) ∧ (okW (2 ^ 64) L) ∧ (valB (2 ^ 64) L = 2 ^ S * valB (2 ^ 64) (xs.take i)) ∧ (∀ q, i < q → L.getD q 0 = 0) ∧ (L.getD i 0 < 2 ^ S)) (xs.length - 0) ⟨0, (List.replicate (((xs.length) + 1)) (0 : Int)), rfl, rfl, rfl, rfl, rfl, rfl, (vi (by omega)), E5, n3.blk, (Nat.zero_le _), (by simp), (okW.replicate (by decide) _), (by rw [valB_zeros, List.take_zero]; simp [valB]), (fun q _ => rep_zero _ q), (by rw [rep_zero]; exact two_pos S)⟩ ?_
 intro d10 fr9 w6 hI7 ih8
 obtain ⟨i, L, hd19, f11, f12, f13, f14, f15, f16, E17, H18, hi, hl, hok, hv, hz, hb⟩ := hI7
 have bx := okW.getD ox (by decide) i
 have bL := okW.getD hok (by decide) i
 have bp : (2 : Int) ^ S ≤ 2 ^ 63 := pow_le_of (by decide) hS
 have bm := shl_mod (x := xs.getD i 0) (S := S) (by omega)
 have e63 : (2 : Int) ^ 63 = 9223372036854775808 := by decide
 refine rk_seq ?_
 refine rk_reg ?_
 refine lw_v (.bool (decide (((i : Int)) < ((xs.length : Int))))) (dv_lss (a := (i : Int)) (b := (xs.length : Int)) (T rfl f16) (T rfl f15)) ?_
 refine lw_nil ?_
 refine rk_seq ?_
 by_cases hb20 : ((i : Int)) < ((xs.length : Int))
 · refine rk_ct (T rfl (congrArg Value.bool (decide_eq_true hb20))) ?_
   refine rk_skip ?_
   refine rk_seq ?_
   refine rk_block ?_
   refine rk_seq ?_
   refine rk_reg ?_
   refine lw_v (.int .i64 ((i : Int))) (dv_move (T rfl f16)) ?_
   have h21 := (hx.ext E17)
   obtain ⟨g22, o23, rfl⟩ := Wd.at h21 (by first | omega | (simp; done) | (simp; omega))
   refine lw_v (.pointer (some ⟨g22, o23 + i, none⟩)) (dv_indexW (g := g22) (o := o23) (l := xs.length) (c := c) (i := i) (j := (i : Int)) us57 sz24 (T rfl f14) (T rfl f16) (by omega) (by first | omega | (simp; done) | (simp; omega))) ?_
   refine lw_v (.int .u64 (xs.getD i 0)) (dv_load agt24 (T rfl rfl) (Wd.cell h21 (by first | omega | (simp; done) | (simp; omega)))) ?_
   refine lw_v (.int .i64 ((i : Int))) (dv_assign (T rfl rfl)) ?_
   refine lw_v (.int .u64 (xs.getD i 0)) (dv_assign (T rfl rfl)) ?_
   refine lw_nil ?_
   refine rk_seq ?_
   refine rk_any (fun w => w.heap[b1]? = some (.cells (L.map (Value.int .u64)).toArray 24)) [9] mo ?_
   intro w24 d25
   have E26 := below_ext E17 E17.size d25.ext
   have H27 := (d25.ext.blk H18)
   refine aw_pure 0 (.slice (some ⟨b1, 0, none⟩) (((xs.length) + 1)) (((xs.length) + 1))) rfl (by kernel_rfl) .none H27 (fun _ => dv_move (T rfl f13)) ?_
   refine aw_pure 1 (.int .i64 ((i : Int))) rfl (by kernel_rfl) .none H27 (fun _ => dv_move (T rfl rfl)) ?_
   refine aw_pure 2 (.pointer (some ⟨b1, i, none⟩)) rfl (by kernel_rfl) .none H27 (fun _ => dv_indexO (g := b1) (l := ((xs.length) + 1)) (c := ((xs.length) + 1)) (i := i) (j := (i : Int)) us57 sz24 (T rfl rfl) (T rfl rfl) (by omega) (by first | omega | (simp; done) | (simp; omega))) ?_
   refine aw_load 3 (.int .u64 (L.getD i 0)) rfl (by kernel_rfl) .none H27 (fun _ s => dv_loadW (L := L) (v := L.getD i 0) agt24 (T rfl rfl) s (by first | omega | (simp; done) | (simp; omega)) rfl) ?_
   refine aw_pure 4 (.int .u64 (xs.getD i 0)) rfl (by kernel_rfl) .none H27 (fun _ => dv_move (T rfl rfl)) ?_
   refine aw_pure 5 (.int .i64 ((S : Int))) rfl (by kernel_rfl) .none H27 (fun _ => dv_move (T rfl f11)) ?_
   refine aw_pure 6 (.int .u64 (((xs.getD i 0) * 2 ^ S) % 18446744073709551616)) rfl (by kernel_rfl) .none H27 (fun _ => dv_shl (a := xs.getD i 0) (b := (S : Int)) (z := ((xs.getD i 0) * 2 ^ S) % 18446744073709551616) (T rfl rfl) (T rfl rfl) (by omega) (shl_w (K := S) (by omega) (show _ ≤ 64 by omega) (wr_u64 _))) ?_
   refine aw_pure 7 (.int .u64 ((L.getD i 0) + (((xs.getD i 0) * 2 ^ S) % 18446744073709551616))) rfl (by kernel_rfl) .none H27 (fun _ => dv_or (a := L.getD i 0) (b := ((xs.getD i 0) * 2 ^ S) % 18446744073709551616) (z := (L.getD i 0) + (((xs.getD i 0) * 2 ^ S) % 18446744073709551616)) (T rfl rfl) (T rfl rfl) ((or_add (k := .u64) (a := L.getD i 0) (b := ((xs.getD i 0) * 2 ^ S) % 18446744073709551616) (i := S) rfl bL.1 hb (by omega) bm (lt64 (by omega)) (lt64 (by omega))).1)) ?_
   refine aw_pure 8 (.pointer (some ⟨b1, i, none⟩)) rfl (by kernel_rfl) .none H27 (fun _ => dv_indexO (g := b1) (l := ((xs.length) + 1)) (c := ((xs.length) + 1)) (i := i) (j := (i : Int)) us57 sz24 (T rfl rfl) (T rfl rfl) (by omega) (by first | omega | (simp; done) | (simp; omega))) ?_
   refine aw_one 9 rfl (by kernel_rfl) .none (oe_storeW (L := L) (i := i) (z := (L.getD i 0) + (((xs.getD i 0) * 2 ^ S) % 18446744073709551616)) sz24 (T rfl rfl) (T rfl rfl) H27 (by first | omega | (simp; done) | (simp; omega)) ?_)
   intro w28 s29 H30
   have E31 := below_st E26 N4 s29
   refine ⟨.inl rfl, ?_⟩
   refine aw_done (by kernel_rfl) ?_
   refine rk_seq ?_
   refine rk_reg ?_
   refine lw_v (.int .i64 ((S : Int))) (dv_move (T rfl f11)) ?_
   refine lw_v (.bool (decide (0 < ((S : Int))))) (dv_gtr (a := (S : Int)) (b := 0) (T rfl rfl) C) ?_
   refine lw_nil ?_
   by_cases hb32 : 0 < ((S : Int))
   · refine rk_ct (T rfl (congrArg Value.bool (decide_eq_true hb32))) ?_
     refine rk_reg ?_
     refine lw_v (.slice (some ⟨b1, 0, none⟩) (((xs.length) + 1)) (((xs.length) + 1))) (dv_move (T rfl f13)) ?_
     refine lw_v (.int .i64 ((i : Int))) (dv_move (T rfl rfl)) ?_
     refine lw_v (.int .i64 (((i : Int)) + 1)) (dv_add (a := (i : Int)) (b := 1) (z := ((i : Int)) + 1) (T rfl rfl) C (wr_i64 (by omega) (by omega))) ?_
     refine lw_v (.int .u64 (xs.getD i 0)) (dv_move (T rfl rfl)) ?_
     refine lw_v (.int .i64 ((S : Int))) (dv_move (T rfl f11)) ?_
     refine lw_v (.int .i64 (64 - ((S : Int)))) (dv_sub (a := 64) (b := (S : Int)) (z := 64 - ((S : Int))) C (T rfl rfl) (wr_i64 (by omega) (by omega))) ?_
     refine lw_v (.int .u64 ((xs.getD i 0) / 2 ^ ((64 - (S))))) (dv_shr (a := xs.getD i 0) (b := 64 - ((S : Int))) (z := (xs.getD i 0) / 2 ^ ((64 - (S)))) (T rfl rfl) (T rfl rfl) (by omega) (shr_v (K := (64 - (S))) (by omega) (show _ ≤ 64 by omega))) ?_
     refine lw_v (.pointer (some ⟨b1, (((i) + 1)), none⟩)) (dv_indexO (g := b1) (l := ((xs.length) + 1)) (c := ((xs.length) + 1)) (i := ((i) + 1)) (j := ((i : Int)) + 1) us57 sz24 (T rfl rfl) (T rfl rfl) (by omega) (by first | omega | (simp; done) | (simp; omega))) ?_
     refine lw_e (oe_storeW (L := (L.set i ((L.getD i 0) + (((xs.getD i 0) * 2 ^ S) % 18446744073709551616)))) (i := ((i) + 1)) (z := (xs.getD i 0) / 2 ^ ((64 - (S)))) sz24 (T rfl rfl) (T rfl rfl) H30 (by first | omega | (simp; done) | (simp; omega)) ?_)
     intro w33 s34 H35
     have E36 := below_st E31 N4 s34
     refine lw_nil ?_
     refine rk_inBlock ?_
     refine rk_reg ?_
     refine lw_v (.int .i64 (((i : Int)) + 1)) (dv_add (a := (i : Int)) (b := 1) (z := ((i : Int)) + 1) (T rfl f16) C (wr_i64 (by omega) (by omega))) ?_
     refine lw_v (.int .i64 (((i : Int)) + 1)) (dv_move (T rfl rfl)) ?_
     refine lw_nil ?_
     exact ih8 (xs.length - ((i + 1))) _ _ (by rw [hd19]; omega) ⟨(i + 1), (((L.set i ((L.getD i 0) + (((xs.getD i 0) * 2 ^ S) % 18446744073709551616)))).set (((i) + 1)) ((xs.getD i 0) / 2 ^ ((64 - (S))))), rfl, f11, f12, f13, f14, f15, (vi (by omega)), E36, H35, (by omega), (shf_T hS (by omega) hl hok hv hz hb rfl bx.1 bx.2 rfl rfl).1, (shf_T hS (by omega) hl hok hv hz hb rfl bx.1 bx.2 rfl rfl).2.1, (shf_T hS (by omega) hl hok hv hz hb rfl bx.1 bx.2 rfl rfl).2.2.1, (shf_T hS (by omega) hl hok hv hz hb rfl bx.1 bx.2 rfl rfl).2.2.2.1, (shf_T hS (by omega) hl hok hv hz hb rfl bx.1 bx.2 rfl rfl).2.2.2.2⟩
   · refine rk_cf (T rfl (congrArg Value.bool (decide_eq_false hb32))) ?_
     refine rk_skip ?_
     refine rk_inBlock ?_
     refine rk_reg ?_
     refine lw_v (.int .i64 (((i : Int)) + 1)) (dv_add (a := (i : Int)) (b := 1) (z := ((i : Int)) + 1) (T rfl f16) C (wr_i64 (by omega) (by omega))) ?_
     refine lw_v (.int .i64 (((i : Int)) + 1)) (dv_move (T rfl rfl)) ?_
     refine lw_nil ?_
     exact ih8 (xs.length - ((i + 1))) _ _ (by rw [hd19]; omega) ⟨(i + 1), (L.set i ((L.getD i 0) + (((xs.getD i 0) * 2 ^ S) % 18446744073709551616))), rfl, f11, f12, f13, f14, f15, (vi (by omega)), E31, H30, (by omega), (shf_F (by omega) (by omega) hl hok hv hz hb rfl bx.1 bx.2 rfl).1, (shf_F (by omega) (by omega) hl hok hv hz hb rfl bx.1 bx.2 rfl).2.1, (shf_F (by omega) (by omega) hl hok hv hz hb rfl bx.1 bx.2 rfl).2.2.1, (shf_F (by omega) (by omega) hl hok hv hz hb rfl bx.1 bx.2 rfl).2.2.2.1, (shf_F (by omega) (by omega) hl hok hv hz hb rfl bx.1 bx.2 rfl).2.2.2.2⟩
 · refine rk_cf (T rfl (congrArg Value.bool (decide_eq_false hb20))) ?_
   refine rk_exit rfl ?_
   refine rk_seq ?_
   refine rk_reg ?_
   refine lw_v (.slice (some ⟨b1, 0, none⟩) (((xs.length) + 1)) (((xs.length) + 1))) (dv_move (T rfl f13)) ?_
   refine lw_v (.slice (some ⟨b1, 0, none⟩) (((xs.length) + 1)) (((xs.length) + 1))) (dv_assign (T rfl rfl)) ?_
   refine lw_nil ?_
   refine rk_ret Try.func112 (v := .slice (some ⟨b1, 0, none⟩) (((xs.length) + 1)) (((xs.length) + 1))) (res1 Try.results112 (rv_tmp rfl rfl)) ⟨_, rfl, ?_⟩
   exact ⟨_, _, rfl, E17, H18, N4, hl, hok, by rw [hv, List.take_of_length_le (by omega)]⟩
theorem shifted_okl {w : World} {A : Option Addr} {l c S : Nat} {xs : List Int} (hx : Wd w 24 .u64 A xs) (hS : S ≤ 63) (ox : okW (2 ^ 64) xs) (lx : xs.length ≤ 500000) (hl : xs.length = l) : Ct Try.prog 112 [.slice A l c, .int .i64 (S : Int)] w fun v w1 =>
 ∃ b L, v = .slice (some ⟨b, 0, none⟩) (xs.length + 1) (xs.length + 1) ∧ Ext w w1 ∧ w1.heap[b]? = some (.cells (L.map (Value.int .u64)).toArray 24) ∧ w.heap.size ≤ b ∧ L.length = xs.length + 1 ∧ okW (2 ^ 64) L ∧ valB (2 ^ 64) L = 2 ^ S * valB (2 ^ 64) xs := by
 subst hl
 exact shifted_ok hx hS ox lx
end Go.Proofs.Ytfmkadgjoechnaa.W
