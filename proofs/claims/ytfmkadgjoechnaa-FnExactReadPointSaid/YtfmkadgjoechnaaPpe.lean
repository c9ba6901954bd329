/- Walks and plain mathematics, packed by a program of this session: declarations that the rows reach. -/
import Derived.Test.YtfmkadgjoechnaaPpd
set_option linter.unusedVariables false
set_option linter.unusedSimpArgs false
namespace Go.Proofs.Ytfmkadgjoechnaa.W
open Go Go.RowKit Go.Proofs.Ytfmkadgjoechnaa.Fw
attribute [local irreducible] RunK LW AW DV OE Ct
theorem co111 : callOk Try.prog 111 = true := by kernel_rfl
theorem co112 : callOk Try.prog 112 = true := by kernel_rfl
set_option maxHeartbeats 4000000 in
theorem divWords_ok {w : World} {Aa Ab : Option Addr} {la ca lb cb : Nat} {x y : Int} (ha : Wc 64 24 .u64 w Aa la ca x) (hb : Wc 64 24 .u64 w Ab lb cb y) (hy : 0 < y) (hla : la ≤ 400000) (hlb : lb ≤ 400000) : Ct Try.prog 98 [.slice Aa la ca, .slice Ab lb cb] w fun v w1 => ∃ A1 n1 c1 A2 n2 c2, v = .tuple #[.slice A1 n1 c1, .slice A2 n2 c2] ∧ Ext w w1 ∧ Wc 64 24 .u64 w1 A1 n1 c1 (x / y) ∧ Wc 64 24 .u64 w1 A2 n2 c2 (x % y) := by
 refine ct_run (n := 326) Try.func98 rfl Try.ntmps98 rfl ?_
 have E0 : Below w.heap.size w w := Below.refl _ _
 obtain ⟨xs, hxl, hxc, hxw, ox, hxk, hxv⟩ := id ha
 obtain ⟨ys, hyl, hyc, hyw, oy, hyk, hyv⟩ := id hb
 have hlp := hb.pos
 have hx0 := ha.nonneg
 refine rk_seq ?_
 refine rk_reg ?_
 refine lw_v (.slice none 0 0) (dv_assign C) ?_
 refine lw_v (.slice none 0 0) (dv_assign C) ?_
 refine lw_nil ?_
 refine rk_seq ?_
 refine rk_seq ?_
 refine rk_reg ?_
 refine lw_v (.slice Aa la ca) (dv_move (T rfl rfl)) ?_
 refine lw_v (.slice Ab lb cb) (dv_move (T rfl rfl)) ?_
 refine lw_e (oe_callf (vs := [.slice Aa la ca, .slice Ab lb cb]) co89 (ar2 (T rfl rfl) (T rfl rfl)) (cmpWords_wc ha hb (by first | omega | (simp; done) | (simp; omega)) (by first | omega | (simp; done) | (simp; omega))) ?_)
 rintro _ w3 ⟨r1, rfl, e4, hr2⟩
 have E5 := below_ext E0 E0.size e4
 have qhr2 := cmpR.ge hr2
 have phr2 := cmpR.eq hr2
 refine lw_v (.bool (decide (r1 < 0))) (dv_lss (a := r1) (b := 0) (T rfl rfl) C) ?_
 refine lw_nil ?_
 by_cases hb6 : r1 < 0
 · refine rk_ct (T rfl (congrArg Value.bool (decide_eq_true hb6))) ?_
   refine rk_seq ?_
   refine rk_reg ?_
   refine lw_v (.slice Aa la ca) (dv_move (T rfl rfl)) ?_
   refine lw_v (.slice none 0 0) (dv_assign C) ?_
   refine lw_v (.slice Aa la ca) (dv_assign (T rfl rfl)) ?_
   refine lw_nil ?_
   refine rk_ret Try.func98 (v := .tuple #[.slice none 0 0, .slice Aa la ca]) (res2 Try.results98 (rv_tmp rfl rfl) (rv_tmp rfl rfl)) ⟨_, rfl, ?_⟩
   have hq0 := Int.ediv_eq_zero_of_lt (a := x) (b := y) hx0 (by omega)
   have hr0 := Int.emod_eq_of_lt (a := x) (b := y) hx0 (by omega)
   have h7 := (ha.ext e4)
   exact ⟨_, _, _, _, _, _, rfl, E5, Wc.zero.eq hq0.symm, h7.eq hr0.symm⟩
 · refine rk_cf (T rfl (congrArg Value.bool (decide_eq_false hb6))) ?_
   refine rk_skip ?_
   refine rk_seq ?_
   have hle : y ≤ x := by omega
   have hll : lb ≤ la := by have := len_le ox oy hyk (by rw [← hxv, ← hyv]; exact hle); omega
   have hlbp : 0 < lb := hlp.2 hy
   refine rk_reg ?_
   refine lw_v (.slice Ab lb cb) (dv_move (T rfl rfl)) ?_
   refine lw_v (.int .i64 ((lb : Int))) (dv_len (ad := Ab) (l := lb) (c := cb) us57 (T rfl rfl)) ?_
   refine lw_v (.int .i64 ((lb : Int))) (dv_assign (T rfl rfl)) ?_
   refine lw_nil ?_
   refine rk_seq ?_
   refine rk_seq ?_
   refine rk_reg ?_
   refine lw_v (.int .i64 ((lb : Int))) (dv_move (T rfl rfl)) ?_
   refine lw_v (.bool (decide (((lb : Int)) = 1))) (dv_eql (a := (lb : Int)) (b := 1) (T rfl rfl) C) ?_
   refine lw_nil ?_
   by_cases hb8 : ((lb : Int)) = 1
   · refine rk_ct (T rfl (congrArg Value.bool (decide_eq_true hb8))) ?_
     refine rk_seq ?_
     have hy1 : y = ys.getD 0 0 := by rw [hyv, valB_head, List.drop_eq_nil_of_le (by omega)]; simp [valB]
     refine rk_reg ?_
     refine lw_v (.slice Aa la ca) (dv_move (T rfl rfl)) ?_
     refine lw_v (.int .i64 ((la : Int))) (dv_len (ad := Aa) (l := la) (c := ca) us57 (T rfl rfl)) ?_
     refine lw_e (oe_makeW (l := la) (j := (la : Int)) us57 in24 (T rfl rfl) (T rfl rfl) (by omega) (by first | omega | (simp; done) | (simp; omega)) (by first | omega | (simp; done) | (simp; omega)) ?_)
     intro b9 w10 n11
     have N12 : w.heap.size ≤ b9 := n11.eq ▸ E5.size
     have E13 := below_ext E5 E5.size n11.ext
     refine lw_v (.slice (some ⟨b9, 0, none⟩) la la) (dv_assign (T rfl rfl)) ?_
     refine lw_v (.int .u64 0) (dv_assign C) ?_
     refine lw_nil ?_
     refine rk_seq ?_
     refine rk_seq ?_
     refine rk_reg ?_
     refine lw_v (.slice Aa la ca) (dv_move (T rfl rfl)) ?_
     refine lw_v (.int .i64 ((la : Int))) (dv_len (ad := Aa) (l := la) (c := ca) us57 (T rfl rfl)) ?_
     refine lw_v (.int .i64 (((la : Int)) - 1)) (dv_sub (a := (la : Int)) (b := 1) (z := ((la : Int)) - 1) (T rfl rfl) C (wr_i64 (by omega) (by omega))) ?_
     refine lw_v (.int .i64 (((la : Int)) - 1)) (dv_assign (T rfl rfl)) ?_
     refine lw_nil ?_
     refine rk_block ?_
     refine rk_loop (fun dm_ fr wl => ∃ (n : Nat) (L : List Int) (r : Int), dm_ = n ∧ fr 0 = .slice Aa la ca ∧ fr 1 = .slice Ab lb cb ∧ fr 4 = .slice none 0 0 ∧ fr 5 = .slice none 0 0 ∧ fr 6 = .int .i64 ((lb : Int)) ∧ fr 7 = .slice (some ⟨b9, 0, none⟩) la la ∧ fr 8 = .int .u64 r ∧ fr 9 = .int .i64 ((n : Int) - 1) ∧ Below w.heap.size w wl ∧ wl.heap[b9]? = some (.cells (L.map (Value.int .u64)).toArray 24) ∧ (n ≤ la) ∧ (L.length = la) ∧ (okW (2 ^ 64) L) ∧ (0 ≤ r ∧ r < ys.getD 0 0) ∧ (valB (2 ^ 64) (xs.drop n) = ys.getD 0 0 * valB (2 ^ 64) (L.drop n) + r)) (la) ⟨la, (List.replicate la (0 : Int)), 0, rfl, rfl, rfl, rfl, rfl, rfl, rfl, rfl, (vi (by omega)), E13, n11.blk, (Nat.le_refl _), (by simp), (okW.replicate (by decide) _), (by omega), (by rw [List.drop_eq_nil_of_le (by omega), List.drop_eq_nil_of_le (by simp)]; simp [valB])⟩ ?_
     intro d18 fr17 w14 hI15 ih16
     obtain ⟨n, L, r, hd29, f19, f20, f21, f22, f23, f24, f25, f26, E27, H28, hn, hl, hok, hr, hv⟩ := hI15
     have bxs := okW.getD ox (by decide) (n - 1)
     have by0 := okW.getD oy (by decide) 0
     refine rk_seq ?_
     refine rk_seq ?_
     refine rk_reg ?_
     refine lw_v (.int .i64 ((n : Int) - 1)) (dv_move (T rfl f26)) ?_
     refine lw_v (.bool (decide (0 ≤ ((n : Int) - 1)))) (dv_geq (a := (n : Int) - 1) (b := 0) (T rfl rfl) C) ?_
     refine lw_nil ?_
     by_cases hb30 : 0 ≤ ((n : Int) - 1)
     · refine rk_ct (T rfl (congrArg Value.bool (decide_eq_true hb30))) ?_
       refine rk_skip ?_
       refine rk_seq ?_
       refine rk_block ?_
       have h31 := (hxw.ext E27)
       have h32 := (hyw.ext E27)
       refine rk_any (fun w => Wd w 24 .u64 Aa xs ∧ Wd w 24 .u64 Ab ys) [16] mo ?_
       intro w33 d34
       have E35 := below_ext E27 E27.size d34.ext
       have h36 := (h31.ext d34.ext)
       have h37 := (h32.ext d34.ext)
       refine aw_pure 0 (.slice (some ⟨b9, 0, none⟩) la la) rfl (by kernel_rfl) .none ⟨h36, h37⟩ (fun _ => dv_move (T rfl f24)) ?_
       refine aw_pure 1 (.int .i64 ((n : Int) - 1)) rfl (by kernel_rfl) .none ⟨h36, h37⟩ (fun _ => dv_move (T rfl f26)) ?_
       refine aw_pure 2 (.int .u64 r) rfl (by kernel_rfl) .none ⟨h36, h37⟩ (fun _ => dv_move (T rfl f25)) ?_
       refine aw_pure 3 (.slice Aa la ca) rfl (by kernel_rfl) .none ⟨h36, h37⟩ (fun _ => dv_move (T rfl f19)) ?_
       refine aw_pure 4 (.int .i64 ((n : Int) - 1)) rfl (by kernel_rfl) .none ⟨h36, h37⟩ (fun _ => dv_move (T rfl f26)) ?_
       obtain ⟨g38, o39, rfl⟩ := Wd.at h36 (by first | omega | (simp; done) | (simp; omega))
       refine aw_pure 5 (.pointer (some ⟨g38, o39 + (n - 1), none⟩)) rfl (by kernel_rfl) .none ⟨h36, h37⟩ (fun _ => dv_indexW (g := g38) (o := o39) (l := la) (c := ca) (i := (n - 1)) (j := (n : Int) - 1) us57 sz24 (T rfl rfl) (T rfl rfl) (by omega) (by first | omega | (simp; done) | (simp; omega))) ?_
       refine aw_load 6 (.int .u64 (xs.getD ((n - 1)) 0)) rfl (by kernel_rfl) .none ⟨h36, h37⟩ (fun _ s => dv_load agt24 (T rfl rfl) (Wd.cell s.1 (by first | omega | (simp; done) | (simp; omega)))) ?_
       refine aw_pure 7 (.slice Ab lb cb) rfl (by kernel_rfl) .none ⟨h36, h37⟩ (fun _ => dv_move (T rfl f20)) ?_
       obtain ⟨g40, o41, rfl⟩ := Wd.at h37 (by first | omega | (simp; done) | (simp; omega))
       refine aw_pure 8 (.pointer (some ⟨g40, o41 + 0, none⟩)) rfl (by kernel_rfl) .none ⟨h36, h37⟩ (fun _ => dv_indexW (g := g40) (o := o41) (l := lb) (c := cb) (i := 0) (j := 0) us57 sz24 (T rfl rfl) C (by omega) (by first | omega | (simp; done) | (simp; omega))) ?_
       refine aw_load 9 (.int .u64 (ys.getD 0 0)) rfl (by kernel_rfl) .none ⟨h36, h37⟩ (fun _ s => dv_load agt24 (T rfl rfl) (Wd.cell s.2 (by first | omega | (simp; done) | (simp; omega)))) ?_
       refine aw_one 10 rfl (by kernel_rfl) .none (oe_callf (vs := [.int .u64 r, .int .u64 (xs.getD ((n - 1)) 0), .int .u64 (ys.getD 0 0)]) co111 (ar3 (T rfl rfl) (T rfl rfl) (T rfl rfl)) (div64_q (hi := r) (lo := xs.getD ((n - 1)) 0) (y := ys.getD 0 0) (by omega) (by omega) (by omega) (by omega)) ?_)
       rintro _ w45 ⟨qd42, rd43, rfl, e46, hd44⟩
       have E47 := below_ext E35 E35.size e46
       obtain ⟨hd44a, hd44b, hd44c, hd44d⟩ := hd44
       have h48 := (h36.ext e46)
       have h49 := (h37.ext e46)
       refine ⟨.inr ⟨h48, h49⟩, ?_⟩
       refine aw_pure 11 (.tuple #[.int .u64 qd42, .int .u64 rd43]) rfl (by kernel_rfl) .none ⟨h48, h49⟩ (fun _ => dv_move (T rfl rfl)) ?_
       refine aw_pure 12 (.int .u64 qd42) rfl (by kernel_rfl) .none ⟨h48, h49⟩ (fun _ => dv_extract (vs := #[.int .u64 qd42, .int .u64 rd43]) (T rfl rfl) rfl) ?_
       refine aw_pure 13 (.int .u64 rd43) rfl (by kernel_rfl) .none ⟨h48, h49⟩ (fun _ => dv_extract (vs := #[.int .u64 qd42, .int .u64 rd43]) (T rfl rfl) rfl) ?_
       refine aw_pure 14 (.pointer (some ⟨b9, ((n - 1)), none⟩)) rfl (by kernel_rfl) .none ⟨h48, h49⟩ (fun _ => dv_indexO (g := b9) (l := la) (c := la) (i := (n - 1)) (j := (n : Int) - 1) us57 sz24 (T rfl rfl) (T rfl rfl) (by omega) (by first | omega | (simp; done) | (simp; omega))) ?_
       have H50 := (e46.blk (d34.ext.blk H28))
       refine aw_one 15 rfl (by kernel_rfl) .none (oe_storeW (L := L) (i := (n - 1)) (z := qd42) sz24 (T rfl rfl) (T rfl rfl) H50 (by first | omega | (simp; done) | (simp; omega)) ?_)
       intro w51 s52 H53
       have E54 := below_st E47 N12 s52
       have h55 := hxw.ext E54
       have h56 := hyw.ext E54
       refine ⟨.inr ⟨h55, h56⟩, ?_⟩
       refine aw_last 16 (.int .u64 rd43) rfl (by kernel_rfl) .none (fun _ => dv_assign (T rfl rfl)) ?_
       refine aw_done (by kernel_rfl) ?_
       refine rk_inBlock ?_
       refine rk_reg ?_
       refine lw_v (.int .i64 ((n : Int) - 1)) (dv_move (T rfl f26)) ?_
       refine lw_v (.int .i64 (((n : Int) - 1) - 1)) (dv_sub (a := (n : Int) - 1) (b := 1) (z := ((n : Int) - 1) - 1) (T rfl rfl) C (wr_i64 (by omega) (by omega))) ?_
       refine lw_v (.int .i64 (((n : Int) - 1) - 1)) (dv_assign (T rfl rfl)) ?_
       refine lw_nil ?_
       exact ih16 (((n - 1))) _ _ (by rw [hd29]; omega) ⟨(n - 1), (L.set ((n - 1)) qd42), rd43, rfl, f19, f20, f21, f22, f23, f24, rfl, (vi (by omega)), E54, H53, (by omega), (by simp [hl]), (okW.set hok (by omega) (by omega) _), (by omega), (one_step (by omega) (by omega) (by omega) hv rfl hd44a)⟩
     · refine rk_cf (T rfl (congrArg Value.bool (decide_eq_false hb30))) ?_
       refine rk_exit rfl ?_
       refine rk_seq ?_
       refine rk_reg ?_
       refine lw_v (.slice (some ⟨b9, 0, none⟩) la la) (dv_move (T rfl f24)) ?_
       refine lw_e (oe_callf (vs := [.slice (some ⟨b9, 0, none⟩) la la]) co83 (ar1 (T rfl rfl)) (trim_okl (Wd.ownW H28) (by first | omega | (simp; done) | (simp; omega)) (by first | omega | (simp; done) | (simp; omega)) (by first | rfl | first | (simp; done) | (simp; omega) | omega)) ?_)
       rintro _ w57 ⟨rfl, e58⟩
       have E59 := below_ext E27 E27.size e58
       refine lw_v (.int .u64 r) (dv_move (T rfl f25)) ?_
       refine lw_e (oe_buildSlice (pv := [(0, .int .u64 r)]) (init := [.int .u64 0]) (l := [.int .u64 r]) us57 sz24 rfl rfl zc24 (by kernel_rfl) ⟨rfl, (T rfl rfl), trivial⟩ rfl ?_)
       intro b60 w61 n62
       have N63 : w.heap.size ≤ b60 := n62.eq ▸ E59.size
       have H64 := (e58.blk H28)
       have : b9 < b60 := n62.eq ▸ lt_of_blk H64
       have E65 := below_ext E59 E59.size n62.ext
       refine lw_e (oe_callf (vs := [.slice (some ⟨b60, 0, none⟩) 1 1]) co83 (ar1 (T rfl rfl)) (trim_okl (Wd.ownW (xs := [r]) n62.blk) (by first | omega | (simp; done) | (simp; omega)) (by first | omega | (simp; done) | (simp; omega)) (by first | rfl | first | (simp; done) | (simp; omega) | omega)) ?_)
       rintro _ w66 ⟨rfl, e67⟩
       have E68 := below_ext E65 E65.size e67
       have := trimL_len ([r])
       simp only [List.length_cons, List.length_nil] at this
       refine lw_v (.slice (some ⟨b9, 0, none⟩) ((trimL L).length) la) (dv_assign (T rfl rfl)) ?_
       refine lw_v (.slice (some ⟨b60, 0, none⟩) ((trimL ([r])).length) 1) (dv_assign (T rfl rfl)) ?_
       refine lw_nil ?_
       refine rk_ret Try.func98 (v := .tuple #[.slice (some ⟨b9, 0, none⟩) ((trimL L).length) la, .slice (some ⟨b60, 0, none⟩) ((trimL ([r])).length) 1]) (res2 Try.results98 (rv_tmp rfl rfl) (rv_tmp rfl rfl)) ⟨_, rfl, ?_⟩
       have h69 := (((Wd.trim ((Wd.ownW H28).ext e58)).ext n62.ext).ext e67)
       have hd := div_of (x := x) (y := y) (q := valB (2 ^ 64) L) (r := r) (by have h := hv; rw [show n = 0 by omega, List.drop_zero, List.drop_zero, ← hxv, ← hy1] at h; omega) hr.1 (by omega)
       have ht1 := trimL_len L
       have ht2 := trimL_len ([r])
       simp only [List.length_cons, List.length_nil, List.length_take] at ht1 ht2
       exact ⟨_, _, _, _, _, _, rfl, E68, ⟨trimL L, rfl, (by omega), h69, trimL_ok hok, trimL_canon _, (by rw [trimL_val]; exact hd.1.symm)⟩, ⟨trimL ([r]), rfl, (by first | omega | (simp; omega)), (Wd.trim ((Wd.ownW (xs := [r]) n62.blk).ext e67)), trimL_ok (okW.cons hr.1 (by rw [p64]; omega) okW.nil), trimL_canon _, (by rw [trimL_val]; exact (by simp only [valB]; rw [← hd.2]; omega))⟩⟩
   · refine rk_cf (T rfl (congrArg Value.bool (decide_eq_false hb8))) ?_
     refine rk_skip ?_
     refine rk_seq ?_
     have hlb2 : 2 ≤ lb := by omega
     have htop := canon_top oy hyk (by omega)
     rw [hyl] at htop
     have btop := okW.getD oy (by decide) (lb - 1)
     refine rk_reg ?_
     refine lw_v (.slice Ab lb cb) (dv_move (T rfl rfl)) ?_
     refine lw_v (.int .i64 ((lb : Int))) (dv_move (T rfl rfl)) ?_
     refine lw_v (.int .i64 (((lb : Int)) - 1)) (dv_sub (a := (lb : Int)) (b := 1) (z := ((lb : Int)) - 1) (T rfl rfl) C (wr_i64 (by omega) (by omega))) ?_
     have h70 := (hyw.ext e4)
     obtain ⟨g71, o72, rfl⟩ := Wd.at h70 (by first | omega | (simp; done) | (simp; omega))
     refine lw_v (.pointer (some ⟨g71, o72 + ((lb) - 1), none⟩)) (dv_indexW (g := g71) (o := o72) (l := lb) (c := cb) (i := ((lb) - 1)) (j := ((lb : Int)) - 1) us57 sz24 (T rfl rfl) (T rfl rfl) (by omega) (by first | omega | (simp; done) | (simp; omega))) ?_
     refine lw_v (.int .u64 (ys.getD (((lb) - 1)) 0)) (dv_load agt24 (T rfl rfl) (Wd.cell h70 (by first | omega | (simp; done) | (simp; omega)))) ?_
     refine lw_e (oe_callf (vs := [.int .u64 (ys.getD (((lb) - 1)) 0)]) co102 (ar1 (T rfl rfl)) (lzS_ok (by omega) (by omega)) ?_)
     rintro _ w77 ⟨S73, rfl, e78, hs74, hs75, hs76⟩
     have E79 := below_ext E5 E5.size e78
     refine lw_v (.int .i64 ((S73 : Int))) (dv_assign (T rfl rfl)) ?_
     refine lw_nil ?_
     refine rk_seq ?_
     refine rk_any (fun _ => True) [9] mo ?_
     intro w80 d81
     have E82 := below_ext E79 E79.size d81.ext
     refine aw_pure 0 (.slice (some ⟨g71, o72, none⟩) lb cb) rfl (by kernel_rfl) .none trivial (fun _ => dv_move (T rfl rfl)) ?_
     refine aw_pure 1 (.int .i64 ((S73 : Int))) rfl (by kernel_rfl) .none trivial (fun _ => dv_move (T rfl rfl)) ?_
     refine aw_pure 3 (.int .i64 ((lb : Int))) rfl (by kernel_rfl) .none trivial (fun _ => dv_move (T rfl rfl)) ?_
     refine aw_pure 5 (.slice Aa la ca) rfl (by kernel_rfl) .none trivial (fun _ => dv_move (T rfl rfl)) ?_
     refine aw_pure 6 (.int .i64 ((S73 : Int))) rfl (by kernel_rfl) .none trivial (fun _ => dv_move (T rfl rfl)) ?_
     have h83 := ((h70.ext e78).ext d81.ext)
     have : w.heap.size ≤ w80.heap.size := E82.size
     refine aw_one 2 rfl (by kernel_rfl) .none (oe_callf (vs := [.slice (some ⟨g71, o72, none⟩) lb cb, .int .i64 ((S73 : Int))]) co112 (ar2 (T rfl rfl) (T rfl rfl)) (shifted_okl (S := S73) h83 (by omega) oy (by omega) (by omega)) ?_)
     rintro _ w91 ⟨b84, L85, rfl, e92, H86, hN87, hl88, ho89, hv90⟩
     have E93 := below_ext E82 E82.size e92
     have N94 : w.heap.size ≤ b84 := by omega
     refine ⟨.inr trivial, ?_⟩
     refine aw_pure 4 (.slice (some ⟨b84, 0, none⟩) lb ((ys.length + 1))) rfl (by kernel_rfl) .none trivial (fun _ => dv_sliceH (ad := some ⟨b84, 0, none⟩) (l := (ys.length + 1)) (c := (ys.length + 1)) (i := lb) (j := (lb : Int)) us57 sz24 (T rfl rfl) (T rfl rfl) (by omega) (by first | omega | (simp; done) | (simp; omega))) ?_
     have h95 := ((((hxw.ext e4).ext e78).ext d81.ext).ext e92)
     have : b84 < w91.heap.size := lt_of_blk H86
     have : w.heap.size ≤ w91.heap.size := E93.size
     refine aw_one 7 rfl (by kernel_rfl) .none (oe_callf (vs := [.slice Aa la ca, .int .i64 ((S73 : Int))]) co112 (ar2 (T rfl rfl) (T rfl rfl)) (shifted_okl (S := S73) h95 (by omega) ox (by omega) (by omega)) ?_)
     rintro _ w103 ⟨b96, L97, rfl, e104, H98, hN99, hl100, ho101, hv102⟩
     have E105 := below_ext E93 E93.size e104
     have : b84 < b96 := by omega
     have N106 : w.heap.size ≤ b96 := by omega
     refine ⟨.inr trivial, ?_⟩
     refine aw_pure 8 (.slice (some ⟨b84, 0, none⟩) lb ((ys.length + 1))) rfl (by kernel_rfl) .none trivial (fun _ => dv_assign (T rfl rfl)) ?_
     refine aw_last 9 (.slice (some ⟨b96, 0, none⟩) ((xs.length + 1)) ((xs.length + 1))) rfl (by kernel_rfl) .none (fun _ => dv_assign (T rfl rfl)) ?_
     refine aw_done (by kernel_rfl) ?_
     refine rk_seq ?_
     refine rk_reg ?_
     refine lw_v (.slice Aa la ca) (dv_move (T rfl rfl)) ?_
     refine lw_v (.int .i64 ((la : Int))) (dv_len (ad := Aa) (l := la) (c := ca) us57 (T rfl rfl)) ?_
     refine lw_v (.int .i64 ((lb : Int))) (dv_move (T rfl rfl)) ?_
     refine lw_v (.int .i64 (((la : Int)) - ((lb : Int)))) (dv_sub (a := (la : Int)) (b := (lb : Int)) (z := ((la : Int)) - ((lb : Int))) (T rfl rfl) (T rfl rfl) (wr_i64 (by omega) (by omega))) ?_
     refine lw_v (.int .i64 ((((la : Int)) - ((lb : Int))) + 1)) (dv_add (a := ((la : Int)) - ((lb : Int))) (b := 1) (z := (((la : Int)) - ((lb : Int))) + 1) (T rfl rfl) C (wr_i64 (by omega) (by omega))) ?_
     refine lw_e (oe_makeW (l := (((la) - (lb)) + 1)) (j := (((la : Int)) - ((lb : Int))) + 1) us57 in24 (T rfl rfl) (T rfl rfl) (by omega) (by first | omega | (simp; done) | (simp; omega)) (by first | omega | (simp; done) | (simp; omega)) ?_)
     intro b107 w108 n109
     have N110 : w.heap.size ≤ b107 := n109.eq ▸ E105.size
     have : b96 < b107 := n109.eq ▸ lt_of_blk H98
     have E111 := below_ext E105 E105.size n109.ext
     refine lw_v (.slice (some ⟨b107, 0, none⟩) ((((la) - (lb)) + 1)) ((((la) - (lb)) + 1))) (dv_assign (T rfl rfl)) ?_
     refine lw_nil ?_
     refine rk_seq ?_
     refine rk_seq ?_
     refine rk_reg ?_
     refine lw_v (.slice Aa la ca) (dv_move (T rfl rfl)) ?_
     refine lw_v (.int .i64 ((la : Int))) (dv_len (ad := Aa) (l := la) (c := ca) us57 (T rfl rfl)) ?_
     refine lw_v (.int .i64 ((lb : Int))) (dv_move (T rfl rfl)) ?_
     refine lw_v (.int .i64 (((la : Int)) - ((lb : Int)))) (dv_sub (a := (la : Int)) (b := (lb : Int)) (z := ((la : Int)) - ((lb : Int))) (T rfl rfl) (T rfl rfl) (wr_i64 (by omega) (by omega))) ?_
     refine lw_v (.int .i64 (((la : Int)) - ((lb : Int)))) (dv_assign (T rfl rfl)) ?_
     refine lw_nil ?_
     refine rk_block ?_
     have hVv : valB (2 ^ 64) L85 = 2 ^ S73 * y := by rw [hv90, hyv]
     have hUv : valB (2 ^ 64) L97 = 2 ^ S73 * x := by rw [hv102, hxv]
     have hVlt : 2 ^ S73 * y < (2 ^ 64) ^ lb := by
      have h := norm_lt (k := lb - 1) hs74 oy (by omega) rfl hs76 hyv
      rwa [show lb - 1 + 1 = lb by omega] at h
     have hVz := zero_of_lt (by decide) ho89 (m := lb) (by rw [hVv]; exact hVlt)
     have hVt : valB (2 ^ 64) (L85.take lb) = valB (2 ^ 64) L85 := val_take_zero hVz
     have hVp : 0 < valB (2 ^ 64) L85 := by rw [hVv]; exact Int.mul_pos (two_pos _) hy
     have hlt0 : valB (2 ^ 64) L97 < valB (2 ^ 64) L85 * (2 ^ 64) ^ (la - lb + 1) := by
      rw [hUv, hVv, Int.mul_assoc]
      have h1 := canon_ge (B := 2 ^ 64) (by decide) oy hyk (by omega)
      rw [hyl, ← hyv] at h1
      exact Int.mul_lt_mul_of_pos_left (start_lt h1 (by rw [hxv]; exact val_len ox hxl) (by omega) hll) (two_pos _)
     have hVl : L85.length = lb + 1 := by omega
     have hUl0 : L97.length = la + 1 := by omega
     have H112 := (n109.ext.blk (e104.blk H86))
     have H113 := (n109.ext.blk H98)
     refine rk_loop (fun dm_ fr wl => ∃ (J : Nat) (U O : List Int), dm_ = J ∧ fr 4 = .slice none 0 0 ∧ fr 5 = .slice none 0 0 ∧ fr 6 = .int .i64 ((lb : Int)) ∧ fr 10 = .int .i64 ((S73 : Int)) ∧ fr 11 = .slice (some ⟨b84, 0, none⟩) lb ((ys.length + 1)) ∧ fr 12 = .slice (some ⟨b96, 0, none⟩) ((xs.length + 1)) ((xs.length + 1)) ∧ fr 13 = .slice (some ⟨b107, 0, none⟩) ((((la) - (lb)) + 1)) ((((la) - (lb)) + 1)) ∧ fr 14 = .int .i64 ((J : Int) - 1) ∧ Below w.heap.size w wl ∧ wl.heap[b84]? = some (.cells (L85.map (Value.int .u64)).toArray 24) ∧ wl.heap[b96]? = some (.cells (U.map (Value.int .u64)).toArray 24) ∧ wl.heap[b107]? = some (.cells (O.map (Value.int .u64)).toArray 24) ∧ (J ≤ la - lb + 1) ∧ (U.length = la + 1) ∧ (O.length = la - lb + 1) ∧ (okW (2 ^ 64) U) ∧ (okW (2 ^ 64) O) ∧ (∀ k, k < J → O.getD k 0 = 0) ∧ (valB (2 ^ 64) U + valB (2 ^ 64) L85 * valB (2 ^ 64) O = 2 ^ S73 * x) ∧ (valB (2 ^ 64) U < valB (2 ^ 64) L85 * (2 ^ 64) ^ J)) (((la - lb + 1))) ⟨(la - lb + 1), L97, (List.replicate ((((la) - (lb)) + 1)) (0 : Int)), rfl, rfl, rfl, rfl, rfl, rfl, rfl, rfl, (vi (by omega)), E111, H112, H113, n109.blk, (Nat.le_refl _), hUl0, (by simp), ho101, (okW.replicate (by decide) _), (fun k _ => rep_zero _ k), (by rw [valB_zeros, Int.mul_zero, Int.add_zero]; exact hUv), hlt0⟩ ?_
     intro d118 fr117 w114 hI115 ih116
     obtain ⟨J, U, O, hd131, f119, f120, f121, f122, f123, f124, f125, f126, E127, H128, H129, H130, hJ, hUl, hOl, hUo, hOo, hO0, hV, hlt⟩ := hI115
     have hUz : 1 ≤ J → ∀ k, J - 1 + lb < k → U.getD k 0 = 0 := fun h1 k hk => zero_of_lt (by decide) hUo (m := J - 1 + lb + 1) (top_lt hlt (by rw [hVv]; exact hVlt) (by omega)) k (by omega)
     have bu132 := okW.getD hUo (by decide) (J - 1 + lb)
     have bu133 := okW.getD hUo (by decide) (J - 1 + lb - 1)
     have bu134 := okW.getD hUo (by decide) (J - 1 + lb - 2)
     have bv135 := okW.getD ho89 (by decide) (lb - 1)
     have bv136 := okW.getD ho89 (by decide) (lb - 2)
     have hUnn := valB_nonneg (B := 2 ^ 64) (by decide) hUo
     refine rk_seq ?_
     refine rk_seq ?_
     refine rk_reg ?_
     refine lw_v (.int .i64 ((J : Int) - 1)) (dv_move (T rfl f126)) ?_
     refine lw_v (.bool (decide (0 ≤ ((J : Int) - 1)))) (dv_geq (a := (J : Int) - 1) (b := 0) (T rfl rfl) C) ?_
     refine lw_nil ?_
     by_cases hb137 : 0 ≤ ((J : Int) - 1)
     · refine rk_ct (T rfl (congrArg Value.bool (decide_eq_true hb137))) ?_
       refine rk_skip ?_
       refine rk_seq ?_
       refine rk_block ?_
       refine rk_seq ?_
       refine rk_reg ?_
       refine lw_v (.int .u64 18446744073709551615) (dv_assign C) ?_
       refine lw_nil ?_
       refine rk_seq ?_
       refine rk_seq ?_
       refine rk_any (fun w => w.heap[b96]? = some (.cells (U.map (Value.int .u64)).toArray 24) ∧ w.heap[b84]? = some (.cells (L85.map (Value.int .u64)).toArray 24)) [] mo ?_
       intro w138 d139
       have E140 := below_ext E127 E127.size d139.ext
       have H141 := (d139.ext.blk H129)
       have H142 := (d139.ext.blk H128)
       refine aw_pure 0 (.slice (some ⟨b96, 0, none⟩) ((xs.length + 1)) ((xs.length + 1))) rfl (by kernel_rfl) .none ⟨H141, H142⟩ (fun _ => dv_move (T rfl f124)) ?_
       refine aw_pure 1 (.int .i64 ((J : Int) - 1)) rfl (by kernel_rfl) .none ⟨H141, H142⟩ (fun _ => dv_move (T rfl f126)) ?_
       refine aw_pure 2 (.int .i64 ((lb : Int))) rfl (by kernel_rfl) .none ⟨H141, H142⟩ (fun _ => dv_move (T rfl f121)) ?_
       refine aw_pure 3 (.int .i64 (((J : Int) - 1) + ((lb : Int)))) rfl (by kernel_rfl) .none ⟨H141, H142⟩ (fun _ => dv_add (a := (J : Int) - 1) (b := (lb : Int)) (z := ((J : Int) - 1) + ((lb : Int))) (T rfl rfl) (T rfl rfl) (wr_i64 (by omega) (by omega))) ?_
       refine aw_pure 4 (.pointer (some ⟨b96, (((J - 1) + (lb))), none⟩)) rfl (by kernel_rfl) .none ⟨H141, H142⟩ (fun _ => dv_indexO (g := b96) (l := (xs.length + 1)) (c := (xs.length + 1)) (i := ((J - 1) + (lb))) (j := ((J : Int) - 1) + ((lb : Int))) us57 sz24 (T rfl rfl) (T rfl rfl) (by omega) (by first | omega | (simp; done) | (simp; omega))) ?_
       refine aw_load 5 (.int .u64 (U.getD (((J - 1) + (lb))) 0)) rfl (by kernel_rfl) .none ⟨H141, H142⟩ (fun _ s => dv_loadW (L := U) (v := U.getD (((J - 1) + (lb))) 0) agt24 (T rfl rfl) s.1 (by first | omega | (simp; done) | (simp; omega)) rfl) ?_
       refine aw_pure 6 (.slice (some ⟨b84, 0, none⟩) lb ((ys.length + 1))) rfl (by kernel_rfl) .none ⟨H141, H142⟩ (fun _ => dv_move (T rfl f123)) ?_
       refine aw_pure 7 (.int .i64 ((lb : Int))) rfl (by kernel_rfl) .none ⟨H141, H142⟩ (fun _ => dv_move (T rfl f121)) ?_
       refine aw_pure 8 (.int .i64 (((lb : Int)) - 1)) rfl (by kernel_rfl) .none ⟨H141, H142⟩ (fun _ => dv_sub (a := (lb : Int)) (b := 1) (z := ((lb : Int)) - 1) (T rfl rfl) C (wr_i64 (by omega) (by omega))) ?_
       refine aw_pure 9 (.pointer (some ⟨b84, (((lb) - 1)), none⟩)) rfl (by kernel_rfl) .none ⟨H141, H142⟩ (fun _ => dv_indexO (g := b84) (l := lb) (c := (ys.length + 1)) (i := ((lb) - 1)) (j := ((lb : Int)) - 1) us57 sz24 (T rfl rfl) (T rfl rfl) (by omega) (by first | omega | (simp; done) | (simp; omega))) ?_
       refine aw_load 10 (.int .u64 (L85.getD (((lb) - 1)) 0)) rfl (by kernel_rfl) .none ⟨H141, H142⟩ (fun _ s => dv_loadW (L := L85) (v := L85.getD (((lb) - 1)) 0) agt24 (T rfl rfl) s.2 (by first | omega | (simp; done) | (simp; omega)) rfl) ?_
       refine aw_pure 11 (.bool (decide ((U.getD (((J - 1) + (lb))) 0) < (L85.getD (((lb) - 1)) 0)))) rfl (by kernel_rfl) .none ⟨H141, H142⟩ (fun _ => dv_lss (a := U.getD (((J - 1) + (lb))) 0) (b := L85.getD (((lb) - 1)) 0) (T rfl rfl) (T rfl rfl)) ?_
       refine aw_done (by kernel_rfl) ?_
       refine rk_join (fun fr wl => ∃ (q : Int), fr 4 = .slice none 0 0 ∧ fr 5 = .slice none 0 0 ∧ fr 6 = .int .i64 ((lb : Int)) ∧ fr 10 = .int .i64 ((S73 : Int)) ∧ fr 11 = .slice (some ⟨b84, 0, none⟩) lb ((ys.length + 1)) ∧ fr 12 = .slice (some ⟨b96, 0, none⟩) ((xs.length + 1)) ((xs.length + 1)) ∧ fr 13 = .slice (some ⟨b107, 0, none⟩) ((((la) - (lb)) + 1)) ((((la) - (lb)) + 1)) ∧ fr 14 = .int .i64 ((J : Int) - 1) ∧ fr 15 = .int .u64 q ∧ fr 94 = .int .i64 ((J : Int) - 1) ∧ fr 95 = .bool (decide (0 ≤ ((J : Int) - 1))) ∧ fr 98 = .slice (some ⟨b96, 0, none⟩) ((xs.length + 1)) ((xs.length + 1)) ∧ fr 99 = .int .i64 ((J : Int) - 1) ∧ fr 100 = .int .i64 ((lb : Int)) ∧ fr 101 = .int .i64 (((J : Int) - 1) + ((lb : Int))) ∧ fr 102 = .pointer (some ⟨b96, (((J - 1) + (lb))), none⟩) ∧ fr 103 = .int .u64 (U.getD (((J - 1) + (lb))) 0) ∧ fr 104 = .slice (some ⟨b84, 0, none⟩) lb ((ys.length + 1)) ∧ fr 105 = .int .i64 ((lb : Int)) ∧ fr 106 = .int .i64 (((lb : Int)) - 1) ∧ fr 107 = .pointer (some ⟨b84, (((lb) - 1)), none⟩) ∧ fr 108 = .int .u64 (L85.getD (((lb) - 1)) 0) ∧ fr 109 = .bool (decide ((U.getD (((J - 1) + (lb))) 0) < (L85.getD (((lb) - 1)) 0))) ∧ Below w.heap.size w wl ∧ wl.heap[b84]? = some (.cells (L85.map (Value.int .u64)).toArray 24) ∧ wl.heap[b96]? = some (.cells (U.map (Value.int .u64)).toArray 24) ∧ wl.heap[b107]? = some (.cells (O.map (Value.int .u64)).toArray 24) ∧ (0 ≤ q ∧ q < 18446744073709551616) ∧ (valB (2 ^ 64) U < (q + 1) * valB (2 ^ 64) L85 * (2 ^ 64) ^ (J - 1))) ?_ (fun hj145 => ?_)
       · intro fr146 w143 hI144
         obtain ⟨q, f147, f148, f149, f150, f151, f152, f153, f154, f155, f156, f157, f158, f159, f160, f161, f162, f163, f164, f165, f166, f167, f168, f169, E170, H171, H172, H173, hq, hg⟩ := hI144
         refine rk_seq ?_
         refine rk_reg ?_
         refine lw_v (.int .u64 0) (dv_assign C) ?_
         refine lw_v (.int .u64 0) (dv_assign C) ?_
         refine lw_nil ?_
         refine rk_seq ?_
         refine rk_seq ?_
         refine rk_reg ?_
         refine lw_v (.int .i64 ((lb : Int))) (dv_move (T rfl f149)) ?_
         refine lw_v (.int .i64 0) (dv_move C) ?_
         refine lw_nil ?_
         refine rk_block ?_
         refine rk_loop (fun dm_ fr wl => ∃ (i : Nat) (M : List Int) (cy bw : Int), dm_ = lb - i ∧ fr 4 = .slice none 0 0 ∧ fr 5 = .slice none 0 0 ∧ fr 6 = .int .i64 ((lb : Int)) ∧ fr 10 = .int .i64 ((S73 : Int)) ∧ fr 11 = .slice (some ⟨b84, 0, none⟩) lb ((ys.length + 1)) ∧ fr 12 = .slice (some ⟨b96, 0, none⟩) ((xs.length + 1)) ((xs.length + 1)) ∧ fr 13 = .slice (some ⟨b107, 0, none⟩) ((((la) - (lb)) + 1)) ((((la) - (lb)) + 1)) ∧ fr 14 = .int .i64 ((J : Int) - 1) ∧ fr 15 = .int .u64 q ∧ fr 20 = .int .u64 bw ∧ fr 21 = .int .u64 cy ∧ fr 94 = .int .i64 ((J : Int) - 1) ∧ fr 95 = .bool (decide (0 ≤ ((J : Int) - 1))) ∧ fr 98 = .slice (some ⟨b96, 0, none⟩) ((xs.length + 1)) ((xs.length + 1)) ∧ fr 99 = .int .i64 ((J : Int) - 1) ∧ fr 100 = .int .i64 ((lb : Int)) ∧ fr 101 = .int .i64 (((J : Int) - 1) + ((lb : Int))) ∧ fr 102 = .pointer (some ⟨b96, (((J - 1) + (lb))), none⟩) ∧ fr 103 = .int .u64 (U.getD (((J - 1) + (lb))) 0) ∧ fr 104 = .slice (some ⟨b84, 0, none⟩) lb ((ys.length + 1)) ∧ fr 105 = .int .i64 ((lb : Int)) ∧ fr 106 = .int .i64 (((lb : Int)) - 1) ∧ fr 107 = .pointer (some ⟨b84, (((lb) - 1)), none⟩) ∧ fr 108 = .int .u64 (L85.getD (((lb) - 1)) 0) ∧ fr 109 = .bool (decide ((U.getD (((J - 1) + (lb))) 0) < (L85.getD (((lb) - 1)) 0))) ∧ fr 175 = .int .i64 ((lb : Int)) ∧ fr 176 = .int .i64 ((i : Int)) ∧ Below w.heap.size w wl ∧ wl.heap[b84]? = some (.cells (L85.map (Value.int .u64)).toArray 24) ∧ wl.heap[b96]? = some (.cells (M.map (Value.int .u64)).toArray 24) ∧ wl.heap[b107]? = some (.cells (O.map (Value.int .u64)).toArray 24) ∧ (i ≤ lb) ∧ (M.length = la + 1) ∧ (okW (2 ^ 64) M) ∧ (0 ≤ cy ∧ cy < 18446744073709551616) ∧ (0 ≤ bw ∧ bw ≤ 1) ∧ (valB (2 ^ 64) M = valB (2 ^ 64) U - q * valB (2 ^ 64) (L85.take i) * (2 ^ 64) ^ (J - 1) + (cy + bw) * (2 ^ 64) ^ (J - 1 + i)) ∧ (∀ k, J - 1 + lb < k → M.getD k 0 = 0)) (lb - 0) ⟨0, U, 0, 0, rfl, f147, f148, f149, f150, f151, f152, f153, f154, f155, rfl, rfl, f156, f157, f158, f159, f160, f161, f162, f163, f164, f165, f166, f167, f168, f169, rfl, (vi (by omega)), E170, H171, H172, H173, (Nat.zero_le _), hUl, hUo, (by decide), (by decide), (by simp [valB]), (hUz (by omega))⟩ ?_
         intro d178 fr177 w174 hI175 ih176
         obtain ⟨i, M, cy, bw, hd210, f179, f180, f181, f182, f183, f184, f185, f186, f187, f188, f189, f190, f191, f192, f193, f194, f195, f196, f197, f198, f199, f200, f201, f202, f203, f204, f205, E206, H207, H208, H209, hi, hMl, hMo, hcy, hbw, hM, hMz⟩ := hI175
         have bM := okW.getD hMo (by decide) (J - 1 + i)
         have bV := okW.getD ho89 (by decide) i
         have bMt := okW.getD hMo (by decide) (J - 1 + lb)
         refine rk_seq ?_
         refine rk_reg ?_
         refine lw_v (.bool (decide (((i : Int)) < ((lb : Int))))) (dv_lss (a := (i : Int)) (b := (lb : Int)) (T rfl f205) (T rfl f204)) ?_
         refine lw_nil ?_
         refine rk_seq ?_
         by_cases hb211 : ((i : Int)) < ((lb : Int))
         · refine rk_ct (T rfl (congrArg Value.bool (decide_eq_true hb211))) ?_
           refine rk_skip ?_
           refine rk_seq ?_
           refine rk_block ?_
           refine rk_seq ?_
           refine rk_reg ?_
           refine lw_v (.int .i64 ((i : Int))) (dv_move (T rfl f205)) ?_
           refine lw_v (.int .i64 ((i : Int))) (dv_assign (T rfl rfl)) ?_
           refine lw_nil ?_
           refine rk_seq ?_
           refine rk_reg ?_
           refine lw_v (.int .u64 q) (dv_move (T rfl f187)) ?_
           refine lw_v (.slice (some ⟨b84, 0, none⟩) lb ((ys.length + 1))) (dv_move (T rfl f183)) ?_
           refine lw_v (.int .i64 ((i : Int))) (dv_move (T rfl rfl)) ?_
           refine lw_v (.pointer (some ⟨b84, i, none⟩)) (dv_indexO (g := b84) (l := lb) (c := (ys.length + 1)) (i := i) (j := (i : Int)) us57 sz24 (T rfl rfl) (T rfl rfl) (by omega) (by first | omega | (simp; done) | (simp; omega))) ?_
           refine lw_v (.int .u64 (L85.getD i 0)) (dv_loadW (L := L85) (v := L85.getD i 0) agt24 (T rfl rfl) H207 (by first | omega | (simp; done) | (simp; omega)) rfl) ?_
           have hm212 := mul_pos_bd (A := 18446744073709551615) (show 0 ≤ q by omega) (by omega) (show 0 ≤ L85.getD i 0 by omega) (by omega)
           refine lw_e (oe_callf (vs := [.int .u64 q, .int .u64 (L85.getD i 0)]) co94 (ar2 (T rfl rfl) (T rfl rfl)) (mul64_ok (by omega) (by omega)) ?_)
           rintro _ w213 ⟨rfl, e214⟩
           have E215 := below_ext E206 E206.size e214
           refine lw_v (.tuple #[.int .u64 (q * (L85.getD i 0) / 18446744073709551616), .int .u64 (q * (L85.getD i 0) % 18446744073709551616)]) (dv_move (T rfl rfl)) ?_
           refine lw_v (.int .u64 (q * (L85.getD i 0) / 18446744073709551616)) (dv_extract (vs := #[.int .u64 (q * (L85.getD i 0) / 18446744073709551616), .int .u64 (q * (L85.getD i 0) % 18446744073709551616)]) (T rfl rfl) rfl) ?_
           refine lw_v (.int .u64 (q * (L85.getD i 0) % 18446744073709551616)) (dv_extract (vs := #[.int .u64 (q * (L85.getD i 0) / 18446744073709551616), .int .u64 (q * (L85.getD i 0) % 18446744073709551616)]) (T rfl rfl) rfl) ?_
           refine lw_v (.int .u64 (q * (L85.getD i 0) / 18446744073709551616)) (dv_assign (T rfl rfl)) ?_
           refine lw_v (.int .u64 (q * (L85.getD i 0) % 18446744073709551616)) (dv_assign (T rfl rfl)) ?_
           refine lw_nil ?_
           refine rk_seq ?_
           refine rk_reg ?_
           refine lw_v (.int .u64 0) (dv_assign C) ?_
           refine lw_nil ?_
           refine rk_seq ?_
           refine rk_reg ?_
           refine lw_v (.int .u64 (q * (L85.getD i 0) % 18446744073709551616)) (dv_move (T rfl rfl)) ?_
           refine lw_v (.int .u64 cy) (dv_move (T rfl f189)) ?_
           refine lw_v (.tuple #[.int .u64 (((q * (L85.getD i 0) % 18446744073709551616) + cy + 0) % 18446744073709551616), .int .u64 (((q * (L85.getD i 0) % 18446744073709551616) + cy + 0) / 18446744073709551616)]) (dv_ext (e := add64Entry) (vs := [.int .u64 (q * (L85.getD i 0) % 18446744073709551616), .int .u64 cy, .int .u64 0]) Try.func95 rfl rfl (by kernel_rfl) (by kernel_rfl) (ar3 (T rfl rfl) (T rfl rfl) C) (run_addE (q * (L85.getD i 0) % 18446744073709551616) cy 0 (by omega) (by omega) (by omega))) ?_
           refine lw_v (.tuple #[.int .u64 (((q * (L85.getD i 0) % 18446744073709551616) + cy + 0) % 18446744073709551616), .int .u64 (((q * (L85.getD i 0) % 18446744073709551616) + cy + 0) / 18446744073709551616)]) (dv_move (T rfl rfl)) ?_
           refine lw_v (.int .u64 (((q * (L85.getD i 0) % 18446744073709551616) + cy + 0) % 18446744073709551616)) (dv_extract (vs := #[.int .u64 (((q * (L85.getD i 0) % 18446744073709551616) + cy + 0) % 18446744073709551616), .int .u64 (((q * (L85.getD i 0) % 18446744073709551616) + cy + 0) / 18446744073709551616)]) (T rfl rfl) rfl) ?_
           refine lw_v (.int .u64 (((q * (L85.getD i 0) % 18446744073709551616) + cy + 0) / 18446744073709551616)) (dv_extract (vs := #[.int .u64 (((q * (L85.getD i 0) % 18446744073709551616) + cy + 0) % 18446744073709551616), .int .u64 (((q * (L85.getD i 0) % 18446744073709551616) + cy + 0) / 18446744073709551616)]) (T rfl rfl) rfl) ?_
           refine lw_v (.int .u64 (((q * (L85.getD i 0) % 18446744073709551616) + cy + 0) % 18446744073709551616)) (dv_assign (T rfl rfl)) ?_
           refine lw_v (.int .u64 (((q * (L85.getD i 0) % 18446744073709551616) + cy + 0) / 18446744073709551616)) (dv_assign (T rfl rfl)) ?_
           refine lw_nil ?_
           refine rk_seq ?_
           refine rk_reg ?_
           refine lw_v (.int .u64 (q * (L85.getD i 0) / 18446744073709551616)) (dv_move (T rfl rfl)) ?_
           refine lw_v (.int .u64 (((q * (L85.getD i 0) % 18446744073709551616) + cy + 0) / 18446744073709551616)) (dv_move (T rfl rfl)) ?_
           refine lw_v (.int .u64 ((q * (L85.getD i 0) / 18446744073709551616) + (((q * (L85.getD i 0) % 18446744073709551616) + cy + 0) / 18446744073709551616))) (dv_add (a := q * (L85.getD i 0) / 18446744073709551616) (b := ((q * (L85.getD i 0) % 18446744073709551616) + cy + 0) / 18446744073709551616) (z := (q * (L85.getD i 0) / 18446744073709551616) + (((q * (L85.getD i 0) % 18446744073709551616) + cy + 0) / 18446744073709551616)) (T rfl rfl) (T rfl rfl) (wn_u64 (by omega) (by omega))) ?_
           refine lw_v (.int .u64 ((q * (L85.getD i 0) / 18446744073709551616) + (((q * (L85.getD i 0) % 18446744073709551616) + cy + 0) / 18446744073709551616))) (dv_assign (T rfl rfl)) ?_
           refine lw_nil ?_
           refine rk_reg ?_
           refine lw_v (.slice (some ⟨b96, 0, none⟩) ((xs.length + 1)) ((xs.length + 1))) (dv_move (T rfl f184)) ?_
           refine lw_v (.int .i64 ((J : Int) - 1)) (dv_move (T rfl f186)) ?_
           refine lw_v (.int .i64 ((i : Int))) (dv_move (T rfl rfl)) ?_
           refine lw_v (.int .i64 (((J : Int) - 1) + ((i : Int)))) (dv_add (a := (J : Int) - 1) (b := (i : Int)) (z := ((J : Int) - 1) + ((i : Int))) (T rfl rfl) (T rfl rfl) (wr_i64 (by omega) (by omega))) ?_
           refine lw_v (.slice (some ⟨b96, 0, none⟩) ((xs.length + 1)) ((xs.length + 1))) (dv_move (T rfl f184)) ?_
           refine lw_v (.int .i64 ((J : Int) - 1)) (dv_move (T rfl f186)) ?_
           refine lw_v (.int .i64 ((i : Int))) (dv_move (T rfl rfl)) ?_
           refine lw_v (.int .i64 (((J : Int) - 1) + ((i : Int)))) (dv_add (a := (J : Int) - 1) (b := (i : Int)) (z := ((J : Int) - 1) + ((i : Int))) (T rfl rfl) (T rfl rfl) (wr_i64 (by omega) (by omega))) ?_
           refine lw_v (.pointer (some ⟨b96, (((J - 1) + (i))), none⟩)) (dv_indexO (g := b96) (l := (xs.length + 1)) (c := (xs.length + 1)) (i := ((J - 1) + (i))) (j := ((J : Int) - 1) + ((i : Int))) us57 sz24 (T rfl rfl) (T rfl rfl) (by omega) (by first | omega | (simp; done) | (simp; omega))) ?_
           have H216 := (e214.blk H208)
           refine lw_v (.int .u64 (M.getD (((J - 1) + (i))) 0)) (dv_loadW (L := M) (v := M.getD (((J - 1) + (i))) 0) agt24 (T rfl rfl) H216 (by first | omega | (simp; done) | (simp; omega)) rfl) ?_
           refine lw_v (.int .u64 (((q * (L85.getD i 0) % 18446744073709551616) + cy + 0) % 18446744073709551616)) (dv_move (T rfl rfl)) ?_
           refine lw_v (.int .u64 bw) (dv_move (T rfl f188)) ?_
           refine lw_v (.tuple #[.int .u64 (((M.getD (((J - 1) + (i))) 0) - (((q * (L85.getD i 0) % 18446744073709551616) + cy + 0) % 18446744073709551616) - bw) % 18446744073709551616), .int .u64 (if (M.getD (((J - 1) + (i))) 0) < (((q * (L85.getD i 0) % 18446744073709551616) + cy + 0) % 18446744073709551616) + bw then 1 else 0)]) (dv_ext (e := subEntry) (vs := [.int .u64 (M.getD (((J - 1) + (i))) 0), .int .u64 (((q * (L85.getD i 0) % 18446744073709551616) + cy + 0) % 18446744073709551616), .int .u64 bw]) Try.func110 rfl rfl (by kernel_rfl) (by kernel_rfl) (ar3 (T rfl rfl) (T rfl rfl) (T rfl rfl)) (run_subE (M.getD (((J - 1) + (i))) 0) (((q * (L85.getD i 0) % 18446744073709551616) + cy + 0) % 18446744073709551616) bw (by omega) (by omega) (by omega) (by omega))) ?_
           refine lw_v (.tuple #[.int .u64 (((M.getD (((J - 1) + (i))) 0) - (((q * (L85.getD i 0) % 18446744073709551616) + cy + 0) % 18446744073709551616) - bw) % 18446744073709551616), .int .u64 (if (M.getD (((J - 1) + (i))) 0) < (((q * (L85.getD i 0) % 18446744073709551616) + cy + 0) % 18446744073709551616) + bw then 1 else 0)]) (dv_move (T rfl rfl)) ?_
           refine lw_v (.int .u64 (((M.getD (((J - 1) + (i))) 0) - (((q * (L85.getD i 0) % 18446744073709551616) + cy + 0) % 18446744073709551616) - bw) % 18446744073709551616)) (dv_extract (vs := #[.int .u64 (((M.getD (((J - 1) + (i))) 0) - (((q * (L85.getD i 0) % 18446744073709551616) + cy + 0) % 18446744073709551616) - bw) % 18446744073709551616), .int .u64 (if (M.getD (((J - 1) + (i))) 0) < (((q * (L85.getD i 0) % 18446744073709551616) + cy + 0) % 18446744073709551616) + bw then 1 else 0)]) (T rfl rfl) rfl) ?_
           refine lw_v (.int .u64 (if (M.getD (((J - 1) + (i))) 0) < (((q * (L85.getD i 0) % 18446744073709551616) + cy + 0) % 18446744073709551616) + bw then 1 else 0)) (dv_extract (vs := #[.int .u64 (((M.getD (((J - 1) + (i))) 0) - (((q * (L85.getD i 0) % 18446744073709551616) + cy + 0) % 18446744073709551616) - bw) % 18446744073709551616), .int .u64 (if (M.getD (((J - 1) + (i))) 0) < (((q * (L85.getD i 0) % 18446744073709551616) + cy + 0) % 18446744073709551616) + bw then 1 else 0)]) (T rfl rfl) rfl) ?_
           refine lw_v (.pointer (some ⟨b96, (((J - 1) + (i))), none⟩)) (dv_indexO (g := b96) (l := (xs.length + 1)) (c := (xs.length + 1)) (i := ((J - 1) + (i))) (j := ((J : Int) - 1) + ((i : Int))) us57 sz24 (T rfl rfl) (T rfl rfl) (by omega) (by first | omega | (simp; done) | (simp; omega))) ?_
           refine lw_e (oe_storeW (L := M) (i := ((J - 1) + (i))) (z := ((M.getD (((J - 1) + (i))) 0) - (((q * (L85.getD i 0) % 18446744073709551616) + cy + 0) % 18446744073709551616) - bw) % 18446744073709551616) sz24 (T rfl rfl) (T rfl rfl) H216 (by first | omega | (simp; done) | (simp; omega)) ?_)
           intro w217 s218 H219
           have E220 := below_st E215 N106 s218
           refine lw_v (.int .u64 (if (M.getD (((J - 1) + (i))) 0) < (((q * (L85.getD i 0) % 18446744073709551616) + cy + 0) % 18446744073709551616) + bw then 1 else 0)) (dv_assign (T rfl rfl)) ?_
           refine lw_nil ?_
           refine rk_inBlock ?_
           refine rk_reg ?_
           refine lw_v (.int .i64 (((i : Int)) + 1)) (dv_add (a := (i : Int)) (b := 1) (z := ((i : Int)) + 1) (T rfl f205) C (wr_i64 (by omega) (by omega))) ?_
           refine lw_v (.int .i64 (((i : Int)) + 1)) (dv_move (T rfl rfl)) ?_
           refine lw_nil ?_
           have H221 := (s218.blk (e214.blk H207) (by omega))
           have H222 := (s218.blk (e214.blk H209) (by omega))
           exact ih176 (lb - ((i + 1))) _ _ (by rw [hd210]; omega) ⟨(i + 1), (M.set (((J - 1) + (i))) (((M.getD (((J - 1) + (i))) 0) - (((q * (L85.getD i 0) % 18446744073709551616) + cy + 0) % 18446744073709551616) - bw) % 18446744073709551616)), ((q * (L85.getD i 0) / 18446744073709551616) + (((q * (L85.getD i 0) % 18446744073709551616) + cy + 0) / 18446744073709551616)), (if (M.getD (((J - 1) + (i))) 0) < (((q * (L85.getD i 0) % 18446744073709551616) + cy + 0) % 18446744073709551616) + bw then 1 else 0), rfl, f179, f180, f181, f182, f183, f184, f185, f186, f187, rfl, rfl, f190, f191, f192, f193, f194, f195, f196, f197, f198, f199, f200, f201, f202, f203, f204, (vi (by omega)), E220, H221, H219, H222, (by omega), (by simp [hMl]), (okW.set hMo (by omega) (by omega) _), (by omega), (by split <;> omega), (msub_step (lo := ((q * (L85.getD i 0) % 18446744073709551616) + cy + 0) % 18446744073709551616) (by omega) hM (by rw [p64]; omega) (by rw [p64]; split <;> omega)), (fun k hk => by rw [Fw.getD_set_neQ _ _ _ _ (by omega)]; exact hMz k hk)⟩
         · refine rk_cf (T rfl (congrArg Value.bool (decide_eq_false hb211))) ?_
           refine rk_exit rfl ?_
           refine rk_seq ?_
           refine rk_reg ?_
           refine lw_v (.slice (some ⟨b96, 0, none⟩) ((xs.length + 1)) ((xs.length + 1))) (dv_move (T rfl f184)) ?_
           refine lw_v (.int .i64 ((J : Int) - 1)) (dv_move (T rfl f186)) ?_
           refine lw_v (.int .i64 ((lb : Int))) (dv_move (T rfl f181)) ?_
           refine lw_v (.int .i64 (((J : Int) - 1) + ((lb : Int)))) (dv_add (a := (J : Int) - 1) (b := (lb : Int)) (z := ((J : Int) - 1) + ((lb : Int))) (T rfl rfl) (T rfl rfl) (wr_i64 (by omega) (by omega))) ?_
           refine lw_v (.slice (some ⟨b96, 0, none⟩) ((xs.length + 1)) ((xs.length + 1))) (dv_move (T rfl f184)) ?_
           refine lw_v (.int .i64 ((J : Int) - 1)) (dv_move (T rfl f186)) ?_
           refine lw_v (.int .i64 ((lb : Int))) (dv_move (T rfl f181)) ?_
           refine lw_v (.int .i64 (((J : Int) - 1) + ((lb : Int)))) (dv_add (a := (J : Int) - 1) (b := (lb : Int)) (z := ((J : Int) - 1) + ((lb : Int))) (T rfl rfl) (T rfl rfl) (wr_i64 (by omega) (by omega))) ?_
           refine lw_v (.pointer (some ⟨b96, (((J - 1) + (lb))), none⟩)) (dv_indexO (g := b96) (l := (xs.length + 1)) (c := (xs.length + 1)) (i := ((J - 1) + (lb))) (j := ((J : Int) - 1) + ((lb : Int))) us57 sz24 (T rfl rfl) (T rfl rfl) (by omega) (by first | omega | (simp; done) | (simp; omega))) ?_
           refine lw_v (.int .u64 (M.getD (((J - 1) + (lb))) 0)) (dv_loadW (L := M) (v := M.getD (((J - 1) + (lb))) 0) agt24 (T rfl rfl) H208 (by first | omega | (simp; done) | (simp; omega)) rfl) ?_
           refine lw_v (.int .u64 cy) (dv_move (T rfl f189)) ?_
           refine lw_v (.int .u64 bw) (dv_move (T rfl f188)) ?_
           refine lw_v (.tuple #[.int .u64 (((M.getD (((J - 1) + (lb))) 0) - cy - bw) % 18446744073709551616), .int .u64 (if (M.getD (((J - 1) + (lb))) 0) < cy + bw then 1 else 0)]) (dv_ext (e := subEntry) (vs := [.int .u64 (M.getD (((J - 1) + (lb))) 0), .int .u64 cy, .int .u64 bw]) Try.func110 rfl rfl (by kernel_rfl) (by kernel_rfl) (ar3 (T rfl rfl) (T rfl rfl) (T rfl rfl)) (run_subE (M.getD (((J - 1) + (lb))) 0) cy bw (by omega) (by omega) (by omega) (by omega))) ?_
           refine lw_v (.tuple #[.int .u64 (((M.getD (((J - 1) + (lb))) 0) - cy - bw) % 18446744073709551616), .int .u64 (if (M.getD (((J - 1) + (lb))) 0) < cy + bw then 1 else 0)]) (dv_move (T rfl rfl)) ?_
           refine lw_v (.int .u64 (((M.getD (((J - 1) + (lb))) 0) - cy - bw) % 18446744073709551616)) (dv_extract (vs := #[.int .u64 (((M.getD (((J - 1) + (lb))) 0) - cy - bw) % 18446744073709551616), .int .u64 (if (M.getD (((J - 1) + (lb))) 0) < cy + bw then 1 else 0)]) (T rfl rfl) rfl) ?_
           refine lw_v (.int .u64 (if (M.getD (((J - 1) + (lb))) 0) < cy + bw then 1 else 0)) (dv_extract (vs := #[.int .u64 (((M.getD (((J - 1) + (lb))) 0) - cy - bw) % 18446744073709551616), .int .u64 (if (M.getD (((J - 1) + (lb))) 0) < cy + bw then 1 else 0)]) (T rfl rfl) rfl) ?_
           refine lw_v (.pointer (some ⟨b96, (((J - 1) + (lb))), none⟩)) (dv_indexO (g := b96) (l := (xs.length + 1)) (c := (xs.length + 1)) (i := ((J - 1) + (lb))) (j := ((J : Int) - 1) + ((lb : Int))) us57 sz24 (T rfl rfl) (T rfl rfl) (by omega) (by first | omega | (simp; done) | (simp; omega))) ?_
           refine lw_e (oe_storeW (L := M) (i := ((J - 1) + (lb))) (z := ((M.getD (((J - 1) + (lb))) 0) - cy - bw) % 18446744073709551616) sz24 (T rfl rfl) (T rfl rfl) H208 (by first | omega | (simp; done) | (simp; omega)) ?_)
           intro w223 s224 H225
           have E226 := below_st E206 N106 s224
           refine lw_v (.int .u64 (if (M.getD (((J - 1) + (lb))) 0) < cy + bw then 1 else 0)) (dv_assign (T rfl rfl)) ?_
           refine lw_nil ?_
           refine rk_seq ?_
           refine rk_block ?_
           have H227 := (s224.blk H207 (by omega))
           have H228 := (s224.blk H209 (by omega))
           refine rk_loop (fun dm_ fr wl => ∃ (qq : Int) (P : List Int) (bb : Int), dm_ = qq.toNat ∧ fr 4 = .slice none 0 0 ∧ fr 5 = .slice none 0 0 ∧ fr 6 = .int .i64 ((lb : Int)) ∧ fr 10 = .int .i64 ((S73 : Int)) ∧ fr 11 = .slice (some ⟨b84, 0, none⟩) lb ((ys.length + 1)) ∧ fr 12 = .slice (some ⟨b96, 0, none⟩) ((xs.length + 1)) ((xs.length + 1)) ∧ fr 13 = .slice (some ⟨b107, 0, none⟩) ((((la) - (lb)) + 1)) ((((la) - (lb)) + 1)) ∧ fr 14 = .int .i64 ((J : Int) - 1) ∧ fr 15 = .int .u64 qq ∧ fr 20 = .int .u64 bb ∧ fr 21 = .int .u64 cy ∧ fr 94 = .int .i64 ((J : Int) - 1) ∧ fr 95 = .bool (decide (0 ≤ ((J : Int) - 1))) ∧ fr 98 = .slice (some ⟨b96, 0, none⟩) ((xs.length + 1)) ((xs.length + 1)) ∧ fr 99 = .int .i64 ((J : Int) - 1) ∧ fr 100 = .int .i64 ((lb : Int)) ∧ fr 101 = .int .i64 (((J : Int) - 1) + ((lb : Int))) ∧ fr 102 = .pointer (some ⟨b96, (((J - 1) + (lb))), none⟩) ∧ fr 103 = .int .u64 (U.getD (((J - 1) + (lb))) 0) ∧ fr 104 = .slice (some ⟨b84, 0, none⟩) lb ((ys.length + 1)) ∧ fr 105 = .int .i64 ((lb : Int)) ∧ fr 106 = .int .i64 (((lb : Int)) - 1) ∧ fr 107 = .pointer (some ⟨b84, (((lb) - 1)), none⟩) ∧ fr 108 = .int .u64 (L85.getD (((lb) - 1)) 0) ∧ fr 109 = .bool (decide ((U.getD (((J - 1) + (lb))) 0) < (L85.getD (((lb) - 1)) 0))) ∧ fr 175 = .int .i64 ((lb : Int)) ∧ fr 176 = .int .i64 ((i : Int)) ∧ fr 177 = .bool (decide (((i : Int)) < ((lb : Int)))) ∧ fr 215 = .tuple #[.int .u64 (((M.getD (((J - 1) + (lb))) 0) - cy - bw) % 18446744073709551616), .int .u64 (if (M.getD (((J - 1) + (lb))) 0) < cy + bw then 1 else 0)] ∧ fr 216 = .slice (some ⟨b96, 0, none⟩) ((xs.length + 1)) ((xs.length + 1)) ∧ fr 217 = .int .i64 ((J : Int) - 1) ∧ fr 218 = .int .i64 ((lb : Int)) ∧ fr 219 = .int .i64 (((J : Int) - 1) + ((lb : Int))) ∧ fr 220 = .slice (some ⟨b96, 0, none⟩) ((xs.length + 1)) ((xs.length + 1)) ∧ fr 221 = .int .i64 ((J : Int) - 1) ∧ fr 222 = .int .i64 ((lb : Int)) ∧ fr 223 = .int .i64 (((J : Int) - 1) + ((lb : Int))) ∧ fr 224 = .pointer (some ⟨b96, (((J - 1) + (lb))), none⟩) ∧ fr 225 = .int .u64 (M.getD (((J - 1) + (lb))) 0) ∧ fr 226 = .int .u64 cy ∧ fr 227 = .int .u64 bw ∧ fr 228 = .tuple #[.int .u64 (((M.getD (((J - 1) + (lb))) 0) - cy - bw) % 18446744073709551616), .int .u64 (if (M.getD (((J - 1) + (lb))) 0) < cy + bw then 1 else 0)] ∧ fr 229 = .int .u64 (((M.getD (((J - 1) + (lb))) 0) - cy - bw) % 18446744073709551616) ∧ fr 230 = .int .u64 (if (M.getD (((J - 1) + (lb))) 0) < cy + bw then 1 else 0) ∧ fr 231 = .pointer (some ⟨b96, (((J - 1) + (lb))), none⟩) ∧ Below w.heap.size w wl ∧ wl.heap[b84]? = some (.cells (L85.map (Value.int .u64)).toArray 24) ∧ wl.heap[b96]? = some (.cells (P.map (Value.int .u64)).toArray 24) ∧ wl.heap[b107]? = some (.cells (O.map (Value.int .u64)).toArray 24) ∧ (0 ≤ qq ∧ qq < 18446744073709551616) ∧ (P.length = la + 1) ∧ (okW (2 ^ 64) P) ∧ (0 ≤ bb ∧ bb ≤ 1) ∧ (valB (2 ^ 64) P = valB (2 ^ 64) U - qq * valB (2 ^ 64) L85 * (2 ^ 64) ^ (J - 1) + bb * (2 ^ 64) ^ (J - 1 + lb + 1)) ∧ (∀ k, J - 1 + lb < k → P.getD k 0 = 0) ∧ (valB (2 ^ 64) U < (qq + 1) * valB (2 ^ 64) L85 * (2 ^ 64) ^ (J - 1))) (q.toNat) ⟨q, (M.set (((J - 1) + (lb))) (((M.getD (((J - 1) + (lb))) 0) - cy - bw) % 18446744073709551616)), (if (M.getD (((J - 1) + (lb))) 0) < cy + bw then 1 else 0), rfl, f179, f180, f181, f182, f183, f184, f185, f186, f187, rfl, f189, f190, f191, f192, f193, f194, f195, f196, f197, f198, f199, f200, f201, f202, f203, f204, f205, rfl, rfl, rfl, rfl, rfl, rfl, rfl, rfl, rfl, rfl, rfl, rfl, rfl, rfl, rfl, rfl, rfl, rfl, E226, H227, H225, H228, hq, (by simp [hMl]), (okW.set hMo (by omega) (by omega) _), (by split <;> omega), (by have h := hM; rw [show i = lb by omega, hVt] at h; exact msub_top (by omega) h (by rw [p64]; split <;> omega)), (fun k hk => by rw [Fw.getD_set_neQ _ _ _ _ (by omega)]; exact hMz k hk), hg⟩ ?_
           intro d233 fr232 w229 hI230 ih231
           obtain ⟨qq, P, bb, hd283, f234, f235, f236, f237, f238, f239, f240, f241, f242, f243, f244, f245, f246, f247, f248, f249, f250, f251, f252, f253, f254, f255, f256, f257, f258, f259, f260, f261, f262, f263, f264, f265, f266, f267, f268, f269, f270, f271, f272, f273, f274, f275, f276, f277, f278, E279, H280, H281, H282, hqq, hPl, hPo, hbb, hP, hPz, hgq⟩ := hI230
           have hPlt : valB (2 ^ 64) P < (2 ^ 64) ^ (J - 1 + lb + 1) := lt_of_zero (by decide) hPo (fun k hk => hPz k (by omega))
           refine rk_seq ?_
           refine rk_seq ?_
           refine rk_reg ?_
           refine lw_v (.int .u64 bb) (dv_move (T rfl f243)) ?_
           refine lw_v (.bool (decide (bb = 1))) (dv_eql (a := bb) (b := 1) (T rfl rfl) C) ?_
           refine lw_nil ?_
           by_cases hb284 : bb = 1
           · refine rk_ct (T rfl (congrArg Value.bool (decide_eq_true hb284))) ?_
             refine rk_skip ?_
             refine rk_block ?_
             refine rk_seq ?_
             have hneg := back_neg (by rw [show bb = 1 by omega] at hP; exact hP) hPlt
             have hq1 := back_pos hVp (by decide) hUnn hneg
             refine rk_reg ?_
             refine lw_v (.int .u64 qq) (dv_move (T rfl f242)) ?_
             refine lw_v (.int .u64 (qq - 1)) (dv_sub (a := qq) (b := 1) (z := qq - 1) (T rfl rfl) C (wn_u64 (by omega) (by omega))) ?_
             refine lw_v (.int .u64 (qq - 1)) (dv_assign (T rfl rfl)) ?_
             refine lw_nil ?_
             refine rk_seq ?_
             refine rk_reg ?_
             refine lw_v (.int .u64 0) (dv_assign C) ?_
             refine lw_nil ?_
             refine rk_seq ?_
             refine rk_seq ?_
             refine rk_reg ?_
             refine lw_v (.int .i64 ((lb : Int))) (dv_move (T rfl f236)) ?_
             refine lw_v (.int .i64 0) (dv_move C) ?_
             refine lw_nil ?_
             refine rk_block ?_
             refine rk_loop (fun dm_ fr wl => ∃ (i2 : Nat) (R : List Int) (cr : Int), dm_ = lb - i2 ∧ fr 4 = .slice none 0 0 ∧ fr 5 = .slice none 0 0 ∧ fr 6 = .int .i64 ((lb : Int)) ∧ fr 10 = .int .i64 ((S73 : Int)) ∧ fr 11 = .slice (some ⟨b84, 0, none⟩) lb ((ys.length + 1)) ∧ fr 12 = .slice (some ⟨b96, 0, none⟩) ((xs.length + 1)) ((xs.length + 1)) ∧ fr 13 = .slice (some ⟨b107, 0, none⟩) ((((la) - (lb)) + 1)) ((((la) - (lb)) + 1)) ∧ fr 14 = .int .i64 ((J : Int) - 1) ∧ fr 15 = .int .u64 (qq - 1) ∧ fr 20 = .int .u64 bb ∧ fr 21 = .int .u64 cy ∧ fr 26 = .int .u64 cr ∧ fr 94 = .int .i64 ((J : Int) - 1) ∧ fr 95 = .bool (decide (0 ≤ ((J : Int) - 1))) ∧ fr 98 = .slice (some ⟨b96, 0, none⟩) ((xs.length + 1)) ((xs.length + 1)) ∧ fr 99 = .int .i64 ((J : Int) - 1) ∧ fr 100 = .int .i64 ((lb : Int)) ∧ fr 101 = .int .i64 (((J : Int) - 1) + ((lb : Int))) ∧ fr 102 = .pointer (some ⟨b96, (((J - 1) + (lb))), none⟩) ∧ fr 103 = .int .u64 (U.getD (((J - 1) + (lb))) 0) ∧ fr 104 = .slice (some ⟨b84, 0, none⟩) lb ((ys.length + 1)) ∧ fr 105 = .int .i64 ((lb : Int)) ∧ fr 106 = .int .i64 (((lb : Int)) - 1) ∧ fr 107 = .pointer (some ⟨b84, (((lb) - 1)), none⟩) ∧ fr 108 = .int .u64 (L85.getD (((lb) - 1)) 0) ∧ fr 109 = .bool (decide ((U.getD (((J - 1) + (lb))) 0) < (L85.getD (((lb) - 1)) 0))) ∧ fr 175 = .int .i64 ((lb : Int)) ∧ fr 176 = .int .i64 ((i : Int)) ∧ fr 177 = .bool (decide (((i : Int)) < ((lb : Int)))) ∧ fr 215 = .tuple #[.int .u64 (((M.getD (((J - 1) + (lb))) 0) - cy - bw) % 18446744073709551616), .int .u64 (if (M.getD (((J - 1) + (lb))) 0) < cy + bw then 1 else 0)] ∧ fr 216 = .slice (some ⟨b96, 0, none⟩) ((xs.length + 1)) ((xs.length + 1)) ∧ fr 217 = .int .i64 ((J : Int) - 1) ∧ fr 218 = .int .i64 ((lb : Int)) ∧ fr 219 = .int .i64 (((J : Int) - 1) + ((lb : Int))) ∧ fr 220 = .slice (some ⟨b96, 0, none⟩) ((xs.length + 1)) ((xs.length + 1)) ∧ fr 221 = .int .i64 ((J : Int) - 1) ∧ fr 222 = .int .i64 ((lb : Int)) ∧ fr 223 = .int .i64 (((J : Int) - 1) + ((lb : Int))) ∧ fr 224 = .pointer (some ⟨b96, (((J - 1) + (lb))), none⟩) ∧ fr 225 = .int .u64 (M.getD (((J - 1) + (lb))) 0) ∧ fr 226 = .int .u64 cy ∧ fr 227 = .int .u64 bw ∧ fr 228 = .tuple #[.int .u64 (((M.getD (((J - 1) + (lb))) 0) - cy - bw) % 18446744073709551616), .int .u64 (if (M.getD (((J - 1) + (lb))) 0) < cy + bw then 1 else 0)] ∧ fr 229 = .int .u64 (((M.getD (((J - 1) + (lb))) 0) - cy - bw) % 18446744073709551616) ∧ fr 230 = .int .u64 (if (M.getD (((J - 1) + (lb))) 0) < cy + bw then 1 else 0) ∧ fr 231 = .pointer (some ⟨b96, (((J - 1) + (lb))), none⟩) ∧ fr 232 = .int .u64 bb ∧ fr 233 = .bool (decide (bb = 1)) ∧ fr 234 = .int .u64 qq ∧ fr 235 = .int .u64 (qq - 1) ∧ fr 236 = .int .i64 ((lb : Int)) ∧ fr 237 = .int .i64 ((i2 : Int)) ∧ Below w.heap.size w wl ∧ wl.heap[b84]? = some (.cells (L85.map (Value.int .u64)).toArray 24) ∧ wl.heap[b96]? = some (.cells (R.map (Value.int .u64)).toArray 24) ∧ wl.heap[b107]? = some (.cells (O.map (Value.int .u64)).toArray 24) ∧ (i2 ≤ lb) ∧ (R.length = la + 1) ∧ (okW (2 ^ 64) R) ∧ (0 ≤ cr ∧ cr ≤ 1) ∧ (valB (2 ^ 64) R + cr * (2 ^ 64) ^ (J - 1 + i2) = valB (2 ^ 64) P + valB (2 ^ 64) (L85.take i2) * (2 ^ 64) ^ (J - 1)) ∧ (∀ k, J - 1 + lb < k → R.getD k 0 = 0)) (lb - 0) ⟨0, P, 0, rfl, f234, f235, f236, f237, f238, f239, f240, f241, rfl, f243, f244, rfl, f245, f246, f247, f248, f249, f250, f251, f252, f253, f254, f255, f256, f257, f258, f259, f260, f261, f262, f263, f264, f265, f266, f267, f268, f269, f270, f271, f272, f273, f274, f275, f276, f277, f278, rfl, rfl, rfl, rfl, rfl, (vi (by omega)), E279, H280, H281, H282, (Nat.zero_le _), hPl, hPo, (by decide), (by simp [valB]), hPz⟩ ?_
             intro d289 fr288 w285 hI286 ih287
             obtain ⟨i2, R, cr, hd346, f290, f291, f292, f293, f294, f295, f296, f297, f298, f299, f300, f301, f302, f303, f304, f305, f306, f307, f308, f309, f310, f311, f312, f313, f314, f315, f316, f317, f318, f319, f320, f321, f322, f323, f324, f325, f326, f327, f328, f329, f330, f331, f332, f333, f334, f335, f336, f337, f338, f339, f340, f341, E342, H343, H344, H345, hi2, hRl, hRo, hca, hR, hRz⟩ := hI286
             have bR := okW.getD hRo (by decide) (J - 1 + i2)
             have bV := okW.getD ho89 (by decide) i2
             have bRt := okW.getD hRo (by decide) (J - 1 + lb)
             refine rk_seq ?_
             refine rk_reg ?_
             refine lw_v (.bool (decide (((i2 : Int)) < ((lb : Int))))) (dv_lss (a := (i2 : Int)) (b := (lb : Int)) (T rfl f341) (T rfl f340)) ?_
             refine lw_nil ?_
             refine rk_seq ?_
             by_cases hb347 : ((i2 : Int)) < ((lb : Int))
             · refine rk_ct (T rfl (congrArg Value.bool (decide_eq_true hb347))) ?_
               refine rk_skip ?_
               refine rk_seq ?_
               refine rk_block ?_
               refine rk_seq ?_
               refine rk_reg ?_
               refine lw_v (.int .i64 ((i2 : Int))) (dv_move (T rfl f341)) ?_
               refine lw_v (.int .i64 ((i2 : Int))) (dv_assign (T rfl rfl)) ?_
               refine lw_nil ?_
               refine rk_st 20 [.slice (some ⟨b96, 0, none⟩) ((xs.length + 1)) ((xs.length + 1)), .int .i64 ((J : Int) - 1), .int .i64 ((i2 : Int)), .int .i64 (((J : Int) - 1) + ((i2 : Int))), .slice (some ⟨b96, 0, none⟩) ((xs.length + 1)) ((xs.length + 1)), .int .i64 ((J : Int) - 1), .int .i64 ((i2 : Int)), .int .i64 (((J : Int) - 1) + ((i2 : Int))), .pointer (some ⟨b96, (((J - 1) + (i2))), none⟩), .int .u64 (R.getD (((J - 1) + (i2))) 0), .slice (some ⟨b84, 0, none⟩) lb ((ys.length + 1)), .int .i64 ((i2 : Int)), .pointer (some ⟨b84, i2, none⟩), .int .u64 (L85.getD i2 0), .int .u64 cr, .tuple #[.int .u64 (((R.getD (((J - 1) + (i2))) 0) + (L85.getD i2 0) + cr) % 18446744073709551616), .int .u64 (((R.getD (((J - 1) + (i2))) 0) + (L85.getD i2 0) + cr) / 18446744073709551616)], .tuple #[.int .u64 (((R.getD (((J - 1) + (i2))) 0) + (L85.getD i2 0) + cr) % 18446744073709551616), .int .u64 (((R.getD (((J - 1) + (i2))) 0) + (L85.getD i2 0) + cr) / 18446744073709551616)], .int .u64 (((R.getD (((J - 1) + (i2))) 0) + (L85.getD i2 0) + cr) % 18446744073709551616), .int .u64 (((R.getD (((J - 1) + (i2))) 0) + (L85.getD i2 0) + cr) / 18446744073709551616), .pointer (some ⟨b96, (((J - 1) + (i2))), none⟩), undef, .int .u64 (((R.getD (((J - 1) + (i2))) 0) + (L85.getD i2 0) + cr) / 18446744073709551616)] (fun wk => ∃ wd, Drew w285 wd ∧ St b96 wd wk ∧ wk.heap[b96]? = some (.cells (((R.set (((J - 1) + (i2))) (((R.getD (((J - 1) + (i2))) 0) + (L85.getD i2 0) + cr) % 18446744073709551616))).map (Value.int .u64)).toArray 24)) mo (by kernel_rfl) ?_ ?_
               · intro w348 d349
                 have E350 := below_ext E342 E342.size d349.ext
                 refine ⟨?_, ?_, ?_, ?_, ?_, ?_, ?_, ?_, ?_, ?_, ?_, ?_, ?_, ?_, ?_, ?_, ?_, ?_, ?_, ?_, ?_, ?_, trivial⟩
                 · intro fr351 w352 hB353 hF354 hD355
                   obtain rfl := hB353 (.inr (by kernel_rfl))
                   exact DV.oe (dv_move (T rfl ((hF354 12 (by kernel_rfl)).trans f295))) (by rw [if_neg (by decide)]; exact ⟨rfl, rfl⟩)
                 · intro fr356 w357 hB358 hF359 hD360
                   obtain rfl := hB358 (.inr (by kernel_rfl))
                   exact DV.oe (dv_move (T rfl ((hF359 14 (by kernel_rfl)).trans f297))) (by rw [if_neg (by decide)]; exact ⟨rfl, rfl⟩)
                 · intro fr361 w362 hB363 hF364 hD365
                   obtain rfl := hB363 (.inr (by kernel_rfl))
                   exact DV.oe (dv_move (T rfl (hF364 27 (by kernel_rfl)))) (by rw [if_neg (by decide)]; exact ⟨rfl, rfl⟩)
                 · intro fr366 w367 hB368 hF369 hD370
                   obtain rfl := hB368 (.inr (by kernel_rfl))
                   have hv371 : fr366 242 = .int .i64 ((J : Int) - 1) := hD370 1 _ (by decide) rfl (by kernel_rfl)
                   have hv372 : fr366 243 = .int .i64 ((i2 : Int)) := hD370 2 _ (by decide) rfl (by kernel_rfl)
                   exact DV.oe (dv_add (a := (J : Int) - 1) (b := (i2 : Int)) (z := ((J : Int) - 1) + ((i2 : Int))) (T rfl hv371) (T rfl hv372) (wr_i64 (by omega) (by omega))) (by rw [if_neg (by decide)]; exact ⟨rfl, rfl⟩)
                 · intro fr373 w374 hB375 hF376 hD377
                   obtain rfl := hB375 (.inr (by kernel_rfl))
                   exact DV.oe (dv_move (T rfl ((hF376 12 (by kernel_rfl)).trans f295))) (by rw [if_neg (by decide)]; exact ⟨rfl, rfl⟩)
                 · intro fr378 w379 hB380 hF381 hD382
                   obtain rfl := hB380 (.inr (by kernel_rfl))
                   exact DV.oe (dv_move (T rfl ((hF381 14 (by kernel_rfl)).trans f297))) (by rw [if_neg (by decide)]; exact ⟨rfl, rfl⟩)
                 · intro fr383 w384 hB385 hF386 hD387
                   obtain rfl := hB385 (.inr (by kernel_rfl))
                   exact DV.oe (dv_move (T rfl (hF386 27 (by kernel_rfl)))) (by rw [if_neg (by decide)]; exact ⟨rfl, rfl⟩)
                 · intro fr388 w389 hB390 hF391 hD392
                   obtain rfl := hB390 (.inr (by kernel_rfl))
                   have hv393 : fr388 246 = .int .i64 ((J : Int) - 1) := hD392 5 _ (by decide) rfl (by kernel_rfl)
                   have hv394 : fr388 247 = .int .i64 ((i2 : Int)) := hD392 6 _ (by decide) rfl (by kernel_rfl)
                   exact DV.oe (dv_add (a := (J : Int) - 1) (b := (i2 : Int)) (z := ((J : Int) - 1) + ((i2 : Int))) (T rfl hv393) (T rfl hv394) (wr_i64 (by omega) (by omega))) (by rw [if_neg (by decide)]; exact ⟨rfl, rfl⟩)
                 · intro fr395 w396 hB397 hF398 hD399
                   obtain rfl := hB397 (.inr (by kernel_rfl))
                   have hv400 : fr395 245 = .slice (some ⟨b96, 0, none⟩) ((xs.length + 1)) ((xs.length + 1)) := hD399 4 _ (by decide) rfl (by kernel_rfl)
                   have hv401 : fr395 248 = .int .i64 (((J : Int) - 1) + ((i2 : Int))) := hD399 7 _ (by decide) rfl (by kernel_rfl)
                   exact DV.oe (dv_indexO (g := b96) (l := (xs.length + 1)) (c := (xs.length + 1)) (i := ((J - 1) + (i2))) (j := ((J : Int) - 1) + ((i2 : Int))) us57 sz24 (T rfl hv400) (T rfl hv401) (by omega) (by first | omega | (simp; done) | (simp; omega))) (by rw [if_neg (by decide)]; exact ⟨rfl, rfl⟩)
                 · intro fr402 w403 hB404 hF405 hD406
                   obtain rfl := hB404 (.inr (by kernel_rfl))
                   have hv407 : fr402 249 = .pointer (some ⟨b96, (((J - 1) + (i2))), none⟩) := hD406 8 _ (by decide) rfl (by kernel_rfl)
                   have H408 := (d349.ext.blk H344)
                   exact DV.oe (dv_loadW (L := R) (v := R.getD (((J - 1) + (i2))) 0) agt24 (T rfl hv407) H408 (by first | omega | (simp; done) | (simp; omega)) rfl) (by rw [if_neg (by decide)]; exact ⟨rfl, rfl⟩)
                 · intro fr409 w410 hB411 hF412 hD413
                   obtain rfl := hB411 (.inr (by kernel_rfl))
                   exact DV.oe (dv_move (T rfl ((hF412 11 (by kernel_rfl)).trans f294))) (by rw [if_neg (by decide)]; exact ⟨rfl, rfl⟩)
                 · intro fr414 w415 hB416 hF417 hD418
                   obtain rfl := hB416 (.inr (by kernel_rfl))
                   exact DV.oe (dv_move (T rfl (hF417 27 (by kernel_rfl)))) (by rw [if_neg (by decide)]; exact ⟨rfl, rfl⟩)
                 · intro fr419 w420 hB421 hF422 hD423
                   obtain rfl := hB421 (.inr (by kernel_rfl))
                   have hv424 : fr419 251 = .slice (some ⟨b84, 0, none⟩) lb ((ys.length + 1)) := hD423 10 _ (by decide) rfl (by kernel_rfl)
                   have hv425 : fr419 252 = .int .i64 ((i2 : Int)) := hD423 11 _ (by decide) rfl (by kernel_rfl)
                   exact DV.oe (dv_indexO (g := b84) (l := lb) (c := (ys.length + 1)) (i := i2) (j := (i2 : Int)) us57 sz24 (T rfl hv424) (T rfl hv425) (by omega) (by first | omega | (simp; done) | (simp; omega))) (by rw [if_neg (by decide)]; exact ⟨rfl, rfl⟩)
                 · intro fr426 w427 hB428 hF429 hD430
                   obtain rfl := hB428 (.inr (by kernel_rfl))
                   have hv431 : fr426 253 = .pointer (some ⟨b84, i2, none⟩) := hD430 12 _ (by decide) rfl (by kernel_rfl)
                   have H432 := (d349.ext.blk H343)
                   exact DV.oe (dv_loadW (L := L85) (v := L85.getD i2 0) agt24 (T rfl hv431) H432 (by first | omega | (simp; done) | (simp; omega)) rfl) (by rw [if_neg (by decide)]; exact ⟨rfl, rfl⟩)
                 · intro fr433 w434 hB435 hF436 hD437
                   obtain rfl := hB435 (.inr (by kernel_rfl))
                   exact DV.oe (dv_move (T rfl ((hF436 26 (by kernel_rfl)).trans f301))) (by rw [if_neg (by decide)]; exact ⟨rfl, rfl⟩)
                 · intro fr438 w439 hB440 hF441 hD442
                   obtain rfl := hB440 (.inr (by kernel_rfl))
                   have hv443 : fr438 250 = .int .u64 (R.getD (((J - 1) + (i2))) 0) := hD442 9 _ (by decide) rfl (by kernel_rfl)
                   have hv444 : fr438 254 = .int .u64 (L85.getD i2 0) := hD442 13 _ (by decide) rfl (by kernel_rfl)
                   have hv445 : fr438 255 = .int .u64 cr := hD442 14 _ (by decide) rfl (by kernel_rfl)
                   exact DV.oe (dv_ext (e := add64Entry) (vs := [.int .u64 (R.getD (((J - 1) + (i2))) 0), .int .u64 (L85.getD i2 0), .int .u64 cr]) Try.func95 rfl rfl (by kernel_rfl) (by kernel_rfl) (ar3 (T rfl hv443) (T rfl hv444) (T rfl hv445)) (run_addE (R.getD (((J - 1) + (i2))) 0) (L85.getD i2 0) cr (by omega) (by omega) (by omega))) (by rw [if_neg (by decide)]; exact ⟨rfl, rfl⟩)
                 · intro fr446 w447 hB448 hF449 hD450
                   obtain rfl := hB448 (.inr (by kernel_rfl))
                   have hv451 : fr446 256 = .tuple #[.int .u64 (((R.getD (((J - 1) + (i2))) 0) + (L85.getD i2 0) + cr) % 18446744073709551616), .int .u64 (((R.getD (((J - 1) + (i2))) 0) + (L85.getD i2 0) + cr) / 18446744073709551616)] := hD450 15 _ (by decide) rfl (by kernel_rfl)
                   exact DV.oe (dv_move (T rfl hv451)) (by rw [if_neg (by decide)]; exact ⟨rfl, rfl⟩)
                 · intro fr452 w453 hB454 hF455 hD456
                   obtain rfl := hB454 (.inr (by kernel_rfl))
                   have hv457 : fr452 240 = .tuple #[.int .u64 (((R.getD (((J - 1) + (i2))) 0) + (L85.getD i2 0) + cr) % 18446744073709551616), .int .u64 (((R.getD (((J - 1) + (i2))) 0) + (L85.getD i2 0) + cr) / 18446744073709551616)] := hD456 16 _ (by decide) rfl (by kernel_rfl)
                   exact DV.oe (dv_extract (vs := #[.int .u64 (((R.getD (((J - 1) + (i2))) 0) + (L85.getD i2 0) + cr) % 18446744073709551616), .int .u64 (((R.getD (((J - 1) + (i2))) 0) + (L85.getD i2 0) + cr) / 18446744073709551616)]) (T rfl hv457) rfl) (by rw [if_neg (by decide)]; exact ⟨rfl, rfl⟩)
                 · intro fr458 w459 hB460 hF461 hD462
                   have hv463 : fr458 240 = .tuple #[.int .u64 (((R.getD (((J - 1) + (i2))) 0) + (L85.getD i2 0) + cr) % 18446744073709551616), .int .u64 (((R.getD (((J - 1) + (i2))) 0) + (L85.getD i2 0) + cr) / 18446744073709551616)] := hD462 16 _ (by decide) rfl (by kernel_rfl)
                   exact DV.oe (dv_extract (vs := #[.int .u64 (((R.getD (((J - 1) + (i2))) 0) + (L85.getD i2 0) + cr) % 18446744073709551616), .int .u64 (((R.getD (((J - 1) + (i2))) 0) + (L85.getD i2 0) + cr) / 18446744073709551616)]) (T rfl hv463) rfl) (by rw [if_neg (by decide)]; exact ⟨rfl, rfl⟩)
                 · intro fr464 w465 hB466 hF467 hD468
                   obtain rfl := hB466 (.inr (by kernel_rfl))
                   have hv469 : fr464 241 = .slice (some ⟨b96, 0, none⟩) ((xs.length + 1)) ((xs.length + 1)) := hD468 0 _ (by decide) rfl (by kernel_rfl)
                   have hv470 : fr464 244 = .int .i64 (((J : Int) - 1) + ((i2 : Int))) := hD468 3 _ (by decide) rfl (by kernel_rfl)
                   exact DV.oe (dv_indexO (g := b96) (l := (xs.length + 1)) (c := (xs.length + 1)) (i := ((J - 1) + (i2))) (j := ((J : Int) - 1) + ((i2 : Int))) us57 sz24 (T rfl hv469) (T rfl hv470) (by omega) (by first | omega | (simp; done) | (simp; omega))) (by rw [if_neg (by decide)]; exact ⟨rfl, rfl⟩)
                 · intro fr471 w472 hB473 hF474 hD475
                   obtain rfl := hB473 (.inl rfl)
                   have hv476 : fr471 257 = .int .u64 (((R.getD (((J - 1) + (i2))) 0) + (L85.getD i2 0) + cr) % 18446744073709551616) := hD475 17 _ (by decide) rfl (by kernel_rfl)
                   have hv477 : fr471 259 = .pointer (some ⟨b96, (((J - 1) + (i2))), none⟩) := hD475 19 _ (by decide) rfl (by kernel_rfl)
                   have H478 := (d349.ext.blk H344)
                   refine id (oe_storeW (L := R) (i := ((J - 1) + (i2))) (z := ((R.getD (((J - 1) + (i2))) 0) + (L85.getD i2 0) + cr) % 18446744073709551616) sz24 (T rfl hv477) (T rfl hv476) H478 (by first | omega | (simp; done) | (simp; omega)) ?_)
                   intro w479 s480 H481
                   have E482 := below_st E350 N106 s480
                   rw [if_pos rfl]
                   exact ⟨_, d349, s480, H481⟩
                 · intro fr483 w484 hB485 hF486 hD487
                   have hv488 : fr483 258 = .int .u64 (((R.getD (((J - 1) + (i2))) 0) + (L85.getD i2 0) + cr) / 18446744073709551616) := hD487 18 _ (by decide) rfl (by kernel_rfl)
                   exact DV.oe (dv_assign (T rfl hv488)) (by rw [if_neg (by decide)]; exact ⟨rfl, rfl⟩)
               intro fr489 w490 hK491 hF492 hP493
               obtain ⟨w494, d495, s496, H497⟩ := hK491
               have E498 := below_ext E342 E342.size d495.ext
               have H499 := (d495.ext.blk H344)
               have E500 := below_st E498 N106 s496
               obtain ⟨p501, p502, p503, p504, p505, p506, p507, p508, p509, p510, p511, p512, p513, p514, p515, p516, p517, p518, p519, p520, _, p521, _⟩ := hP493
               have hv522 : fr489 241 = .slice (some ⟨b96, 0, none⟩) ((xs.length + 1)) ((xs.length + 1)) := p501.resolve_left (by decide)
               have hv523 : fr489 242 = .int .i64 ((J : Int) - 1) := p502.resolve_left (by decide)
               have hv524 : fr489 243 = .int .i64 ((i2 : Int)) := p503.resolve_left (by decide)
               have hv525 : fr489 244 = .int .i64 (((J : Int) - 1) + ((i2 : Int))) := p504.resolve_left (by decide)
               have hv526 : fr489 245 = .slice (some ⟨b96, 0, none⟩) ((xs.length + 1)) ((xs.length + 1)) := p505.resolve_left (by decide)
               have hv527 : fr489 246 = .int .i64 ((J : Int) - 1) := p506.resolve_left (by decide)
               have hv528 : fr489 247 = .int .i64 ((i2 : Int)) := p507.resolve_left (by decide)
               have hv529 : fr489 248 = .int .i64 (((J : Int) - 1) + ((i2 : Int))) := p508.resolve_left (by decide)
               have hv530 : fr489 249 = .pointer (some ⟨b96, (((J - 1) + (i2))), none⟩) := p509.resolve_left (by decide)
               have hv531 : fr489 250 = .int .u64 (R.getD (((J - 1) + (i2))) 0) := p510.resolve_left (by decide)
               have hv532 : fr489 251 = .slice (some ⟨b84, 0, none⟩) lb ((ys.length + 1)) := p511.resolve_left (by decide)
               have hv533 : fr489 252 = .int .i64 ((i2 : Int)) := p512.resolve_left (by decide)
               have hv534 : fr489 253 = .pointer (some ⟨b84, i2, none⟩) := p513.resolve_left (by decide)
               have hv535 : fr489 254 = .int .u64 (L85.getD i2 0) := p514.resolve_left (by decide)
               have hv536 : fr489 255 = .int .u64 cr := p515.resolve_left (by decide)
               have hv537 : fr489 256 = .tuple #[.int .u64 (((R.getD (((J - 1) + (i2))) 0) + (L85.getD i2 0) + cr) % 18446744073709551616), .int .u64 (((R.getD (((J - 1) + (i2))) 0) + (L85.getD i2 0) + cr) / 18446744073709551616)] := p516.resolve_left (by decide)
               have hv538 : fr489 240 = .tuple #[.int .u64 (((R.getD (((J - 1) + (i2))) 0) + (L85.getD i2 0) + cr) % 18446744073709551616), .int .u64 (((R.getD (((J - 1) + (i2))) 0) + (L85.getD i2 0) + cr) / 18446744073709551616)] := p517.resolve_left (by decide)
               have hv539 : fr489 257 = .int .u64 (((R.getD (((J - 1) + (i2))) 0) + (L85.getD i2 0) + cr) % 18446744073709551616) := p518.resolve_left (by decide)
               have hv540 : fr489 258 = .int .u64 (((R.getD (((J - 1) + (i2))) 0) + (L85.getD i2 0) + cr) / 18446744073709551616) := p519.resolve_left (by decide)
               have hv541 : fr489 259 = .pointer (some ⟨b96, (((J - 1) + (i2))), none⟩) := p520.resolve_left (by decide)
               have hv542 : fr489 26 = .int .u64 (((R.getD (((J - 1) + (i2))) 0) + (L85.getD i2 0) + cr) / 18446744073709551616) := p521.resolve_left (by decide)
               refine rk_inBlock ?_
               refine rk_reg ?_
               refine lw_v (.int .i64 (((i2 : Int)) + 1)) (dv_add (a := (i2 : Int)) (b := 1) (z := ((i2 : Int)) + 1) (T rfl ((hF492 237 rfl).trans f341)) C (wr_i64 (by omega) (by omega))) ?_
               refine lw_v (.int .i64 (((i2 : Int)) + 1)) (dv_move (T rfl rfl)) ?_
               refine lw_nil ?_
               have H543 := (s496.blk (d495.ext.blk H343) (by omega))
               have H544 := (s496.blk (d495.ext.blk H345) (by omega))
               exact ih287 (lb - ((i2 + 1))) _ _ (by rw [hd346]; omega) ⟨(i2 + 1), (R.set (((J - 1) + (i2))) (((R.getD (((J - 1) + (i2))) 0) + (L85.getD i2 0) + cr) % 18446744073709551616)), (((R.getD (((J - 1) + (i2))) 0) + (L85.getD i2 0) + cr) / 18446744073709551616), rfl, ((hF492 4 rfl).trans f290), ((hF492 5 rfl).trans f291), ((hF492 6 rfl).trans f292), ((hF492 10 rfl).trans f293), ((hF492 11 rfl).trans f294), ((hF492 12 rfl).trans f295), ((hF492 13 rfl).trans f296), ((hF492 14 rfl).trans f297), ((hF492 15 rfl).trans f298), ((hF492 20 rfl).trans f299), ((hF492 21 rfl).trans f300), hv542, ((hF492 94 rfl).trans f302), ((hF492 95 rfl).trans f303), ((hF492 98 rfl).trans f304), ((hF492 99 rfl).trans f305), ((hF492 100 rfl).trans f306), ((hF492 101 rfl).trans f307), ((hF492 102 rfl).trans f308), ((hF492 103 rfl).trans f309), ((hF492 104 rfl).trans f310), ((hF492 105 rfl).trans f311), ((hF492 106 rfl).trans f312), ((hF492 107 rfl).trans f313), ((hF492 108 rfl).trans f314), ((hF492 109 rfl).trans f315), ((hF492 175 rfl).trans f316), ((hF492 176 rfl).trans f317), ((hF492 177 rfl).trans f318), ((hF492 215 rfl).trans f319), ((hF492 216 rfl).trans f320), ((hF492 217 rfl).trans f321), ((hF492 218 rfl).trans f322), ((hF492 219 rfl).trans f323), ((hF492 220 rfl).trans f324), ((hF492 221 rfl).trans f325), ((hF492 222 rfl).trans f326), ((hF492 223 rfl).trans f327), ((hF492 224 rfl).trans f328), ((hF492 225 rfl).trans f329), ((hF492 226 rfl).trans f330), ((hF492 227 rfl).trans f331), ((hF492 228 rfl).trans f332), ((hF492 229 rfl).trans f333), ((hF492 230 rfl).trans f334), ((hF492 231 rfl).trans f335), ((hF492 232 rfl).trans f336), ((hF492 233 rfl).trans f337), ((hF492 234 rfl).trans f338), ((hF492 235 rfl).trans f339), ((hF492 236 rfl).trans f340), (vi (by omega)), E500, H543, H497, H544, (by omega), (by simp [hRl]), (okW.set hRo (by omega) (by omega) _), (by omega), (madd_step (by omega) hR (by rw [p64]; exact modsum _)), (fun k hk => by rw [Fw.getD_set_neQ _ _ _ _ (by omega)]; exact hRz k hk)⟩
             · refine rk_cf (T rfl (congrArg Value.bool (decide_eq_false hb347))) ?_
               refine rk_exit rfl ?_
               refine rk_seq ?_
               refine rk_reg ?_
               refine lw_v (.slice (some ⟨b96, 0, none⟩) ((xs.length + 1)) ((xs.length + 1))) (dv_move (T rfl f295)) ?_
               refine lw_v (.int .i64 ((J : Int) - 1)) (dv_move (T rfl f297)) ?_
               refine lw_v (.int .i64 ((lb : Int))) (dv_move (T rfl f292)) ?_
               refine lw_v (.int .i64 (((J : Int) - 1) + ((lb : Int)))) (dv_add (a := (J : Int) - 1) (b := (lb : Int)) (z := ((J : Int) - 1) + ((lb : Int))) (T rfl rfl) (T rfl rfl) (wr_i64 (by omega) (by omega))) ?_
               refine lw_v (.slice (some ⟨b96, 0, none⟩) ((xs.length + 1)) ((xs.length + 1))) (dv_move (T rfl f295)) ?_
               refine lw_v (.int .i64 ((J : Int) - 1)) (dv_move (T rfl f297)) ?_
               refine lw_v (.int .i64 ((lb : Int))) (dv_move (T rfl f292)) ?_
               refine lw_v (.int .i64 (((J : Int) - 1) + ((lb : Int)))) (dv_add (a := (J : Int) - 1) (b := (lb : Int)) (z := ((J : Int) - 1) + ((lb : Int))) (T rfl rfl) (T rfl rfl) (wr_i64 (by omega) (by omega))) ?_
               refine lw_v (.pointer (some ⟨b96, (((J - 1) + (lb))), none⟩)) (dv_indexO (g := b96) (l := (xs.length + 1)) (c := (xs.length + 1)) (i := ((J - 1) + (lb))) (j := ((J : Int) - 1) + ((lb : Int))) us57 sz24 (T rfl rfl) (T rfl rfl) (by omega) (by first | omega | (simp; done) | (simp; omega))) ?_
               refine lw_v (.int .u64 (R.getD (((J - 1) + (lb))) 0)) (dv_loadW (L := R) (v := R.getD (((J - 1) + (lb))) 0) agt24 (T rfl rfl) H344 (by first | omega | (simp; done) | (simp; omega)) rfl) ?_
               refine lw_v (.int .u64 cr) (dv_move (T rfl f301)) ?_
               refine lw_v (.tuple #[.int .u64 (((R.getD (((J - 1) + (lb))) 0) + 0 + cr) % 18446744073709551616), .int .u64 (((R.getD (((J - 1) + (lb))) 0) + 0 + cr) / 18446744073709551616)]) (dv_ext (e := add64Entry) (vs := [.int .u64 (R.getD (((J - 1) + (lb))) 0), .int .u64 0, .int .u64 cr]) Try.func95 rfl rfl (by kernel_rfl) (by kernel_rfl) (ar3 (T rfl rfl) C (T rfl rfl)) (run_addE (R.getD (((J - 1) + (lb))) 0) 0 cr (by omega) (by omega) (by omega))) ?_
               refine lw_v (.tuple #[.int .u64 (((R.getD (((J - 1) + (lb))) 0) + 0 + cr) % 18446744073709551616), .int .u64 (((R.getD (((J - 1) + (lb))) 0) + 0 + cr) / 18446744073709551616)]) (dv_move (T rfl rfl)) ?_
               refine lw_v (.int .u64 (((R.getD (((J - 1) + (lb))) 0) + 0 + cr) % 18446744073709551616)) (dv_extract (vs := #[.int .u64 (((R.getD (((J - 1) + (lb))) 0) + 0 + cr) % 18446744073709551616), .int .u64 (((R.getD (((J - 1) + (lb))) 0) + 0 + cr) / 18446744073709551616)]) (T rfl rfl) rfl) ?_
               refine lw_v (.int .u64 (((R.getD (((J - 1) + (lb))) 0) + 0 + cr) / 18446744073709551616)) (dv_extract (vs := #[.int .u64 (((R.getD (((J - 1) + (lb))) 0) + 0 + cr) % 18446744073709551616), .int .u64 (((R.getD (((J - 1) + (lb))) 0) + 0 + cr) / 18446744073709551616)]) (T rfl rfl) rfl) ?_
               refine lw_v (.pointer (some ⟨b96, (((J - 1) + (lb))), none⟩)) (dv_indexO (g := b96) (l := (xs.length + 1)) (c := (xs.length + 1)) (i := ((J - 1) + (lb))) (j := ((J : Int) - 1) + ((lb : Int))) us57 sz24 (T rfl rfl) (T rfl rfl) (by omega) (by first | omega | (simp; done) | (simp; omega))) ?_
               refine lw_e (oe_storeW (L := R) (i := ((J - 1) + (lb))) (z := ((R.getD (((J - 1) + (lb))) 0) + 0 + cr) % 18446744073709551616) sz24 (T rfl rfl) (T rfl rfl) H344 (by first | omega | (simp; done) | (simp; omega)) ?_)
               intro w545 s546 H547
               have E548 := below_st E342 N106 s546
               refine lw_v (.int .u64 (((R.getD (((J - 1) + (lb))) 0) + 0 + cr) / 18446744073709551616)) (dv_assign (T rfl rfl)) ?_
               refine lw_nil ?_
               refine rk_reg ?_
               refine lw_v (.int .u64 bb) (dv_move (T rfl f299)) ?_
               refine lw_v (.int .u64 (((R.getD (((J - 1) + (lb))) 0) + 0 + cr) / 18446744073709551616)) (dv_move (T rfl rfl)) ?_
               refine lw_v (.int .u64 (bb - (((R.getD (((J - 1) + (lb))) 0) + 0 + cr) / 18446744073709551616))) (dv_sub (a := bb) (b := ((R.getD (((J - 1) + (lb))) 0) + 0 + cr) / 18446744073709551616) (z := bb - (((R.getD (((J - 1) + (lb))) 0) + 0 + cr) / 18446744073709551616)) (T rfl rfl) (T rfl rfl) (wn_u64 (by omega) (by omega))) ?_
               refine lw_v (.int .u64 (bb - (((R.getD (((J - 1) + (lb))) 0) + 0 + cr) / 18446744073709551616))) (dv_assign (T rfl rfl)) ?_
               refine lw_nil ?_
               refine rk_inBlock ?_
               have H549 := (s546.blk H343 (by omega))
               have H550 := (s546.blk H345 (by omega))
               exact ih231 (((qq - 1)).toNat) _ _ (by rw [hd283]; omega) ⟨(qq - 1), (R.set (((J - 1) + (lb))) (((R.getD (((J - 1) + (lb))) 0) + 0 + cr) % 18446744073709551616)), (bb - (((R.getD (((J - 1) + (lb))) 0) + 0 + cr) / 18446744073709551616)), rfl, f290, f291, f292, f293, f294, f295, f296, f297, f298, rfl, f300, f302, f303, f304, f305, f306, f307, f308, f309, f310, f311, f312, f313, f314, f315, f316, f317, f318, f319, f320, f321, f322, f323, f324, f325, f326, f327, f328, f329, f330, f331, f332, f333, f334, f335, E548, H549, H547, H550, (by omega), (by simp [hRl]), (okW.set hRo (by omega) (by omega) _), (by omega), (by have h := hR; rw [show i2 = lb by omega, hVt] at h; have h2 := back_step (by rw [show bb = 1 by omega] at hP; exact hP) (madd_top (by omega) h (by rw [p64]; exact modsum _)); rw [h2]; congr 2; omega), (fun k hk => by rw [Fw.getD_set_neQ _ _ _ _ (by omega)]; exact hRz k hk), (by rw [show qq - 1 + 1 = qq by omega]; exact hneg)⟩
           · refine rk_cf (T rfl (congrArg Value.bool (decide_eq_false hb284))) ?_
             refine rk_exit rfl ?_
             refine rk_reg ?_
             refine lw_v (.slice (some ⟨b107, 0, none⟩) ((((la) - (lb)) + 1)) ((((la) - (lb)) + 1))) (dv_move (T rfl f240)) ?_
             refine lw_v (.int .i64 ((J : Int) - 1)) (dv_move (T rfl f241)) ?_
             refine lw_v (.int .u64 qq) (dv_move (T rfl f242)) ?_
             refine lw_v (.pointer (some ⟨b107, ((J - 1)), none⟩)) (dv_indexO (g := b107) (l := (((la) - (lb)) + 1)) (c := (((la) - (lb)) + 1)) (i := (J - 1)) (j := (J : Int) - 1) us57 sz24 (T rfl rfl) (T rfl rfl) (by omega) (by first | omega | (simp; done) | (simp; omega))) ?_
             refine lw_e (oe_storeW (L := O) (i := (J - 1)) (z := qq) sz24 (T rfl rfl) (T rfl rfl) H282 (by first | omega | (simp; done) | (simp; omega)) ?_)
             intro w551 s552 H553
             have E554 := below_st E279 N110 s552
             refine lw_nil ?_
             refine rk_inBlock ?_
             refine rk_reg ?_
             refine lw_v (.int .i64 ((J : Int) - 1)) (dv_move (T rfl f241)) ?_
             refine lw_v (.int .i64 (((J : Int) - 1) - 1)) (dv_sub (a := (J : Int) - 1) (b := 1) (z := ((J : Int) - 1) - 1) (T rfl rfl) C (wr_i64 (by omega) (by omega))) ?_
             refine lw_v (.int .i64 (((J : Int) - 1) - 1)) (dv_assign (T rfl rfl)) ?_
             refine lw_nil ?_
             have hbb0 : bb = 0 := by omega
             rw [hbb0] at hP
             have hfd := digit_found (j := J - 1) (by omega) (hO0 _ (by omega)) hP hV hgq
             have H555 := (s552.blk H280 (by omega))
             have H556 := (s552.blk H281 (by omega))
             exact ih116 (((J - 1))) _ _ (by rw [hd131]; omega) ⟨(J - 1), P, (O.set ((J - 1)) qq), rfl, f234, f235, f236, f237, f238, f239, f240, (vi (by omega)), E554, H555, H556, H553, (by omega), hPl, (by simp [hOl]), hPo, (okW.set hOo hqq.1 (by omega) _), (fun k hk => by rw [Fw.getD_set_neQ _ _ _ _ (by omega)]; exact hO0 k (by omega)), hfd.1, hfd.2⟩
       · by_cases hb557 : (U.getD (((J - 1) + (lb))) 0) < (L85.getD (((lb) - 1)) 0)
         · refine rk_ct (T rfl (congrArg Value.bool (decide_eq_true hb557))) ?_
           refine rk_seq ?_
           refine rk_reg ?_
           refine lw_v (.int .u64 0) (dv_assign C) ?_
           refine lw_nil ?_
           refine rk_seq ?_
           refine rk_any (fun w => w.heap[b96]? = some (.cells (U.map (Value.int .u64)).toArray 24) ∧ w.heap[b84]? = some (.cells (L85.map (Value.int .u64)).toArray 24)) [23] mo ?_
           intro w558 d559
           have E560 := below_ext E140 E140.size d559.ext
           have H561 := (d559.ext.blk H141)
           have H562 := (d559.ext.blk H142)
           refine aw_pure 0 (.slice (some ⟨b96, 0, none⟩) ((xs.length + 1)) ((xs.length + 1))) rfl (by kernel_rfl) .none ⟨H561, H562⟩ (fun _ => dv_move (T rfl f124)) ?_
           refine aw_pure 1 (.int .i64 ((J : Int) - 1)) rfl (by kernel_rfl) .none ⟨H561, H562⟩ (fun _ => dv_move (T rfl f126)) ?_
           refine aw_pure 2 (.int .i64 ((lb : Int))) rfl (by kernel_rfl) .none ⟨H561, H562⟩ (fun _ => dv_move (T rfl f121)) ?_
           refine aw_pure 3 (.int .i64 (((J : Int) - 1) + ((lb : Int)))) rfl (by kernel_rfl) .none ⟨H561, H562⟩ (fun _ => dv_add (a := (J : Int) - 1) (b := (lb : Int)) (z := ((J : Int) - 1) + ((lb : Int))) (T rfl rfl) (T rfl rfl) (wr_i64 (by omega) (by omega))) ?_
           refine aw_pure 4 (.pointer (some ⟨b96, (((J - 1) + (lb))), none⟩)) rfl (by kernel_rfl) .none ⟨H561, H562⟩ (fun _ => dv_indexO (g := b96) (l := (xs.length + 1)) (c := (xs.length + 1)) (i := ((J - 1) + (lb))) (j := ((J : Int) - 1) + ((lb : Int))) us57 sz24 (T rfl rfl) (T rfl rfl) (by omega) (by first | omega | (simp; done) | (simp; omega))) ?_
           refine aw_load 5 (.int .u64 (U.getD (((J - 1) + (lb))) 0)) rfl (by kernel_rfl) .none ⟨H561, H562⟩ (fun _ s => dv_loadW (L := U) (v := U.getD (((J - 1) + (lb))) 0) agt24 (T rfl rfl) s.1 (by first | omega | (simp; done) | (simp; omega)) rfl) ?_
           refine aw_pure 6 (.slice (some ⟨b96, 0, none⟩) ((xs.length + 1)) ((xs.length + 1))) rfl (by kernel_rfl) .none ⟨H561, H562⟩ (fun _ => dv_move (T rfl f124)) ?_
           refine aw_pure 7 (.int .i64 ((J : Int) - 1)) rfl (by kernel_rfl) .none ⟨H561, H562⟩ (fun _ => dv_move (T rfl f126)) ?_
           refine aw_pure 8 (.int .i64 ((lb : Int))) rfl (by kernel_rfl) .none ⟨H561, H562⟩ (fun _ => dv_move (T rfl f121)) ?_
           refine aw_pure 9 (.int .i64 (((J : Int) - 1) + ((lb : Int)))) rfl (by kernel_rfl) .none ⟨H561, H562⟩ (fun _ => dv_add (a := (J : Int) - 1) (b := (lb : Int)) (z := ((J : Int) - 1) + ((lb : Int))) (T rfl rfl) (T rfl rfl) (wr_i64 (by omega) (by omega))) ?_
           refine aw_pure 10 (.int .i64 ((((J : Int) - 1) + ((lb : Int))) - 1)) rfl (by kernel_rfl) .none ⟨H561, H562⟩ (fun _ => dv_sub (a := ((J : Int) - 1) + ((lb : Int))) (b := 1) (z := (((J : Int) - 1) + ((lb : Int))) - 1) (T rfl rfl) C (wr_i64 (by omega) (by omega))) ?_
           refine aw_pure 11 (.pointer (some ⟨b96, ((((J - 1) + (lb)) - 1)), none⟩)) rfl (by kernel_rfl) .none ⟨H561, H562⟩ (fun _ => dv_indexO (g := b96) (l := (xs.length + 1)) (c := (xs.length + 1)) (i := (((J - 1) + (lb)) - 1)) (j := (((J : Int) - 1) + ((lb : Int))) - 1) us57 sz24 (T rfl rfl) (T rfl rfl) (by omega) (by first | omega | (simp; done) | (simp; omega))) ?_
           refine aw_load 12 (.int .u64 (U.getD ((((J - 1) + (lb)) - 1)) 0)) rfl (by kernel_rfl) .none ⟨H561, H562⟩ (fun _ s => dv_loadW (L := U) (v := U.getD ((((J - 1) + (lb)) - 1)) 0) agt24 (T rfl rfl) s.1 (by first | omega | (simp; done) | (simp; omega)) rfl) ?_
           refine aw_pure 13 (.slice (some ⟨b84, 0, none⟩) lb ((ys.length + 1))) rfl (by kernel_rfl) .none ⟨H561, H562⟩ (fun _ => dv_move (T rfl f123)) ?_
           refine aw_pure 14 (.int .i64 ((lb : Int))) rfl (by kernel_rfl) .none ⟨H561, H562⟩ (fun _ => dv_move (T rfl f121)) ?_
           refine aw_pure 15 (.int .i64 (((lb : Int)) - 1)) rfl (by kernel_rfl) .none ⟨H561, H562⟩ (fun _ => dv_sub (a := (lb : Int)) (b := 1) (z := ((lb : Int)) - 1) (T rfl rfl) C (wr_i64 (by omega) (by omega))) ?_
           refine aw_pure 16 (.pointer (some ⟨b84, (((lb) - 1)), none⟩)) rfl (by kernel_rfl) .none ⟨H561, H562⟩ (fun _ => dv_indexO (g := b84) (l := lb) (c := (ys.length + 1)) (i := ((lb) - 1)) (j := ((lb : Int)) - 1) us57 sz24 (T rfl rfl) (T rfl rfl) (by omega) (by first | omega | (simp; done) | (simp; omega))) ?_
           refine aw_load 17 (.int .u64 (L85.getD (((lb) - 1)) 0)) rfl (by kernel_rfl) .none ⟨H561, H562⟩ (fun _ s => dv_loadW (L := L85) (v := L85.getD (((lb) - 1)) 0) agt24 (T rfl rfl) s.2 (by first | omega | (simp; done) | (simp; omega)) rfl) ?_
           refine aw_one 18 rfl (by kernel_rfl) .none (oe_callf (vs := [.int .u64 (U.getD (((J - 1) + (lb))) 0), .int .u64 (U.getD ((((J - 1) + (lb)) - 1)) 0), .int .u64 (L85.getD (((lb) - 1)) 0)]) co111 (ar3 (T rfl rfl) (T rfl rfl) (T rfl rfl)) (div64_q (hi := U.getD (((J - 1) + (lb))) 0) (lo := U.getD ((((J - 1) + (lb)) - 1)) 0) (y := L85.getD (((lb) - 1)) 0) (by omega) (by omega) (by omega) (by omega)) ?_)
           rintro _ w566 ⟨qd563, rd564, rfl, e567, hd565⟩
           have E568 := below_ext E560 E560.size e567
           obtain ⟨hd565a, hd565b, hd565c, hd565d⟩ := hd565
           have H569 := (e567.blk H561)
           have H570 := (e567.blk H562)
           refine ⟨.inr ⟨H569, H570⟩, ?_⟩
           refine aw_pure 19 (.tuple #[.int .u64 qd563, .int .u64 rd564]) rfl (by kernel_rfl) .none ⟨H569, H570⟩ (fun _ => dv_move (T rfl rfl)) ?_
           refine aw_pure 20 (.int .u64 qd563) rfl (by kernel_rfl) .none ⟨H569, H570⟩ (fun _ => dv_extract (vs := #[.int .u64 qd563, .int .u64 rd564]) (T rfl rfl) rfl) ?_
           refine aw_pure 21 (.int .u64 rd564) rfl (by kernel_rfl) .none ⟨H569, H570⟩ (fun _ => dv_extract (vs := #[.int .u64 qd563, .int .u64 rd564]) (T rfl rfl) rfl) ?_
           refine aw_pure 22 (.int .u64 qd563) rfl (by kernel_rfl) .none ⟨H569, H570⟩ (fun _ => dv_assign (T rfl rfl)) ?_
           refine aw_last 23 (.int .u64 rd564) rfl (by kernel_rfl) .none (fun _ => dv_assign (T rfl rfl)) ?_
           refine aw_done (by kernel_rfl) ?_
           refine rk_block ?_
           have H571 := (e567.blk (d559.ext.blk (d139.ext.blk H130)))
           refine rk_loop (fun dm_ fr wl => ∃ (qc rc : Int), dm_ = qc.toNat ∧ fr 4 = .slice none 0 0 ∧ fr 5 = .slice none 0 0 ∧ fr 6 = .int .i64 ((lb : Int)) ∧ fr 10 = .int .i64 ((S73 : Int)) ∧ fr 11 = .slice (some ⟨b84, 0, none⟩) lb ((ys.length + 1)) ∧ fr 12 = .slice (some ⟨b96, 0, none⟩) ((xs.length + 1)) ((xs.length + 1)) ∧ fr 13 = .slice (some ⟨b107, 0, none⟩) ((((la) - (lb)) + 1)) ((((la) - (lb)) + 1)) ∧ fr 14 = .int .i64 ((J : Int) - 1) ∧ fr 15 = .int .u64 qc ∧ fr 16 = .int .u64 rc ∧ fr 94 = .int .i64 ((J : Int) - 1) ∧ fr 95 = .bool (decide (0 ≤ ((J : Int) - 1))) ∧ fr 98 = .slice (some ⟨b96, 0, none⟩) ((xs.length + 1)) ((xs.length + 1)) ∧ fr 99 = .int .i64 ((J : Int) - 1) ∧ fr 100 = .int .i64 ((lb : Int)) ∧ fr 101 = .int .i64 (((J : Int) - 1) + ((lb : Int))) ∧ fr 102 = .pointer (some ⟨b96, (((J - 1) + (lb))), none⟩) ∧ fr 103 = .int .u64 (U.getD (((J - 1) + (lb))) 0) ∧ fr 104 = .slice (some ⟨b84, 0, none⟩) lb ((ys.length + 1)) ∧ fr 105 = .int .i64 ((lb : Int)) ∧ fr 106 = .int .i64 (((lb : Int)) - 1) ∧ fr 107 = .pointer (some ⟨b84, (((lb) - 1)), none⟩) ∧ fr 108 = .int .u64 (L85.getD (((lb) - 1)) 0) ∧ fr 109 = .bool (decide ((U.getD (((J - 1) + (lb))) 0) < (L85.getD (((lb) - 1)) 0))) ∧ Below w.heap.size w wl ∧ wl.heap[b84]? = some (.cells (L85.map (Value.int .u64)).toArray 24) ∧ wl.heap[b96]? = some (.cells (U.map (Value.int .u64)).toArray 24) ∧ wl.heap[b107]? = some (.cells (O.map (Value.int .u64)).toArray 24) ∧ (qc * L85.getD (lb - 1) 0 + rc = U.getD (J - 1 + lb) 0 * 18446744073709551616 + U.getD (J - 1 + lb - 1) 0) ∧ (0 ≤ qc ∧ qc < 18446744073709551616) ∧ (0 ≤ rc ∧ rc < 18446744073709551616) ∧ (valB (2 ^ 64) U < (qc + 1) * valB (2 ^ 64) L85 * (2 ^ 64) ^ (J - 1))) (qd563.toNat) ⟨qd563, rd564, rfl, f119, f120, f121, f122, f123, f124, f125, f126, rfl, rfl, rfl, rfl, rfl, rfl, rfl, rfl, rfl, rfl, rfl, rfl, rfl, rfl, rfl, rfl, E568, H570, H569, H571, (by omega), (by omega), (by omega), (guess64 (n := lb) hUo ho89 hVz hlb2 (by omega) (by omega) (by omega) hlt hd565a (by omega) (by omega))⟩ ?_
           intro d576 fr575 w572 hI573 ih574
           obtain ⟨qc, rc, hd605, f577, f578, f579, f580, f581, f582, f583, f584, f585, f586, f587, f588, f589, f590, f591, f592, f593, f594, f595, f596, f597, f598, f599, f600, E601, H602, H603, H604, hqc, hq0, hr0, hgc⟩ := hI573
           refine rk_block ?_
           refine rk_seq ?_
           refine rk_reg ?_
           refine lw_v (.int .u64 qc) (dv_move (T rfl f585)) ?_
           refine lw_v (.slice (some ⟨b84, 0, none⟩) lb ((ys.length + 1))) (dv_move (T rfl f581)) ?_
           refine lw_v (.int .i64 ((lb : Int))) (dv_move (T rfl f579)) ?_
           refine lw_v (.int .i64 (((lb : Int)) - 2)) (dv_sub (a := (lb : Int)) (b := 2) (z := ((lb : Int)) - 2) (T rfl rfl) C (wr_i64 (by omega) (by omega))) ?_
           refine lw_v (.pointer (some ⟨b84, (((lb) - 2)), none⟩)) (dv_indexO (g := b84) (l := lb) (c := (ys.length + 1)) (i := ((lb) - 2)) (j := ((lb : Int)) - 2) us57 sz24 (T rfl rfl) (T rfl rfl) (by omega) (by first | omega | (simp; done) | (simp; omega))) ?_
           refine lw_v (.int .u64 (L85.getD (((lb) - 2)) 0)) (dv_loadW (L := L85) (v := L85.getD (((lb) - 2)) 0) agt24 (T rfl rfl) H602 (by first | omega | (simp; done) | (simp; omega)) rfl) ?_
           have hm606 := mul_pos_bd (A := 18446744073709551615) (show 0 ≤ qc by omega) (by omega) (show 0 ≤ L85.getD (((lb) - 2)) 0 by omega) (by omega)
           refine lw_e (oe_callf (vs := [.int .u64 qc, .int .u64 (L85.getD (((lb) - 2)) 0)]) co94 (ar2 (T rfl rfl) (T rfl rfl)) (mul64_ok (by omega) (by omega)) ?_)
           rintro _ w607 ⟨rfl, e608⟩
           have E609 := below_ext E601 E601.size e608
           refine lw_v (.tuple #[.int .u64 (qc * (L85.getD (((lb) - 2)) 0) / 18446744073709551616), .int .u64 (qc * (L85.getD (((lb) - 2)) 0) % 18446744073709551616)]) (dv_move (T rfl rfl)) ?_
           refine lw_v (.int .u64 (qc * (L85.getD (((lb) - 2)) 0) / 18446744073709551616)) (dv_extract (vs := #[.int .u64 (qc * (L85.getD (((lb) - 2)) 0) / 18446744073709551616), .int .u64 (qc * (L85.getD (((lb) - 2)) 0) % 18446744073709551616)]) (T rfl rfl) rfl) ?_
           refine lw_v (.int .u64 (qc * (L85.getD (((lb) - 2)) 0) % 18446744073709551616)) (dv_extract (vs := #[.int .u64 (qc * (L85.getD (((lb) - 2)) 0) / 18446744073709551616), .int .u64 (qc * (L85.getD (((lb) - 2)) 0) % 18446744073709551616)]) (T rfl rfl) rfl) ?_
           refine lw_v (.int .u64 (qc * (L85.getD (((lb) - 2)) 0) / 18446744073709551616)) (dv_assign (T rfl rfl)) ?_
           refine lw_v (.int .u64 (qc * (L85.getD (((lb) - 2)) 0) % 18446744073709551616)) (dv_assign (T rfl rfl)) ?_
           refine lw_nil ?_
           refine rk_seq ?_
           refine rk_seq ?_
           refine rk_reg ?_
           refine lw_v (.int .u64 (qc * (L85.getD (((lb) - 2)) 0) / 18446744073709551616)) (dv_move (T rfl rfl)) ?_
           refine lw_v (.int .u64 rc) (dv_move (T rfl f586)) ?_
           refine lw_v (.bool (decide ((qc * (L85.getD (((lb) - 2)) 0) / 18446744073709551616) < rc))) (dv_lss (a := qc * (L85.getD (((lb) - 2)) 0) / 18446744073709551616) (b := rc) (T rfl rfl) (T rfl rfl)) ?_
           refine lw_v (.bool (decide ((qc * (L85.getD (((lb) - 2)) 0) / 18446744073709551616) < rc))) (dv_move (T rfl rfl)) ?_
           by_cases hb610 : (qc * (L85.getD (((lb) - 2)) 0) / 18446744073709551616) < rc
           · refine lw_no (d := 145) rfl rfl (congrArg Value.bool (decide_eq_true hb610)) ?_
             refine lw_no (d := 145) rfl rfl (congrArg Value.bool (decide_eq_true hb610)) ?_
             refine lw_no (d := 145) rfl rfl (congrArg Value.bool (decide_eq_true hb610)) ?_
             refine lw_no (d := 145) rfl rfl (congrArg Value.bool (decide_eq_true hb610)) ?_
             refine lw_nou (d := 149) rfl rfl ?_
             refine lw_nou (d := 149) rfl rfl ?_
             refine lw_nou (d := 149) rfl rfl ?_
             refine lw_nou (d := 149) rfl rfl ?_
             refine lw_nou (d := 149) rfl rfl ?_
             refine lw_nou (d := 149) rfl rfl ?_
             refine lw_nou (d := 149) rfl rfl ?_
             refine lw_nou (d := 149) rfl rfl ?_
             refine lw_nou (d := 149) rfl rfl ?_
             refine lw_no (d := 145) rfl rfl (congrArg Value.bool (decide_eq_true hb610)) ?_
             refine lw_v (.bool true) (dv_pick_t (T rfl (congrArg Value.bool (decide_eq_true hb610))) C) ?_
             refine lw_nil ?_
             refine rk_ct (T rfl rfl) ?_
             refine rk_exit rfl ?_
             have H611 := (e608.blk H602)
             have H612 := (e608.blk H603)
             have H613 := (e608.blk H604)
             exact hj145 _ _ ⟨qc, f577, f578, f579, f580, f581, f582, f583, f584, f585, f587, f588, f589, f590, f591, f592, f593, f594, f595, f596, f597, f598, f599, f600, E609, H611, H612, H613, hq0, hgc⟩
           · refine lw_vy (.int .u64 (qc * (L85.getD (((lb) - 2)) 0) / 18446744073709551616)) (d := 145) rfl rfl (congrArg Value.bool (decide_eq_false hb610)) (dv_move (T rfl rfl)) ?_
             refine lw_vy (.int .u64 rc) (d := 145) rfl rfl (congrArg Value.bool (decide_eq_false hb610)) (dv_move (T rfl f586)) ?_
             refine lw_vy (.bool (decide ((qc * (L85.getD (((lb) - 2)) 0) / 18446744073709551616) = rc))) (d := 145) rfl rfl (congrArg Value.bool (decide_eq_false hb610)) (dv_eql (a := qc * (L85.getD (((lb) - 2)) 0) / 18446744073709551616) (b := rc) (T rfl rfl) (T rfl rfl)) ?_
             refine lw_vy (.bool (decide ((qc * (L85.getD (((lb) - 2)) 0) / 18446744073709551616) = rc))) (d := 145) rfl rfl (congrArg Value.bool (decide_eq_false hb610)) (dv_move (T rfl rfl)) ?_
             by_cases hb614 : (qc * (L85.getD (((lb) - 2)) 0) / 18446744073709551616) = rc
             · refine lw_vy (.int .u64 (qc * (L85.getD (((lb) - 2)) 0) % 18446744073709551616)) (d := 149) rfl rfl (congrArg Value.bool (decide_eq_true hb614)) (dv_move (T rfl rfl)) ?_
               refine lw_vy (.slice (some ⟨b96, 0, none⟩) ((xs.length + 1)) ((xs.length + 1))) (d := 149) rfl rfl (congrArg Value.bool (decide_eq_true hb614)) (dv_move (T rfl f582)) ?_
               refine lw_vy (.int .i64 ((J : Int) - 1)) (d := 149) rfl rfl (congrArg Value.bool (decide_eq_true hb614)) (dv_move (T rfl f584)) ?_
               refine lw_vy (.int .i64 ((lb : Int))) (d := 149) rfl rfl (congrArg Value.bool (decide_eq_true hb614)) (dv_move (T rfl f579)) ?_
               refine lw_vy (.int .i64 (((J : Int) - 1) + ((lb : Int)))) (d := 149) rfl rfl (congrArg Value.bool (decide_eq_true hb614)) (dv_add (a := (J : Int) - 1) (b := (lb : Int)) (z := ((J : Int) - 1) + ((lb : Int))) (T rfl rfl) (T rfl rfl) (wr_i64 (by omega) (by omega))) ?_
               refine lw_vy (.int .i64 ((((J : Int) - 1) + ((lb : Int))) - 2)) (d := 149) rfl rfl (congrArg Value.bool (decide_eq_true hb614)) (dv_sub (a := ((J : Int) - 1) + ((lb : Int))) (b := 2) (z := (((J : Int) - 1) + ((lb : Int))) - 2) (T rfl rfl) C (wr_i64 (by omega) (by omega))) ?_
               refine lw_vy (.pointer (some ⟨b96, ((((J - 1) + (lb)) - 2)), none⟩)) (d := 149) rfl rfl (congrArg Value.bool (decide_eq_true hb614)) (dv_indexO (g := b96) (l := (xs.length + 1)) (c := (xs.length + 1)) (i := (((J - 1) + (lb)) - 2)) (j := (((J : Int) - 1) + ((lb : Int))) - 2) us57 sz24 (T rfl rfl) (T rfl rfl) (by omega) (by first | omega | (simp; done) | (simp; omega))) ?_
               have H615 := (e608.blk H603)
               refine lw_vy (.int .u64 (U.getD ((((J - 1) + (lb)) - 2)) 0)) (d := 149) rfl rfl (congrArg Value.bool (decide_eq_true hb614)) (dv_loadW (L := U) (v := U.getD ((((J - 1) + (lb)) - 2)) 0) agt24 (T rfl rfl) H615 (by first | omega | (simp; done) | (simp; omega)) rfl) ?_
               refine lw_vy (.bool (decide ((qc * (L85.getD (((lb) - 2)) 0) % 18446744073709551616) ≤ (U.getD ((((J - 1) + (lb)) - 2)) 0)))) (d := 149) rfl rfl (congrArg Value.bool (decide_eq_true hb614)) (dv_leq (a := qc * (L85.getD (((lb) - 2)) 0) % 18446744073709551616) (b := U.getD ((((J - 1) + (lb)) - 2)) 0) (T rfl rfl) (T rfl rfl)) ?_
               refine lw_vy (.bool (decide ((qc * (L85.getD (((lb) - 2)) 0) % 18446744073709551616) ≤ (U.getD ((((J - 1) + (lb)) - 2)) 0)))) (d := 145) rfl rfl (congrArg Value.bool (decide_eq_false hb610)) (dv_pick_t (T rfl (congrArg Value.bool (decide_eq_true hb614))) (T rfl rfl)) ?_
               refine lw_v (.bool (decide ((qc * (L85.getD (((lb) - 2)) 0) % 18446744073709551616) ≤ (U.getD ((((J - 1) + (lb)) - 2)) 0)))) (dv_pick_f (T rfl (congrArg Value.bool (decide_eq_false hb610))) (T rfl rfl)) ?_
               refine lw_nil ?_
               by_cases hb616 : (qc * (L85.getD (((lb) - 2)) 0) % 18446744073709551616) ≤ (U.getD ((((J - 1) + (lb)) - 2)) 0)
               · refine rk_ct (T rfl (congrArg Value.bool (decide_eq_true hb616))) ?_
                 refine rk_exit rfl ?_
                 have H617 := (e608.blk H602)
                 have H618 := (e608.blk H604)
                 exact hj145 _ _ ⟨qc, f577, f578, f579, f580, f581, f582, f583, f584, f585, f587, f588, f589, f590, f591, f592, f593, f594, f595, f596, f597, f598, f599, f600, E609, H617, H615, H618, hq0, hgc⟩
               · refine rk_cf (T rfl (congrArg Value.bool (decide_eq_false hb616))) ?_
                 refine rk_skip ?_
                 refine rk_seq ?_
                 have hgt619 : rc * 18446744073709551616 + U.getD (J - 1 + lb - 2) 0 < qc * L85.getD (lb - 2) 0 := by omega
                 have hqc1 : 1 ≤ qc := pos_of_mul hq0.1 (okW.getD ho89 (by decide) (lb - 2)).1 (by omega) hgt619
                 refine rk_reg ?_
                 refine lw_v (.int .u64 qc) (dv_move (T rfl f585)) ?_
                 refine lw_v (.int .u64 (qc - 1)) (dv_sub (a := qc) (b := 1) (z := qc - 1) (T rfl rfl) C (wn_u64 (by omega) (by omega))) ?_
                 refine lw_v (.int .u64 (qc - 1)) (dv_assign (T rfl rfl)) ?_
                 refine lw_nil ?_
                 refine rk_seq ?_
                 refine rk_reg ?_
                 refine lw_v (.int .u64 0) (dv_assign C) ?_
                 refine lw_nil ?_
                 refine rk_seq ?_
                 refine rk_reg ?_
                 refine lw_v (.int .u64 rc) (dv_move (T rfl f586)) ?_
                 refine lw_v (.slice (some ⟨b84, 0, none⟩) lb ((ys.length + 1))) (dv_move (T rfl f581)) ?_
                 refine lw_v (.int .i64 ((lb : Int))) (dv_move (T rfl f579)) ?_
                 refine lw_v (.int .i64 (((lb : Int)) - 1)) (dv_sub (a := (lb : Int)) (b := 1) (z := ((lb : Int)) - 1) (T rfl rfl) C (wr_i64 (by omega) (by omega))) ?_
                 refine lw_v (.pointer (some ⟨b84, (((lb) - 1)), none⟩)) (dv_indexO (g := b84) (l := lb) (c := (ys.length + 1)) (i := ((lb) - 1)) (j := ((lb : Int)) - 1) us57 sz24 (T rfl rfl) (T rfl rfl) (by omega) (by first | omega | (simp; done) | (simp; omega))) ?_
                 have H620 := (e608.blk H602)
                 refine lw_v (.int .u64 (L85.getD (((lb) - 1)) 0)) (dv_loadW (L := L85) (v := L85.getD (((lb) - 1)) 0) agt24 (T rfl rfl) H620 (by first | omega | (simp; done) | (simp; omega)) rfl) ?_
                 refine lw_v (.tuple #[.int .u64 ((rc + (L85.getD (((lb) - 1)) 0) + 0) % 18446744073709551616), .int .u64 ((rc + (L85.getD (((lb) - 1)) 0) + 0) / 18446744073709551616)]) (dv_ext (e := add64Entry) (vs := [.int .u64 rc, .int .u64 (L85.getD (((lb) - 1)) 0), .int .u64 0]) Try.func95 rfl rfl (by kernel_rfl) (by kernel_rfl) (ar3 (T rfl rfl) (T rfl rfl) C) (run_addE rc (L85.getD (((lb) - 1)) 0) 0 (by omega) (by omega) (by omega))) ?_
                 refine lw_v (.tuple #[.int .u64 ((rc + (L85.getD (((lb) - 1)) 0) + 0) % 18446744073709551616), .int .u64 ((rc + (L85.getD (((lb) - 1)) 0) + 0) / 18446744073709551616)]) (dv_move (T rfl rfl)) ?_
                 refine lw_v (.int .u64 ((rc + (L85.getD (((lb) - 1)) 0) + 0) % 18446744073709551616)) (dv_extract (vs := #[.int .u64 ((rc + (L85.getD (((lb) - 1)) 0) + 0) % 18446744073709551616), .int .u64 ((rc + (L85.getD (((lb) - 1)) 0) + 0) / 18446744073709551616)]) (T rfl rfl) rfl) ?_
                 refine lw_v (.int .u64 ((rc + (L85.getD (((lb) - 1)) 0) + 0) / 18446744073709551616)) (dv_extract (vs := #[.int .u64 ((rc + (L85.getD (((lb) - 1)) 0) + 0) % 18446744073709551616), .int .u64 ((rc + (L85.getD (((lb) - 1)) 0) + 0) / 18446744073709551616)]) (T rfl rfl) rfl) ?_
                 refine lw_v (.int .u64 ((rc + (L85.getD (((lb) - 1)) 0) + 0) % 18446744073709551616)) (dv_assign (T rfl rfl)) ?_
                 refine lw_v (.int .u64 ((rc + (L85.getD (((lb) - 1)) 0) + 0) / 18446744073709551616)) (dv_assign (T rfl rfl)) ?_
                 refine lw_nil ?_
                 refine rk_seq ?_
                 refine rk_reg ?_
                 refine lw_v (.int .u64 ((rc + (L85.getD (((lb) - 1)) 0) + 0) / 18446744073709551616)) (dv_move (T rfl rfl)) ?_
                 refine lw_v (.bool (decide (((rc + (L85.getD (((lb) - 1)) 0) + 0) / 18446744073709551616) = 1))) (dv_eql (a := (rc + (L85.getD (((lb) - 1)) 0) + 0) / 18446744073709551616) (b := 1) (T rfl rfl) C) ?_
                 refine lw_nil ?_
                 by_cases hb621 : ((rc + (L85.getD (((lb) - 1)) 0) + 0) / 18446744073709551616) = 1
                 · refine rk_ct (T rfl (congrArg Value.bool (decide_eq_true hb621))) ?_
                   refine rk_exit rfl ?_
                   have H622 := (e608.blk H604)
                   exact hj145 _ _ ⟨qc - 1, f577, f578, f579, f580, f581, f582, f583, f584, rfl, f587, f588, f589, f590, f591, f592, f593, f594, f595, f596, f597, f598, f599, f600, E609, H620, H615, H622, (by omega), (guess_less64 (n := lb) hUo ho89 hVz hlb2 (by omega) (by omega) (by omega) hlt hqc hq0.1 hgt619)⟩
                 · refine rk_cf (T rfl (congrArg Value.bool (decide_eq_false hb621))) ?_
                   refine rk_skip ?_
                   refine rk_inBlock ?_
                   have H623 := (e608.blk H604)
                   exact ih574 (((qc - 1)).toNat) _ _ (by rw [hd605]; omega) ⟨(qc - 1), ((rc + (L85.getD (((lb) - 1)) 0) + 0) % 18446744073709551616), rfl, f577, f578, f579, f580, f581, f582, f583, f584, rfl, rfl, f587, f588, f589, f590, f591, f592, f593, f594, f595, f596, f597, f598, f599, f600, E609, H620, H615, H623, (by rw [Int.sub_mul, Int.one_mul]; omega), (by omega), (by omega), (guess_less64 (n := lb) hUo ho89 hVz hlb2 (by omega) (by omega) (by omega) hlt hqc hq0.1 hgt619)⟩
             · refine lw_no (d := 149) rfl rfl (congrArg Value.bool (decide_eq_false hb614)) ?_
               refine lw_no (d := 149) rfl rfl (congrArg Value.bool (decide_eq_false hb614)) ?_
               refine lw_no (d := 149) rfl rfl (congrArg Value.bool (decide_eq_false hb614)) ?_
               refine lw_no (d := 149) rfl rfl (congrArg Value.bool (decide_eq_false hb614)) ?_
               refine lw_no (d := 149) rfl rfl (congrArg Value.bool (decide_eq_false hb614)) ?_
               refine lw_no (d := 149) rfl rfl (congrArg Value.bool (decide_eq_false hb614)) ?_
               refine lw_no (d := 149) rfl rfl (congrArg Value.bool (decide_eq_false hb614)) ?_
               refine lw_no (d := 149) rfl rfl (congrArg Value.bool (decide_eq_false hb614)) ?_
               refine lw_no (d := 149) rfl rfl (congrArg Value.bool (decide_eq_false hb614)) ?_
               refine lw_vy (.bool false) (d := 145) rfl rfl (congrArg Value.bool (decide_eq_false hb610)) (dv_pick_f (T rfl (congrArg Value.bool (decide_eq_false hb614))) C) ?_
               refine lw_v (.bool false) (dv_pick_f (T rfl (congrArg Value.bool (decide_eq_false hb610))) (T rfl rfl)) ?_
               refine lw_nil ?_
               refine rk_cf (T rfl rfl) ?_
               refine rk_skip ?_
               refine rk_seq ?_
               have hgt624 : rc * 18446744073709551616 + U.getD (J - 1 + lb - 2) 0 < qc * L85.getD (lb - 2) 0 := by omega
               have hqc1 : 1 ≤ qc := pos_of_mul hq0.1 (okW.getD ho89 (by decide) (lb - 2)).1 (by omega) hgt624
               refine rk_reg ?_
               refine lw_v (.int .u64 qc) (dv_move (T rfl f585)) ?_
               refine lw_v (.int .u64 (qc - 1)) (dv_sub (a := qc) (b := 1) (z := qc - 1) (T rfl rfl) C (wn_u64 (by omega) (by omega))) ?_
               refine lw_v (.int .u64 (qc - 1)) (dv_assign (T rfl rfl)) ?_
               refine lw_nil ?_
               refine rk_seq ?_
               refine rk_reg ?_
               refine lw_v (.int .u64 0) (dv_assign C) ?_
               refine lw_nil ?_
               refine rk_seq ?_
               refine rk_reg ?_
               refine lw_v (.int .u64 rc) (dv_move (T rfl f586)) ?_
               refine lw_v (.slice (some ⟨b84, 0, none⟩) lb ((ys.length + 1))) (dv_move (T rfl f581)) ?_
               refine lw_v (.int .i64 ((lb : Int))) (dv_move (T rfl f579)) ?_
               refine lw_v (.int .i64 (((lb : Int)) - 1)) (dv_sub (a := (lb : Int)) (b := 1) (z := ((lb : Int)) - 1) (T rfl rfl) C (wr_i64 (by omega) (by omega))) ?_
               refine lw_v (.pointer (some ⟨b84, (((lb) - 1)), none⟩)) (dv_indexO (g := b84) (l := lb) (c := (ys.length + 1)) (i := ((lb) - 1)) (j := ((lb : Int)) - 1) us57 sz24 (T rfl rfl) (T rfl rfl) (by omega) (by first | omega | (simp; done) | (simp; omega))) ?_
               have H625 := (e608.blk H602)
               refine lw_v (.int .u64 (L85.getD (((lb) - 1)) 0)) (dv_loadW (L := L85) (v := L85.getD (((lb) - 1)) 0) agt24 (T rfl rfl) H625 (by first | omega | (simp; done) | (simp; omega)) rfl) ?_
               refine lw_v (.tuple #[.int .u64 ((rc + (L85.getD (((lb) - 1)) 0) + 0) % 18446744073709551616), .int .u64 ((rc + (L85.getD (((lb) - 1)) 0) + 0) / 18446744073709551616)]) (dv_ext (e := add64Entry) (vs := [.int .u64 rc, .int .u64 (L85.getD (((lb) - 1)) 0), .int .u64 0]) Try.func95 rfl rfl (by kernel_rfl) (by kernel_rfl) (ar3 (T rfl rfl) (T rfl rfl) C) (run_addE rc (L85.getD (((lb) - 1)) 0) 0 (by omega) (by omega) (by omega))) ?_
               refine lw_v (.tuple #[.int .u64 ((rc + (L85.getD (((lb) - 1)) 0) + 0) % 18446744073709551616), .int .u64 ((rc + (L85.getD (((lb) - 1)) 0) + 0) / 18446744073709551616)]) (dv_move (T rfl rfl)) ?_
               refine lw_v (.int .u64 ((rc + (L85.getD (((lb) - 1)) 0) + 0) % 18446744073709551616)) (dv_extract (vs := #[.int .u64 ((rc + (L85.getD (((lb) - 1)) 0) + 0) % 18446744073709551616), .int .u64 ((rc + (L85.getD (((lb) - 1)) 0) + 0) / 18446744073709551616)]) (T rfl rfl) rfl) ?_
               refine lw_v (.int .u64 ((rc + (L85.getD (((lb) - 1)) 0) + 0) / 18446744073709551616)) (dv_extract (vs := #[.int .u64 ((rc + (L85.getD (((lb) - 1)) 0) + 0) % 18446744073709551616), .int .u64 ((rc + (L85.getD (((lb) - 1)) 0) + 0) / 18446744073709551616)]) (T rfl rfl) rfl) ?_
               refine lw_v (.int .u64 ((rc + (L85.getD (((lb) - 1)) 0) + 0) % 18446744073709551616)) (dv_assign (T rfl rfl)) ?_
               refine lw_v (.int .u64 ((rc + (L85.getD (((lb) - 1)) 0) + 0) / 18446744073709551616)) (dv_assign (T rfl rfl)) ?_
               refine lw_nil ?_
               refine rk_seq ?_
               refine rk_reg ?_
               refine lw_v (.int .u64 ((rc + (L85.getD (((lb) - 1)) 0) + 0) / 18446744073709551616)) (dv_move (T rfl rfl)) ?_
               refine lw_v (.bool (decide (((rc + (L85.getD (((lb) - 1)) 0) + 0) / 18446744073709551616) = 1))) (dv_eql (a := (rc + (L85.getD (((lb) - 1)) 0) + 0) / 18446744073709551616) (b := 1) (T rfl rfl) C) ?_
               refine lw_nil ?_
               by_cases hb626 : ((rc + (L85.getD (((lb) - 1)) 0) + 0) / 18446744073709551616) = 1
               · refine rk_ct (T rfl (congrArg Value.bool (decide_eq_true hb626))) ?_
                 refine rk_exit rfl ?_
                 have H627 := (e608.blk H603)
                 have H628 := (e608.blk H604)
                 exact hj145 _ _ ⟨qc - 1, f577, f578, f579, f580, f581, f582, f583, f584, rfl, f587, f588, f589, f590, f591, f592, f593, f594, f595, f596, f597, f598, f599, f600, E609, H625, H627, H628, (by omega), (guess_less64 (n := lb) hUo ho89 hVz hlb2 (by omega) (by omega) (by omega) hlt hqc hq0.1 hgt624)⟩
               · refine rk_cf (T rfl (congrArg Value.bool (decide_eq_false hb626))) ?_
                 refine rk_skip ?_
                 refine rk_inBlock ?_
                 have H629 := (e608.blk H603)
                 have H630 := (e608.blk H604)
                 exact ih574 (((qc - 1)).toNat) _ _ (by rw [hd605]; omega) ⟨(qc - 1), ((rc + (L85.getD (((lb) - 1)) 0) + 0) % 18446744073709551616), rfl, f577, f578, f579, f580, f581, f582, f583, f584, rfl, rfl, f587, f588, f589, f590, f591, f592, f593, f594, f595, f596, f597, f598, f599, f600, E609, H625, H629, H630, (by rw [Int.sub_mul, Int.one_mul]; omega), (by omega), (by omega), (guess_less64 (n := lb) hUo ho89 hVz hlb2 (by omega) (by omega) (by omega) hlt hqc hq0.1 hgt624)⟩
         · refine rk_cf (T rfl (congrArg Value.bool (decide_eq_false hb557))) ?_
           refine rk_skip ?_
           have H631 := (d139.ext.blk H130)
           exact hj145 _ _ ⟨18446744073709551615, f119, f120, f121, f122, f123, f124, f125, f126, rfl, rfl, rfl, rfl, rfl, rfl, rfl, rfl, rfl, rfl, rfl, rfl, rfl, rfl, rfl, E140, H142, H141, H631, (by decide), (guess_top64 (by omega) hlt)⟩
     · refine rk_cf (T rfl (congrArg Value.bool (decide_eq_false hb137))) ?_
       refine rk_exit rfl ?_
       refine rk_seq ?_
       have hJ0 : J = 0 := by omega
       have hlt2 : valB (2 ^ 64) U < valB (2 ^ 64) L85 := by have h := hlt; rw [hJ0] at h; simpa using h
       have hUnn := valB_nonneg (B := 2 ^ 64) (by decide) hUo
       have hUz2 := zero_of_lt (by decide) hUo (m := lb) (by rw [hVv] at hlt2; omega)
       refine rk_reg ?_
       refine lw_v (.slice (some ⟨b96, 0, none⟩) ((xs.length + 1)) ((xs.length + 1))) (dv_move (T rfl f124)) ?_
       refine lw_v (.int .i64 ((lb : Int))) (dv_move (T rfl f121)) ?_
       refine lw_v (.slice (some ⟨b96, 0, none⟩) lb ((xs.length + 1))) (dv_sliceH (ad := some ⟨b96, 0, none⟩) (l := (xs.length + 1)) (c := (xs.length + 1)) (i := lb) (j := (lb : Int)) us57 sz24 (T rfl rfl) (T rfl rfl) (by omega) (by first | omega | (simp; done) | (simp; omega))) ?_
       refine lw_e (oe_callf (vs := [.slice (some ⟨b96, 0, none⟩) lb ((xs.length + 1))]) co83 (ar1 (T rfl rfl)) (trim_okl ((Wd.ownW H129).take lb) (by first | omega | (simp; done) | (simp; omega)) (by first | omega | (simp; done) | (simp; omega)) (by first | rfl | first | (simp; done) | (simp; omega) | omega)) ?_)
       rintro _ w632 ⟨rfl, e633⟩
       have E634 := below_ext E127 E127.size e633
       refine lw_v (.slice (some ⟨b96, 0, none⟩) ((trimL ((U.take lb))).length) ((xs.length + 1))) (dv_assign (T rfl rfl)) ?_
       refine lw_nil ?_
       refine rk_seq ?_
       refine rk_seq ?_
       refine rk_reg ?_
       refine lw_v (.slice (some ⟨b96, 0, none⟩) ((trimL ((U.take lb))).length) ((xs.length + 1))) (dv_move (T rfl rfl)) ?_
       refine lw_v (.int .i64 (((trimL ((U.take lb))).length : Int))) (dv_len (ad := some ⟨b96, 0, none⟩) (l := (trimL ((U.take lb))).length) (c := (xs.length + 1)) us57 (T rfl rfl)) ?_
       refine lw_v (.int .i64 0) (dv_move C) ?_
       refine lw_nil ?_
       refine rk_block ?_
       have htl : (trimL (U.take lb)).length ≤ lb := by have := trimL_len (U.take lb); simp at this; omega
       have hU0 : ∀ k, (trimL (U.take lb)).length ≤ k → U.getD k 0 = 0 := fun k hk => by
        by_cases h : k < lb
        · have := trim_zero (xs := U.take lb) k hk (by simp; omega)
          rwa [getD_take _ _ _ h] at this
        · exact hUz2 k (by omega)
       have H635 := (e633.blk H128)
       have H636 := (e633.blk H129)
       have H637 := (e633.blk H130)
       refine rk_loop (fun dm_ fr wl => ∃ (i3 : Nat) (M3 : List Int), dm_ = (trimL (U.take lb)).length - i3 ∧ fr 4 = .slice none 0 0 ∧ fr 5 = .slice none 0 0 ∧ fr 10 = .int .i64 ((S73 : Int)) ∧ fr 13 = .slice (some ⟨b107, 0, none⟩) ((((la) - (lb)) + 1)) ((((la) - (lb)) + 1)) ∧ fr 28 = .slice (some ⟨b96, 0, none⟩) ((trimL ((U.take lb))).length) ((xs.length + 1)) ∧ fr 289 = .int .i64 (((trimL ((U.take lb))).length : Int)) ∧ fr 290 = .int .i64 ((i3 : Int)) ∧ Below w.heap.size w wl ∧ wl.heap[b84]? = some (.cells (L85.map (Value.int .u64)).toArray 24) ∧ wl.heap[b96]? = some (.cells (M3.map (Value.int .u64)).toArray 24) ∧ wl.heap[b107]? = some (.cells (O.map (Value.int .u64)).toArray 24) ∧ (i3 ≤ (trimL (U.take lb)).length) ∧ (M3.length = U.length) ∧ (∀ k, k < U.length → M3.getD k 0 = if k < i3 then (U.getD k 0 + 18446744073709551616 * U.getD (k + 1) 0) / 2 ^ S73 % 18446744073709551616 else U.getD k 0)) ((trimL (U.take lb)).length - 0) ⟨0, U, rfl, f119, f120, f122, f125, rfl, rfl, (vi (by omega)), E634, H635, H636, H637, (Nat.zero_le _), rfl, (fun k hk => by rw [if_neg (by omega)])⟩ ?_
       intro d642 fr641 w638 hI639 ih640
       obtain ⟨i3, M3, hd654, f643, f644, f645, f646, f647, f648, f649, E650, H651, H652, H653, hi3, hM3l, hpt⟩ := hI639
       have bu3 := okW.getD hUo (by decide) i3
       have bu4 := okW.getD hUo (by decide) (i3 + 1)
       refine rk_seq ?_
       refine rk_reg ?_
       refine lw_v (.bool (decide (((i3 : Int)) < (((trimL ((U.take lb))).length : Int))))) (dv_lss (a := (i3 : Int)) (b := ((trimL ((U.take lb))).length : Int)) (T rfl f649) (T rfl f648)) ?_
       refine lw_nil ?_
       refine rk_seq ?_
       by_cases hb655 : ((i3 : Int)) < (((trimL ((U.take lb))).length : Int))
       · refine rk_ct (T rfl (congrArg Value.bool (decide_eq_true hb655))) ?_
         refine rk_skip ?_
         refine rk_seq ?_
         refine rk_block ?_
         refine rk_seq ?_
         refine rk_reg ?_
         refine lw_v (.int .i64 ((i3 : Int))) (dv_move (T rfl f649)) ?_
         refine lw_v (.int .i64 ((i3 : Int))) (dv_assign (T rfl rfl)) ?_
         refine lw_nil ?_
         refine rk_seq ?_
         refine rk_reg ?_
         refine lw_v (.int .u64 0) (dv_assign C) ?_
         refine lw_nil ?_
         refine rk_seq ?_
         refine rk_seq ?_
         have hM1 : i3 + 1 < U.length → M3.getD (i3 + 1) 0 = U.getD (i3 + 1) 0 := fun h => by rw [hpt _ h, if_neg (by omega)]
         refine rk_reg ?_
         refine lw_v (.int .i64 ((i3 : Int))) (dv_move (T rfl rfl)) ?_
         refine lw_v (.int .i64 (((i3 : Int)) + 1)) (dv_add (a := (i3 : Int)) (b := 1) (z := ((i3 : Int)) + 1) (T rfl rfl) C (wr_i64 (by omega) (by omega))) ?_
         refine lw_v (.slice (some ⟨b96, 0, none⟩) ((trimL ((U.take lb))).length) ((xs.length + 1))) (dv_move (T rfl f647)) ?_
         refine lw_v (.int .i64 (((trimL ((U.take lb))).length : Int))) (dv_len (ad := some ⟨b96, 0, none⟩) (l := (trimL ((U.take lb))).length) (c := (xs.length + 1)) us57 (T rfl rfl)) ?_
         refine lw_v (.bool (decide ((((i3 : Int)) + 1) < (((trimL ((U.take lb))).length : Int))))) (dv_lss (a := ((i3 : Int)) + 1) (b := ((trimL ((U.take lb))).length : Int)) (T rfl rfl) (T rfl rfl)) ?_
         refine lw_v (.bool (decide ((((i3 : Int)) + 1) < (((trimL ((U.take lb))).length : Int))))) (dv_move (T rfl rfl)) ?_
         by_cases hb656 : (((i3 : Int)) + 1) < (((trimL ((U.take lb))).length : Int))
         · refine lw_vy (.int .i64 ((S73 : Int))) (d := 298) rfl rfl (congrArg Value.bool (decide_eq_true hb656)) (dv_move (T rfl f645)) ?_
           refine lw_vy (.bool (decide (0 < ((S73 : Int))))) (d := 298) rfl rfl (congrArg Value.bool (decide_eq_true hb656)) (dv_gtr (a := (S73 : Int)) (b := 0) (T rfl rfl) C) ?_
           refine lw_v (.bool (decide (0 < ((S73 : Int))))) (dv_pick_t (T rfl (congrArg Value.bool (decide_eq_true hb656))) (T rfl rfl)) ?_
           refine lw_nil ?_
           refine rk_join (fun fr wl => ∃ (hw : Int), fr 4 = .slice none 0 0 ∧ fr 5 = .slice none 0 0 ∧ fr 10 = .int .i64 ((S73 : Int)) ∧ fr 13 = .slice (some ⟨b107, 0, none⟩) ((((la) - (lb)) + 1)) ((((la) - (lb)) + 1)) ∧ fr 28 = .slice (some ⟨b96, 0, none⟩) ((trimL ((U.take lb))).length) ((xs.length + 1)) ∧ fr 29 = .int .i64 ((i3 : Int)) ∧ fr 30 = .int .u64 hw ∧ fr 289 = .int .i64 (((trimL ((U.take lb))).length : Int)) ∧ fr 290 = .int .i64 ((i3 : Int)) ∧ fr 291 = .bool (decide (((i3 : Int)) < (((trimL ((U.take lb))).length : Int)))) ∧ fr 292 = .int .i64 ((i3 : Int)) ∧ fr 293 = .int .i64 ((i3 : Int)) ∧ fr 294 = .int .i64 (((i3 : Int)) + 1) ∧ fr 295 = .slice (some ⟨b96, 0, none⟩) ((trimL ((U.take lb))).length) ((xs.length + 1)) ∧ fr 296 = .int .i64 (((trimL ((U.take lb))).length : Int)) ∧ fr 297 = .bool (decide ((((i3 : Int)) + 1) < (((trimL ((U.take lb))).length : Int)))) ∧ fr 298 = .bool (decide ((((i3 : Int)) + 1) < (((trimL ((U.take lb))).length : Int)))) ∧ fr 299 = .int .i64 ((S73 : Int)) ∧ fr 300 = .bool (decide (0 < ((S73 : Int)))) ∧ fr 301 = .bool (decide (0 < ((S73 : Int)))) ∧ Below w.heap.size w wl ∧ wl.heap[b84]? = some (.cells (L85.map (Value.int .u64)).toArray 24) ∧ wl.heap[b96]? = some (.cells (M3.map (Value.int .u64)).toArray 24) ∧ wl.heap[b107]? = some (.cells (O.map (Value.int .u64)).toArray 24) ∧ (hw = U.getD (i3 + 1) 0 * 2 ^ (64 - S73) % 18446744073709551616)) ?_ (fun hj659 => ?_)
           · intro fr660 w657 hI658
             obtain ⟨hw, f661, f662, f663, f664, f665, f666, f667, f668, f669, f670, f671, f672, f673, f674, f675, f676, f677, f678, f679, f680, E681, H682, H683, H684, hhw⟩ := hI658
             have hMi : M3.getD i3 0 = U.getD i3 0 := by rw [hpt _ (by omega), if_neg (by omega)]
             have hsw := shr_word (u := U.getD i3 0) (h := U.getD (i3 + 1) 0) hs74 bu3.1 bu3.2 bu4.1
             have hmz : hw % 2 ^ (64 - S73) = 0 := by rw [hhw]; exact shl_mod (by omega)
             have hp64 : (2 : Int) ^ (64 - S73) ≤ 2 ^ 64 := pow_le_of (by decide) (by omega)
             have hwr : 0 ≤ hw ∧ hw < 18446744073709551616 := by rw [hhw]; exact ⟨Int.emod_nonneg _ (by decide), Int.emod_lt_of_pos _ (by decide)⟩
             refine rk_reg ?_
             refine lw_v (.slice (some ⟨b96, 0, none⟩) ((trimL ((U.take lb))).length) ((xs.length + 1))) (dv_move (T rfl f665)) ?_
             refine lw_v (.int .i64 ((i3 : Int))) (dv_move (T rfl f666)) ?_
             refine lw_v (.slice (some ⟨b96, 0, none⟩) ((trimL ((U.take lb))).length) ((xs.length + 1))) (dv_move (T rfl f665)) ?_
             refine lw_v (.int .i64 ((i3 : Int))) (dv_move (T rfl f666)) ?_
             refine lw_v (.pointer (some ⟨b96, i3, none⟩)) (dv_indexO (g := b96) (l := (trimL ((U.take lb))).length) (c := (xs.length + 1)) (i := i3) (j := (i3 : Int)) us57 sz24 (T rfl rfl) (T rfl rfl) (by omega) (by first | omega | (simp; done) | (simp; omega))) ?_
             refine lw_v (.int .u64 (M3.getD i3 0)) (dv_loadW (L := M3) (v := M3.getD i3 0) agt24 (T rfl rfl) H683 (by first | omega | (simp; done) | (simp; omega)) rfl) ?_
             refine lw_v (.int .i64 ((S73 : Int))) (dv_move (T rfl f663)) ?_
             refine lw_v (.int .u64 ((M3.getD i3 0) / 2 ^ S73)) (dv_shr (a := M3.getD i3 0) (b := (S73 : Int)) (z := (M3.getD i3 0) / 2 ^ S73) (T rfl rfl) (T rfl rfl) (by omega) (shr_v (K := S73) (by omega) (show _ ≤ 64 by omega))) ?_
             refine lw_v (.int .u64 hw) (dv_move (T rfl f667)) ?_
             refine lw_v (.int .u64 (((M3.getD i3 0) / 2 ^ S73) + hw)) (dv_or (a := (M3.getD i3 0) / 2 ^ S73) (b := hw) (z := ((M3.getD i3 0) / 2 ^ S73) + hw) (T rfl rfl) (T rfl rfl) (by rw [hMi]; exact (or_add (k := .u64) (a := U.getD i3 0 / 2 ^ S73) (b := hw) (i := 64 - S73) rfl hsw.2.1 hsw.2.2 hwr.1 hmz (lt64 (by omega)) (lt64 (by omega))).1)) ?_
             refine lw_v (.pointer (some ⟨b96, i3, none⟩)) (dv_indexO (g := b96) (l := (trimL ((U.take lb))).length) (c := (xs.length + 1)) (i := i3) (j := (i3 : Int)) us57 sz24 (T rfl rfl) (T rfl rfl) (by omega) (by first | omega | (simp; done) | (simp; omega))) ?_
             refine lw_e (oe_storeW (L := M3) (i := i3) (z := ((M3.getD i3 0) / 2 ^ S73) + hw) sz24 (T rfl rfl) (T rfl rfl) H683 (by first | omega | (simp; done) | (simp; omega)) ?_)
             intro w685 s686 H687
             have E688 := below_st E681 N106 s686
             refine lw_nil ?_
             refine rk_inBlock ?_
             refine rk_reg ?_
             refine lw_v (.int .i64 (((i3 : Int)) + 1)) (dv_add (a := (i3 : Int)) (b := 1) (z := ((i3 : Int)) + 1) (T rfl f669) C (wr_i64 (by omega) (by omega))) ?_
             refine lw_v (.int .i64 (((i3 : Int)) + 1)) (dv_move (T rfl rfl)) ?_
             refine lw_nil ?_
             have H689 := (s686.blk H682 (by omega))
             have H690 := (s686.blk H684 (by omega))
             exact ih640 ((trimL (U.take lb)).length - ((i3 + 1))) _ _ (by rw [hd654]; omega) ⟨(i3 + 1), (M3.set i3 (((M3.getD i3 0) / 2 ^ S73) + hw)), rfl, f661, f662, f663, f664, f665, f668, (vi (by omega)), E688, H689, H687, H690, (by omega), (by simp [hM3l]), (shr_pt (by omega) hM3l (by rw [hMi, hhw]; exact hsw.1.symm) hpt)⟩
           · by_cases hb691 : 0 < ((S73 : Int))
             · refine rk_ct (T rfl (congrArg Value.bool (decide_eq_true hb691))) ?_
               have hM1b := hM1 (by omega)
               refine rk_reg ?_
               refine lw_v (.slice (some ⟨b96, 0, none⟩) ((trimL ((U.take lb))).length) ((xs.length + 1))) (dv_move (T rfl f647)) ?_
               refine lw_v (.int .i64 ((i3 : Int))) (dv_move (T rfl rfl)) ?_
               refine lw_v (.int .i64 (((i3 : Int)) + 1)) (dv_add (a := (i3 : Int)) (b := 1) (z := ((i3 : Int)) + 1) (T rfl rfl) C (wr_i64 (by omega) (by omega))) ?_
               refine lw_v (.pointer (some ⟨b96, (((i3) + 1)), none⟩)) (dv_indexO (g := b96) (l := (trimL ((U.take lb))).length) (c := (xs.length + 1)) (i := ((i3) + 1)) (j := ((i3 : Int)) + 1) us57 sz24 (T rfl rfl) (T rfl rfl) (by omega) (by first | omega | (simp; done) | (simp; omega))) ?_
               refine lw_v (.int .u64 (M3.getD (((i3) + 1)) 0)) (dv_loadW (L := M3) (v := M3.getD (((i3) + 1)) 0) agt24 (T rfl rfl) H652 (by first | omega | (simp; done) | (simp; omega)) rfl) ?_
               refine lw_v (.int .i64 ((S73 : Int))) (dv_move (T rfl f645)) ?_
               refine lw_v (.int .i64 (64 - ((S73 : Int)))) (dv_sub (a := 64) (b := (S73 : Int)) (z := 64 - ((S73 : Int))) C (T rfl rfl) (wr_i64 (by omega) (by omega))) ?_
               refine lw_v (.int .u64 (((M3.getD (((i3) + 1)) 0) * 2 ^ ((64 - (S73)))) % 18446744073709551616)) (dv_shl (a := M3.getD (((i3) + 1)) 0) (b := 64 - ((S73 : Int))) (z := ((M3.getD (((i3) + 1)) 0) * 2 ^ ((64 - (S73)))) % 18446744073709551616) (T rfl rfl) (T rfl rfl) (by omega) (shl_w (K := (64 - (S73))) (by omega) (show _ ≤ 64 by omega) (wr_u64 _))) ?_
               refine lw_v (.int .u64 (((M3.getD (((i3) + 1)) 0) * 2 ^ ((64 - (S73)))) % 18446744073709551616)) (dv_assign (T rfl rfl)) ?_
               refine lw_nil ?_
               exact hj659 _ _ ⟨((M3.getD (((i3) + 1)) 0) * 2 ^ ((64 - (S73)))) % 18446744073709551616, f643, f644, f645, f646, f647, rfl, rfl, f648, f649, rfl, rfl, rfl, rfl, rfl, rfl, rfl, rfl, rfl, rfl, rfl, E650, H651, H652, H653, (by rw [hM1b])⟩
             · refine rk_cf (T rfl (congrArg Value.bool (decide_eq_false hb691))) ?_
               refine rk_skip ?_
               exact hj659 _ _ ⟨0, f643, f644, f645, f646, f647, rfl, rfl, f648, f649, rfl, rfl, rfl, rfl, rfl, rfl, rfl, rfl, rfl, rfl, rfl, E650, H651, H652, H653, (by first | exact hi_zero (by omega) | (rw [hU0 _ (by omega)]; simp))⟩
         · refine lw_no (d := 298) rfl rfl (congrArg Value.bool (decide_eq_false hb656)) ?_
           refine lw_no (d := 298) rfl rfl (congrArg Value.bool (decide_eq_false hb656)) ?_
           refine lw_v (.bool false) (dv_pick_f (T rfl (congrArg Value.bool (decide_eq_false hb656))) C) ?_
           refine lw_nil ?_
           refine rk_join (fun fr wl => ∃ (hw : Int), fr 4 = .slice none 0 0 ∧ fr 5 = .slice none 0 0 ∧ fr 10 = .int .i64 ((S73 : Int)) ∧ fr 13 = .slice (some ⟨b107, 0, none⟩) ((((la) - (lb)) + 1)) ((((la) - (lb)) + 1)) ∧ fr 28 = .slice (some ⟨b96, 0, none⟩) ((trimL ((U.take lb))).length) ((xs.length + 1)) ∧ fr 29 = .int .i64 ((i3 : Int)) ∧ fr 30 = .int .u64 hw ∧ fr 289 = .int .i64 (((trimL ((U.take lb))).length : Int)) ∧ fr 290 = .int .i64 ((i3 : Int)) ∧ fr 291 = .bool (decide (((i3 : Int)) < (((trimL ((U.take lb))).length : Int)))) ∧ fr 292 = .int .i64 ((i3 : Int)) ∧ fr 293 = .int .i64 ((i3 : Int)) ∧ fr 294 = .int .i64 (((i3 : Int)) + 1) ∧ fr 295 = .slice (some ⟨b96, 0, none⟩) ((trimL ((U.take lb))).length) ((xs.length + 1)) ∧ fr 296 = .int .i64 (((trimL ((U.take lb))).length : Int)) ∧ fr 297 = .bool (decide ((((i3 : Int)) + 1) < (((trimL ((U.take lb))).length : Int)))) ∧ fr 298 = .bool (decide ((((i3 : Int)) + 1) < (((trimL ((U.take lb))).length : Int)))) ∧ fr 301 = .bool false ∧ Below w.heap.size w wl ∧ wl.heap[b84]? = some (.cells (L85.map (Value.int .u64)).toArray 24) ∧ wl.heap[b96]? = some (.cells (M3.map (Value.int .u64)).toArray 24) ∧ wl.heap[b107]? = some (.cells (O.map (Value.int .u64)).toArray 24) ∧ (hw = U.getD (i3 + 1) 0 * 2 ^ (64 - S73) % 18446744073709551616)) ?_ (fun hj694 => ?_)
           · intro fr695 w692 hI693
             obtain ⟨hw, f696, f697, f698, f699, f700, f701, f702, f703, f704, f705, f706, f707, f708, f709, f710, f711, f712, f713, E714, H715, H716, H717, hhw⟩ := hI693
             have hMi : M3.getD i3 0 = U.getD i3 0 := by rw [hpt _ (by omega), if_neg (by omega)]
             have hsw := shr_word (u := U.getD i3 0) (h := U.getD (i3 + 1) 0) hs74 bu3.1 bu3.2 bu4.1
             have hmz : hw % 2 ^ (64 - S73) = 0 := by rw [hhw]; exact shl_mod (by omega)
             have hp64 : (2 : Int) ^ (64 - S73) ≤ 2 ^ 64 := pow_le_of (by decide) (by omega)
             have hwr : 0 ≤ hw ∧ hw < 18446744073709551616 := by rw [hhw]; exact ⟨Int.emod_nonneg _ (by decide), Int.emod_lt_of_pos _ (by decide)⟩
             refine rk_reg ?_
             refine lw_v (.slice (some ⟨b96, 0, none⟩) ((trimL ((U.take lb))).length) ((xs.length + 1))) (dv_move (T rfl f700)) ?_
             refine lw_v (.int .i64 ((i3 : Int))) (dv_move (T rfl f701)) ?_
             refine lw_v (.slice (some ⟨b96, 0, none⟩) ((trimL ((U.take lb))).length) ((xs.length + 1))) (dv_move (T rfl f700)) ?_
             refine lw_v (.int .i64 ((i3 : Int))) (dv_move (T rfl f701)) ?_
             refine lw_v (.pointer (some ⟨b96, i3, none⟩)) (dv_indexO (g := b96) (l := (trimL ((U.take lb))).length) (c := (xs.length + 1)) (i := i3) (j := (i3 : Int)) us57 sz24 (T rfl rfl) (T rfl rfl) (by omega) (by first | omega | (simp; done) | (simp; omega))) ?_
             refine lw_v (.int .u64 (M3.getD i3 0)) (dv_loadW (L := M3) (v := M3.getD i3 0) agt24 (T rfl rfl) H716 (by first | omega | (simp; done) | (simp; omega)) rfl) ?_
             refine lw_v (.int .i64 ((S73 : Int))) (dv_move (T rfl f698)) ?_
             refine lw_v (.int .u64 ((M3.getD i3 0) / 2 ^ S73)) (dv_shr (a := M3.getD i3 0) (b := (S73 : Int)) (z := (M3.getD i3 0) / 2 ^ S73) (T rfl rfl) (T rfl rfl) (by omega) (shr_v (K := S73) (by omega) (show _ ≤ 64 by omega))) ?_
             refine lw_v (.int .u64 hw) (dv_move (T rfl f702)) ?_
             refine lw_v (.int .u64 (((M3.getD i3 0) / 2 ^ S73) + hw)) (dv_or (a := (M3.getD i3 0) / 2 ^ S73) (b := hw) (z := ((M3.getD i3 0) / 2 ^ S73) + hw) (T rfl rfl) (T rfl rfl) (by rw [hMi]; exact (or_add (k := .u64) (a := U.getD i3 0 / 2 ^ S73) (b := hw) (i := 64 - S73) rfl hsw.2.1 hsw.2.2 hwr.1 hmz (lt64 (by omega)) (lt64 (by omega))).1)) ?_
             refine lw_v (.pointer (some ⟨b96, i3, none⟩)) (dv_indexO (g := b96) (l := (trimL ((U.take lb))).length) (c := (xs.length + 1)) (i := i3) (j := (i3 : Int)) us57 sz24 (T rfl rfl) (T rfl rfl) (by omega) (by first | omega | (simp; done) | (simp; omega))) ?_
             refine lw_e (oe_storeW (L := M3) (i := i3) (z := ((M3.getD i3 0) / 2 ^ S73) + hw) sz24 (T rfl rfl) (T rfl rfl) H716 (by first | omega | (simp; done) | (simp; omega)) ?_)
             intro w718 s719 H720
             have E721 := below_st E714 N106 s719
             refine lw_nil ?_
             refine rk_inBlock ?_
             refine rk_reg ?_
             refine lw_v (.int .i64 (((i3 : Int)) + 1)) (dv_add (a := (i3 : Int)) (b := 1) (z := ((i3 : Int)) + 1) (T rfl f704) C (wr_i64 (by omega) (by omega))) ?_
             refine lw_v (.int .i64 (((i3 : Int)) + 1)) (dv_move (T rfl rfl)) ?_
             refine lw_nil ?_
             have H722 := (s719.blk H715 (by omega))
             have H723 := (s719.blk H717 (by omega))
             exact ih640 ((trimL (U.take lb)).length - ((i3 + 1))) _ _ (by rw [hd654]; omega) ⟨(i3 + 1), (M3.set i3 (((M3.getD i3 0) / 2 ^ S73) + hw)), rfl, f696, f697, f698, f699, f700, f703, (vi (by omega)), E721, H722, H720, H723, (by omega), (by simp [hM3l]), (shr_pt (by omega) hM3l (by rw [hMi, hhw]; exact hsw.1.symm) hpt)⟩
           · refine rk_cf (T rfl rfl) ?_
             refine rk_skip ?_
             exact hj694 _ _ ⟨0, f643, f644, f645, f646, f647, rfl, rfl, f648, f649, rfl, rfl, rfl, rfl, rfl, rfl, rfl, rfl, rfl, E650, H651, H652, H653, (by first | exact hi_zero (by omega) | (rw [hU0 _ (by omega)]; simp))⟩
       · refine rk_cf (T rfl (congrArg Value.bool (decide_eq_false hb655))) ?_
         refine rk_exit rfl ?_
         refine rk_seq ?_
         have hse := shr_end hs74 hUo (t := (trimL (U.take lb)).length) (by omega) hM3l hU0 (fun k hk => by have h := hpt k hk; rwa [show i3 = (trimL (U.take lb)).length by omega] at h)
         refine rk_reg ?_
         refine lw_v (.slice (some ⟨b107, 0, none⟩) ((((la) - (lb)) + 1)) ((((la) - (lb)) + 1))) (dv_move (T rfl f646)) ?_
         refine lw_e (oe_callf (vs := [.slice (some ⟨b107, 0, none⟩) ((((la) - (lb)) + 1)) ((((la) - (lb)) + 1))]) co83 (ar1 (T rfl rfl)) (trim_okl (Wd.ownW H653) (by first | omega | (simp; done) | (simp; omega)) (by first | omega | (simp; done) | (simp; omega)) (by first | rfl | first | (simp; done) | (simp; omega) | omega)) ?_)
         rintro _ w724 ⟨rfl, e725⟩
         have E726 := below_ext E650 E650.size e725
         refine lw_v (.slice (some ⟨b96, 0, none⟩) ((trimL ((U.take lb))).length) ((xs.length + 1))) (dv_move (T rfl f647)) ?_
         have h727 := (((Wd.ownW H652).take ((trimL (U.take lb)).length)).ext e725)
         refine lw_e (oe_callf (vs := [.slice (some ⟨b96, 0, none⟩) ((trimL ((U.take lb))).length) ((xs.length + 1))]) co83 (ar1 (T rfl rfl)) (trim_okl h727 (by first | omega | (simp; done) | (simp; omega)) (by first | omega | (simp; done) | (simp; omega)) (by first | rfl | first | (simp; done) | (simp; omega) | omega)) ?_)
         rintro _ w728 ⟨rfl, e729⟩
         have E730 := below_ext E726 E726.size e729
         refine lw_v (.slice (some ⟨b107, 0, none⟩) ((trimL O).length) ((((la) - (lb)) + 1))) (dv_assign (T rfl rfl)) ?_
         refine lw_v (.slice (some ⟨b96, 0, none⟩) ((trimL ((M3.take ((trimL (U.take lb)).length)))).length) ((xs.length + 1))) (dv_assign (T rfl rfl)) ?_
         refine lw_nil ?_
         refine rk_ret Try.func98 (v := .tuple #[.slice (some ⟨b107, 0, none⟩) ((trimL O).length) ((((la) - (lb)) + 1)), .slice (some ⟨b96, 0, none⟩) ((trimL ((M3.take ((trimL (U.take lb)).length)))).length) ((xs.length + 1))]) (res2 Try.results98 (rv_tmp rfl rfl) (rv_tmp rfl rfl)) ⟨_, rfl, ?_⟩
         have h731 := ((Wd.trim ((Wd.ownW H653).ext e725)).ext e729)
         have hd := div_sc (x := x) (y := y) (q := valB (2 ^ 64) O) (r := valB (2 ^ 64) U) (two_pos S73) (by rw [← hVv]; exact hV) hUnn (by rw [← hVv]; exact hlt2)
         have ht1 := trimL_len O
         have ht2 := trimL_len ((M3.take ((trimL (U.take lb)).length)))
         simp only [List.length_cons, List.length_nil, List.length_take] at ht1 ht2
         exact ⟨_, _, _, _, _, _, rfl, E730, ⟨trimL O, rfl, (by omega), h731, trimL_ok hOo, trimL_canon _, (by rw [trimL_val]; exact hd.1.symm)⟩, ⟨trimL ((M3.take ((trimL (U.take lb)).length))), rfl, (by first | omega | (simp; omega)), (Wd.trim (h727.ext e729)), trimL_ok hse.2, trimL_canon _, (by rw [trimL_val]; exact (by rw [hse.1]; exact hd.2.1.symm))⟩⟩
end Go.Proofs.Ytfmkadgjoechnaa.W
set_option linter.unusedVariables false
set_option linter.unusedSimpArgs false
namespace Go.Proofs.Ytfmkadgjoechnaa.W
open Go Go.RowKit Go.Proofs.Ytfmkadgjoechnaa.Fw
attribute [local irreducible] RunK LW AW DV OE Ct
theorem l1Trim_numA {w : World} {neg : Bool} {A : Option Addr} {l c s : Nat} {x : Int} (h : Ws 32 95 .u32 w A l c x) (hl : l ≤ 1000000) (hs : x < 2 ^ s) : Ct Try.prog 75 [.bool neg, .slice A l c] w fun v w1 =>
 ∃ nb A' n c', v = .agg #[.bool nb, .slice A' n c'] ∧ Ext w w1 ∧ Num 32 95 .u32 w1 nb A' n c' (sg neg x) s ∧ (A' = none ∨ A' = A) := by
 obtain ⟨xs, rfl, hc, hw, ho, hv⟩ := h
 refine (l1Trim_ok (neg := neg) hw hc hl).mono fun v w1 ⟨h1, h2⟩ => ?_
 have hc' := trimL_canon xs
 have hcp := canon_pos (B := 2 ^ 32) (by decide) (trimL_ok ho) hc'
 rw [trimL_val, ← hv] at hcp
 have h0 := valB_nonneg (B := 2 ^ 32) (by decide) ho
 by_cases hz : (trimL xs).length = 0
 · rw [if_pos hz] at h1
   have hx0 : x = 0 := by omega
   subst hx0
   exact ⟨_, _, _, _, h1, h2, Num.zero.to (by cases neg <;> simp [sg]) (Nat.le_refl _), .inl rfl⟩
 · rw [if_neg hz] at h1
   exact ⟨_, _, _, _, h1, h2, Wc.num ⟨trimL xs, rfl, Nat.le_trans (trimL_len xs) hc, (hw.ext h2).trim, trimL_ok ho, hc', by rw [hv, trimL_val]⟩ (fun hn => by omega) rfl hs, .inr rfl⟩
set_option maxHeartbeats 1000000 in
theorem l1DivAbs_ok {w : World} {Aa Ab : Option Addr} {la ca lb cb : Nat} {x y : Int} {sx sy : Nat} (ha : Wc 32 95 .u32 w Aa la ca x) (hb : Wc 32 95 .u32 w Ab lb cb y) (hy : 0 < y) (hxs : x < 2 ^ sx) (hys : y < 2 ^ sy) (hs : sx ≤ 200000) (hs2 : sy ≤ 200000) : Ct Try.prog 99 [.slice Aa la ca, .slice Ab lb cb] w fun v w1 => ∃ A1 n1 c1 A2 n2 c2, v = .tuple #[.slice A1 n1 c1, .slice A2 n2 c2] ∧ Ext w w1 ∧ Wc 32 95 .u32 w1 A1 n1 c1 (x / y) ∧ Wc 32 95 .u32 w1 A2 n2 c2 (x % y) := by
 refine ct_run (n := 59) Try.func99 rfl Try.ntmps99 rfl ?_
 have E0 : Below w.heap.size w w := Below.refl _ _
 have hx0 := ha.nonneg
 have lla := Wc.len (by decide) ha hxs
 have llb := Wc.len (by decide) hb hys
 have hnx : nbits x.toNat ≤ sx := nbits_le_iff.2 (by have e2 : ((2 ^ sx : Nat) : Int) = 2 ^ sx := (by simp); omega)
 have hny : nbits y.toNat ≤ sy := nbits_le_iff.2 (by have e2 : ((2 ^ sy : Nat) : Int) = 2 ^ sy := (by simp); omega)
 have hn1 := nbits_pos (x := y.toNat) (by omega)
 refine rk_seq ?_
 refine rk_reg ?_
 refine lw_v (.slice none 0 0) (dv_assign C) ?_
 refine lw_v (.slice none 0 0) (dv_assign C) ?_
 refine lw_nil ?_
 refine rk_seq ?_
 refine rk_reg ?_
 refine lw_v (.slice Aa la ca) (dv_move (T rfl rfl)) ?_
 refine lw_e (oe_callf (vs := [.slice Aa la ca]) co92 (ar1 (T rfl rfl)) (l1Bits_wc ha (by first | omega | (simp; done) | (simp; omega))) ?_)
 rintro _ w1 ⟨rfl, e2⟩
 have E3 := below_ext E0 E0.size e2
 refine lw_v (.slice Ab lb cb) (dv_move (T rfl rfl)) ?_
 have h4 := (hb.ext e2)
 refine lw_e (oe_callf (vs := [.slice Ab lb cb]) co92 (ar1 (T rfl rfl)) (l1Bits_wc h4 (by first | omega | (simp; done) | (simp; omega))) ?_)
 rintro _ w5 ⟨rfl, e6⟩
 have E7 := below_ext E3 E3.size e6
 refine lw_v (.int .i64 (((nbits (x).toNat : Int)) - ((nbits (y).toNat : Int)))) (dv_sub (a := (nbits (x).toNat : Int)) (b := (nbits (y).toNat : Int)) (z := ((nbits (x).toNat : Int)) - ((nbits (y).toNat : Int))) (T rfl rfl) (T rfl rfl) (wr_i64 (by omega) (by omega))) ?_
 refine lw_v (.int .i64 (((nbits (x).toNat : Int)) - ((nbits (y).toNat : Int)))) (dv_assign (T rfl rfl)) ?_
 refine lw_nil ?_
 refine rk_seq ?_
 refine rk_seq ?_
 refine rk_reg ?_
 refine lw_v (.int .i64 (((nbits (x).toNat : Int)) - ((nbits (y).toNat : Int)))) (dv_move (T rfl rfl)) ?_
 refine lw_v (.bool (decide ((((nbits (x).toNat : Int)) - ((nbits (y).toNat : Int))) < 0))) (dv_lss (a := ((nbits (x).toNat : Int)) - ((nbits (y).toNat : Int))) (b := 0) (T rfl rfl) C) ?_
 refine lw_nil ?_
 by_cases hb8 : (((nbits (x).toNat : Int)) - ((nbits (y).toNat : Int))) < 0
 · refine rk_ct (T rfl (congrArg Value.bool (decide_eq_true hb8))) ?_
   refine rk_seq ?_
   refine rk_reg ?_
   refine lw_v (.slice Aa la ca) (dv_move (T rfl rfl)) ?_
   refine lw_v (.slice none 0 0) (dv_assign C) ?_
   refine lw_v (.slice Aa la ca) (dv_assign (T rfl rfl)) ?_
   refine lw_nil ?_
   refine rk_ret Try.func99 (v := .tuple #[.slice none 0 0, .slice Aa la ca]) (res2 Try.results99 (rv_tmp rfl rfl) (rv_tmp rfl rfl)) ⟨_, rfl, ?_⟩
   have hlt : x.toNat < y.toNat := nbits_mono_lt (by omega)
   have hq0 := Int.ediv_eq_zero_of_lt (a := x) (b := y) hx0 (by omega)
   have hr0 := Int.emod_eq_of_lt (a := x) (b := y) hx0 (by omega)
   have h9 := ((ha.ext e2).ext e6)
   exact ⟨_, _, _, _, _, _, rfl, E7, Wc.zero.eq hq0.symm, h9.eq hr0.symm⟩
 · refine rk_cf (T rfl (congrArg Value.bool (decide_eq_false hb8))) ?_
   refine rk_skip ?_
   refine rk_seq ?_
   obtain ⟨m, hm⟩ := Int.eq_ofNat_of_zero_le (show 0 ≤ ((nbits (x).toNat : Int)) - ((nbits (y).toNat : Int)) by omega)
   have hmb : m ≤ sx := by omega
   have hbs := bits_start (a := x.toNat) (b := y.toNat) (n := m) (by omega) (by omega)
   rw [Int.toNat_of_nonneg hx0, Int.toNat_of_nonneg (Int.le_of_lt hy)] at hbs
   have hleny := Wc.len (by decide) hb hys
   have hlenx := Wc.len (by decide) ha hxs
   refine rk_reg ?_
   refine lw_v (.int .i64 ((m : Int))) (dv_move (T rfl (vi hm))) ?_
   refine lw_v (.int .i64 (((m : Int)) / 32)) (dv_quo (a := (m : Int)) (b := 32) (z := ((m : Int)) / 32) (T rfl rfl) C (by decide) (quo_c (by omega) (by decide) (wr_i64 (by omega) (by omega)))) ?_
   refine lw_v (.int .i64 ((((m : Int)) / 32) + 1)) (dv_add (a := ((m : Int)) / 32) (b := 1) (z := (((m : Int)) / 32) + 1) (T rfl rfl) C (wr_i64 (by omega) (by omega))) ?_
   refine lw_e (oe_makeW (l := (((m) / 32) + 1)) (j := (((m : Int)) / 32) + 1) us63 in95 (T rfl rfl) (T rfl rfl) (by omega) (by first | omega | (simp; done) | (simp; omega)) (by first | omega | (simp; done) | (simp; omega)) ?_)
   intro b10 w11 n12
   have N13 : w.heap.size ≤ b10 := n12.eq ▸ E7.size
   have E14 := below_ext E7 E7.size n12.ext
   refine lw_v (.slice (some ⟨b10, 0, none⟩) ((((m) / 32) + 1)) ((((m) / 32) + 1))) (dv_assign (T rfl rfl)) ?_
   refine lw_nil ?_
   refine rk_seq ?_
   refine rk_reg ?_
   refine lw_v (.slice Aa la ca) (dv_move (T rfl rfl)) ?_
   refine lw_v (.slice Aa la ca) (dv_assign (T rfl rfl)) ?_
   refine lw_nil ?_
   refine rk_seq ?_
   refine rk_seq ?_
   refine rk_reg ?_
   refine lw_v (.int .i64 ((m : Int))) (dv_move (T rfl (vi hm))) ?_
   refine lw_v (.int .i64 ((m : Int))) (dv_assign (T rfl rfl)) ?_
   refine lw_nil ?_
   refine rk_block ?_
   have h15 := (((ha.ext e2).ext e6).ext n12.ext)
   refine rk_loop (fun dm_ fr wl => ∃ (I : Nat) (Q : List Int) (Ar : Option Addr) (lr cr : Nat) (R : Int), dm_ = I ∧ fr 1 = .slice Ab lb cb ∧ fr 4 = .slice none 0 0 ∧ fr 5 = .slice none 0 0 ∧ fr 7 = .slice (some ⟨b10, 0, none⟩) ((((m) / 32) + 1)) ((((m) / 32) + 1)) ∧ fr 8 = .slice Ar lr cr ∧ fr 9 = .int .i64 ((I : Int) - 1) ∧ Below w.heap.size w wl ∧ wl.heap[b10]? = some (.cells (Q.map (Value.int .u32)).toArray 95) ∧ Wc 32 95 .u32 wl Ar lr cr R ∧ (I ≤ m + 1) ∧ (Q.length = m / 32 + 1) ∧ (okW (2 ^ 32) Q) ∧ ((2 : Int) ^ I ∣ valB (2 ^ 32) Q) ∧ (R + y * valB (2 ^ 32) Q = x) ∧ (R < y * 2 ^ I) ∧ (R ≤ x)) (((m + 1))) ⟨(m + 1), (List.replicate ((((m) / 32) + 1)) (0 : Int)), Aa, la, ca, x, rfl, rfl, rfl, rfl, rfl, rfl, (vi (by omega)), E14, n12.blk, h15, (Nat.le_refl _), (by simp), (okW.replicate (by decide) _), (by rw [valB_zeros]; exact Int.dvd_zero _), (by rw [valB_zeros, Int.mul_zero, Int.add_zero]), hbs, (Int.le_refl _)⟩ ?_
   intro d20 fr19 w16 hI17 ih18
   obtain ⟨I, Q, Ar, lr, cr, R, hd30, f21, f22, f23, f24, f25, f26, E27, H28, h29, hI, hQl, hQo, hd, hR, hlt, hRx⟩ := hI17
   have hR0 := h29.nonneg
   have hlr := Wc.len (by decide) h29 (show R < 2 ^ sx by omega)
   have hp := two_pos ((I - 1) % 32)
   have hp2 : (2 : Int) ^ ((I - 1) % 32) ≤ 2 ^ 31 := pow_le_of (by decide) (by omega)
   have bQ := okW.getD hQo (by decide) ((I - 1) / 32)
   have hbz : 1 ≤ I → Q.getD ((I - 1) / 32) 0 % 2 ^ (((I - 1) % 32) + 1) = 0 := fun h => bit_zero hQo (by rw [show I - 1 + 1 = I by omega]; exact hd)
   have hp3 : (2 : Int) ^ (((I - 1) % 32) + 1) = 2 * 2 ^ ((I - 1) % 32) := by rw [Int.pow_succ]; omega
   refine rk_seq ?_
   refine rk_seq ?_
   refine rk_reg ?_
   refine lw_v (.int .i64 ((I : Int) - 1)) (dv_move (T rfl f26)) ?_
   refine lw_v (.bool (decide (0 ≤ ((I : Int) - 1)))) (dv_geq (a := (I : Int) - 1) (b := 0) (T rfl rfl) C) ?_
   refine lw_nil ?_
   by_cases hb31 : 0 ≤ ((I : Int) - 1)
   · refine rk_ct (T rfl (congrArg Value.bool (decide_eq_true hb31))) ?_
     refine rk_skip ?_
     refine rk_seq ?_
     refine rk_block ?_
     refine rk_seq ?_
     refine rk_reg ?_
     refine lw_v (.slice Ab lb cb) (dv_move (T rfl f21)) ?_
     refine lw_v (.int .i64 ((I : Int) - 1)) (dv_move (T rfl f26)) ?_
     have h32 := (hb.ext E27)
     refine lw_e (oe_callf (vs := [.slice Ab lb cb, .int .i64 ((I : Int) - 1)]) co76 (ar2 (T rfl rfl) (T rfl rfl)) (l1Left_ws (N := (I - 1)) (j := (I : Int) - 1) h32.ws (by first | omega | (simp; done) | (simp; omega)) (by first | omega | (simp; done) | (simp; omega)) hys (by omega)) ?_)
     rintro _ w37 ⟨A33, n34, c35, rfl, e38, h36⟩
     have E39 := below_ext E27 E27.size e38
     have lh36 := Wc.len (by decide) h36 (left_sz (m := (I - 1)) (s := sy) rfl hys)
     refine lw_v (.slice A33 n34 c35) (dv_assign (T rfl rfl)) ?_
     refine lw_nil ?_
     refine rk_seq ?_
     refine rk_reg ?_
     refine lw_v (.slice Ar lr cr) (dv_move (T rfl f25)) ?_
     refine lw_v (.slice A33 n34 c35) (dv_move (T rfl rfl)) ?_
     have h40 := (h29.ext e38)
     refine lw_e (oe_callf (vs := [.slice Ar lr cr, .slice A33 n34 c35]) co91 (ar2 (T rfl rfl) (T rfl rfl)) (l1CmpAbs_wc h40 h36 (by first | omega | (simp; done) | (simp; omega)) (by first | omega | (simp; done) | (simp; omega))) ?_)
     rintro _ w43 ⟨r41, rfl, e44, hr42⟩
     have E45 := below_ext E39 E39.size e44
     have qhr42 := cmpR.ge hr42
     have phr42 := cmpR.eq hr42
     have ohr42 := cmpR.gt hr42
     refine lw_v (.bool (decide (0 ≤ r41))) (dv_geq (a := r41) (b := 0) (T rfl rfl) C) ?_
     refine lw_nil ?_
     by_cases hb46 : 0 ≤ r41
     · refine rk_ct (T rfl (congrArg Value.bool (decide_eq_true hb46))) ?_
       refine rk_seq ?_
       have H47 := (e44.blk (e38.blk H28))
       have hbq : b10 < w43.heap.size := lt_of_blk H47
       refine rk_reg ?_
       refine lw_v (.slice Ar lr cr) (dv_move (T rfl f25)) ?_
       refine lw_v (.slice A33 n34 c35) (dv_move (T rfl rfl)) ?_
       have h48 := (h40.ext e44)
       have h49 := (h36.ext e44)
       refine lw_e (oe_callf (vs := [.slice Ar lr cr, .slice A33 n34 c35]) co86 (ar2 (T rfl rfl) (T rfl rfl)) (l1SubAbs_ws h48.ws h49.ws (by first | omega | (simp; done) | (simp; omega)) (by first | omega | (simp; done) | (simp; omega)) (by exact len_le32 h48 h49 (by omega)) (by omega)) ?_)
       rintro _ w54 ⟨A50, n51, c52, rfl, e55, h53, hnh53⟩
       have E56 := below_ext E45 E45.size e55
       refine lw_e (oe_callf (vs := [.bool false, .slice A50 n51 c52]) co75 (ar2 C (T rfl rfl)) (l1Trim_numA (s := sx) (neg := false) h53 (by first | omega | (simp; done) | (simp; omega)) (sz_sub (show R < 2 ^ sx by omega) (Wc.nonneg h49))) ?_)
       rintro _ w64 ⟨nb57, A58, n59, c60, rfl, e65, hn61, hal62⟩
       have E66 := below_ext E56 E56.size e65
       have hfr63 : ∀ (g o : Nat), A58 = some ⟨g, o, none⟩ → w43.heap.size ≤ g := by
        intro g o h
        rcases hal62 with h2 | h2
        · rw [h2] at h; cases h
        · exact hnh53.2 g o (h2 ▸ h)
       have lhn61 := Num.len (by decide) hn61
       refine lw_v (.slice A58 n59 c60) (dv_field (v := .slice A58 n59 c60) fb65_1 agt63 (T rfl rfl) rfl) ?_
       refine lw_v (.slice A58 n59 c60) (dv_assign (T rfl rfl)) ?_
       refine lw_nil ?_
       refine rk_reg ?_
       refine lw_v (.slice (some ⟨b10, 0, none⟩) ((((m) / 32) + 1)) ((((m) / 32) + 1))) (dv_move (T rfl f24)) ?_
       refine lw_v (.int .i64 ((I : Int) - 1)) (dv_move (T rfl f26)) ?_
       refine lw_v (.int .i64 (((I : Int) - 1) / 32)) (dv_quo (a := (I : Int) - 1) (b := 32) (z := ((I : Int) - 1) / 32) (T rfl rfl) C (by decide) (quo_c (by omega) (by decide) (wr_i64 (by omega) (by omega)))) ?_
       refine lw_v (.slice (some ⟨b10, 0, none⟩) ((((m) / 32) + 1)) ((((m) / 32) + 1))) (dv_move (T rfl f24)) ?_
       refine lw_v (.int .i64 ((I : Int) - 1)) (dv_move (T rfl f26)) ?_
       refine lw_v (.int .i64 (((I : Int) - 1) / 32)) (dv_quo (a := (I : Int) - 1) (b := 32) (z := ((I : Int) - 1) / 32) (T rfl rfl) C (by decide) (quo_c (by omega) (by decide) (wr_i64 (by omega) (by omega)))) ?_
       refine lw_v (.pointer (some ⟨b10, (((I - 1) / 32)), none⟩)) (dv_indexO (g := b10) (l := (((m) / 32) + 1)) (c := (((m) / 32) + 1)) (i := ((I - 1) / 32)) (j := ((I : Int) - 1) / 32) us63 sz95 (T rfl rfl) (T rfl rfl) (by omega) (by first | omega | (simp; done) | (simp; omega))) ?_
       have H67 := (e65.blk (e55.blk H47))
       refine lw_v (.int .u32 (Q.getD (((I - 1) / 32)) 0)) (dv_loadW (L := Q) (v := Q.getD (((I - 1) / 32)) 0) agt95 (T rfl rfl) H67 (by first | omega | (simp; done) | (simp; omega)) rfl) ?_
       refine lw_v (.int .i64 ((I : Int) - 1)) (dv_move (T rfl f26)) ?_
       refine lw_v (.int .i64 (((I : Int) - 1) % 32)) (dv_rem (a := (I : Int) - 1) (b := 32) (z := ((I : Int) - 1) % 32) (T rfl rfl) C (by decide) (rem_c (by omega) rfl)) ?_
       refine lw_v (.int .u64 (((I : Int) - 1) % 32)) (dv_conv (a := ((I : Int) - 1) % 32) (z := ((I : Int) - 1) % 32) ui2 ui97 (T rfl rfl) (wn_u64 (by omega) (by omega))) ?_
       refine lw_v (.int .u32 (1 * 2 ^ (((I - 1) % 32)))) (dv_shl (a := 1) (b := ((I : Int) - 1) % 32) (z := 1 * 2 ^ (((I - 1) % 32))) C (T rfl rfl) (by omega) (shl_w (K := ((I - 1) % 32)) (by omega) (show _ ≤ 32 by omega) (wn_u32 (by omega) (by omega)))) ?_
       refine lw_v (.int .u32 ((Q.getD (((I - 1) / 32)) 0) + (1 * 2 ^ (((I - 1) % 32))))) (dv_or (a := Q.getD (((I - 1) / 32)) 0) (b := 1 * 2 ^ (((I - 1) % 32))) (z := (Q.getD (((I - 1) / 32)) 0) + (1 * 2 ^ (((I - 1) % 32)))) (T rfl rfl) (T rfl rfl) ((or_add (k := .u32) (a := 1 * 2 ^ (((I - 1) % 32))) (b := Q.getD (((I - 1) / 32)) 0) (i := ((I - 1) % 32) + 1) rfl (by omega) (by omega) bQ.1 (hbz (by omega)) (lt32 (by omega)) (lt32 (by omega))).2.trans (Int.add_comm _ _))) ?_
       refine lw_v (.pointer (some ⟨b10, (((I - 1) / 32)), none⟩)) (dv_indexO (g := b10) (l := (((m) / 32) + 1)) (c := (((m) / 32) + 1)) (i := ((I - 1) / 32)) (j := ((I : Int) - 1) / 32) us63 sz95 (T rfl rfl) (T rfl rfl) (by omega) (by first | omega | (simp; done) | (simp; omega))) ?_
       refine lw_e (oe_storeW (L := Q) (i := ((I - 1) / 32)) (z := (Q.getD (((I - 1) / 32)) 0) + (1 * 2 ^ (((I - 1) % 32)))) sz95 (T rfl rfl) (T rfl rfl) H67 (by first | omega | (simp; done) | (simp; omega)) ?_)
       intro w68 s69 H70
       have E71 := below_st E66 N13 s69
       refine lw_nil ?_
       refine rk_inBlock ?_
       refine rk_reg ?_
       refine lw_v (.int .i64 ((I : Int) - 1)) (dv_move (T rfl f26)) ?_
       refine lw_v (.int .i64 (((I : Int) - 1) - 1)) (dv_sub (a := (I : Int) - 1) (b := 1) (z := ((I : Int) - 1) - 1) (T rfl rfl) C (wr_i64 (by omega) (by omega))) ?_
       refine lw_v (.int .i64 (((I : Int) - 1) - 1)) (dv_assign (T rfl rfl)) ?_
       refine lw_nil ?_
       have h72 := (hn61.stO s69 (fun g o h => by have := (hfr63) g o h; omega))
       have hpy : 0 ≤ 2 ^ (I - 1) * y := Int.mul_nonneg (Int.le_of_lt (two_pos _)) (Int.le_of_lt hy)
       exact ih18 (((I - 1))) _ _ (by rw [hd30]; omega) ⟨(I - 1), (Q.set (((I - 1) / 32)) ((Q.getD (((I - 1) / 32)) 0) + (1 * 2 ^ (((I - 1) % 32))))), A58, n59, c60, (R - 2 ^ (I - 1) * y), rfl, f21, f22, f23, f24, rfl, (vi (by omega)), E71, H70, (Wc.eq h72.wc (sg_natAbs (by omega))), (by omega), (by simp [hQl]), (okW.set hQo (by omega) (by rw [Int.one_mul]; exact bit_room bQ.1 bQ.2 (hbz (by omega)) (by omega)) _), (by rw [Int.one_mul]; exact bit_dvd (by omega) (by rw [show I - 1 + 1 = I by omega]; exact hd)), (by rw [Int.one_mul]; exact bit_set (by omega) hR), (bit_lt (by rw [show I - 1 + 1 = I by omega]; exact hlt)), (by omega)⟩
     · refine rk_cf (T rfl (congrArg Value.bool (decide_eq_false hb46))) ?_
       refine rk_skip ?_
       refine rk_inBlock ?_
       refine rk_reg ?_
       refine lw_v (.int .i64 ((I : Int) - 1)) (dv_move (T rfl f26)) ?_
       refine lw_v (.int .i64 (((I : Int) - 1) - 1)) (dv_sub (a := (I : Int) - 1) (b := 1) (z := ((I : Int) - 1) - 1) (T rfl rfl) C (wr_i64 (by omega) (by omega))) ?_
       refine lw_v (.int .i64 (((I : Int) - 1) - 1)) (dv_assign (T rfl rfl)) ?_
       refine lw_nil ?_
       have h73 := (h40.ext e44)
       have H74 := (e44.blk (e38.blk H28))
       exact ih18 (((I - 1))) _ _ (by rw [hd30]; omega) ⟨(I - 1), Q, Ar, lr, cr, R, rfl, f21, f22, f23, f24, f25, (vi (by omega)), E45, H74, h73, (by omega), hQl, hQo, (bit_dvd0 (by rw [show I - 1 + 1 = I by omega]; exact hd)), hR, (by rw [Int.mul_comm y]; omega), hRx⟩
   · refine rk_cf (T rfl (congrArg Value.bool (decide_eq_false hb31))) ?_
     refine rk_exit rfl ?_
     refine rk_seq ?_
     refine rk_reg ?_
     refine lw_v (.slice (some ⟨b10, 0, none⟩) ((((m) / 32) + 1)) ((((m) / 32) + 1))) (dv_move (T rfl f24)) ?_
     refine lw_e (oe_callf (vs := [.bool false, .slice (some ⟨b10, 0, none⟩) ((((m) / 32) + 1)) ((((m) / 32) + 1))]) co75 (ar2 C (T rfl rfl)) (l1Trim_numA (s := (32 * ((((m) / 32) + 1)))) (neg := false) (⟨Q, (by first | (simp; done) | (simp; omega) | omega), (by first | (simp; done) | (simp; omega) | omega), Wd.ownW H28, hQo, rfl⟩ : Ws _ _ _ _ _ _ _ _) (by first | omega | (simp; done) | (simp; omega)) (valB_sz hQo (by first | (simp; done) | (simp; omega) | omega))) ?_)
     rintro _ w81 ⟨nb75, A76, n77, c78, rfl, e82, hn79, hal80⟩
     have E83 := below_ext E27 E27.size e82
     have lhn79 := Num.len (by decide) hn79
     refine lw_v (.slice A76 n77 c78) (dv_field (v := .slice A76 n77 c78) fb65_1 agt63 (T rfl rfl) rfl) ?_
     refine lw_v (.slice Ar lr cr) (dv_move (T rfl f25)) ?_
     refine lw_v (.slice A76 n77 c78) (dv_assign (T rfl rfl)) ?_
     refine lw_v (.slice Ar lr cr) (dv_assign (T rfl rfl)) ?_
     refine lw_nil ?_
     refine rk_ret Try.func99 (v := .tuple #[.slice A76 n77 c78, .slice Ar lr cr]) (res2 Try.results99 (rv_tmp rfl rfl) (rv_tmp rfl rfl)) ⟨_, rfl, ?_⟩
     have hI0 : I = 0 := by omega
     rw [hI0, Int.pow_zero, Int.mul_one] at hlt
     have hdv := div_of hR hR0 hlt
     have h84 := (h29.ext e82)
     exact ⟨_, _, _, _, _, _, rfl, E83, Wc.eq hn79.wc (by rw [sg_natAbs (valB_nonneg (by decide) hQo)]; exact hdv.1), Wc.eq h84 hdv.2⟩
end Go.Proofs.Ytfmkadgjoechnaa.W
set_option linter.unusedVariables false
set_option linter.unusedSimpArgs false
namespace Go.Proofs.Ytfmkadgjoechnaa.W
open Go Go.RowKit Go.Proofs.Ytfmkadgjoechnaa.Fw
attribute [local irreducible] RunK LW AW DV OE Ct
theorem co79 : callOk Try.prog 79 = true := by kernel_rfl
theorem co98 : callOk Try.prog 98 = true := by kernel_rfl
theorem co99 : callOk Try.prog 99 = true := by kernel_rfl
end Go.Proofs.Ytfmkadgjoechnaa.W
set_option linter.unusedVariables false
set_option linter.unusedSimpArgs false
namespace Go.Proofs.Ytfmkadgjoechnaa.W
open Go Go.RowKit Go.Proofs.Ytfmkadgjoechnaa.Fw
attribute [local irreducible] RunK LW AW DV OE Ct
theorem us113 : Try.prog.underlying 113 = some (.slice 59) := by kernel_rfl
set_option maxHeartbeats 1000000 in
theorem l1Gcd_ok {w : World} {na : Bool} {Aa : Option Addr} {la ca : Nat} {x : Int} {sx : Nat} (ha : Num 32 95 .u32 w na Aa la ca x sx) {nb : Bool} {Ab : Option Addr} {lb cb : Nat} {y : Int} {sy : Nat} (hb : Num 32 95 .u32 w nb Ab lb cb y sy) (hs : sx ≤ 200000) (hs2 : sy ≤ 200000) : Ct Try.prog 64 [.agg #[.bool na, .slice Aa la ca], .agg #[.bool nb, .slice Ab lb cb]] w fun v w1 => ∃ nr A' n c', v = .agg #[.bool nr, .slice A' n c'] ∧ Ext w w1 ∧ Num 32 95 .u32 w1 nr A' n c' (gI x y) (max sx sy) := by
 refine ct_run (n := 26) Try.func64 rfl Try.ntmps64 rfl ?_
 have E0 : Below w.heap.size w w := Below.refl _ _
 have lha := Num.len (by decide) ha
 have lhb := Num.len (by decide) hb
 refine rk_seq ?_
 refine rk_reg ?_
 refine lw_e (oe_box (v := .agg #[.bool na, .slice Aa la ca]) (cs := #[.bool na, .slice Aa la ca]) (T rfl rfl) rfl ?_)
 intro b1 w2 n3
 have N4 : w.heap.size ≤ b1 := n3.eq ▸ E0.size
 have E5 := below_ext E0 E0.size n3.ext
 refine lw_e (oe_box (v := .agg #[.bool nb, .slice Ab lb cb]) (cs := #[.bool nb, .slice Ab lb cb]) (T rfl rfl) rfl ?_)
 intro b6 w7 n8
 have N9 : w.heap.size ≤ b6 := n8.eq ▸ E5.size
 have : b1 < b6 := n8.eq ▸ lt_of_blk n3.blk
 have E10 := below_ext E5 E5.size n8.ext
 refine lw_e (oe_alloc ze65 ?_)
 intro b11 w12 n13
 have N14 : w.heap.size ≤ b11 := n13.eq ▸ E10.size
 have : b6 < b11 := n13.eq ▸ lt_of_blk n8.blk
 have E15 := below_ext E10 E10.size n13.ext
 refine lw_nil ?_
 refine rk_seq ?_
 refine rk_reg ?_
 refine lw_v (.pointer (some ⟨b1, 1, none⟩)) (dv_fieldAddr (a := ⟨b1, 0, none⟩) (a' := ⟨b1, 1, none⟩) fo65_1 (T rfl rfl) rfl) ?_
 have H16 := (n13.ext.blk (n8.ext.blk n3.blk))
 refine lw_v (.slice Aa la ca) (dv_load1 (b := b1) (o := 1) agt63 (T rfl rfl) H16 rfl) ?_
 refine lw_v (.slice Aa la ca) (dv_assign (T rfl rfl)) ?_
 refine lw_nil ?_
 refine rk_seq ?_
 refine rk_reg ?_
 refine lw_v (.pointer (some ⟨b6, 1, none⟩)) (dv_fieldAddr (a := ⟨b6, 0, none⟩) (a' := ⟨b6, 1, none⟩) fo65_1 (T rfl rfl) rfl) ?_
 have H17 := (n13.ext.blk n8.blk)
 refine lw_v (.slice Ab lb cb) (dv_load1 (b := b6) (o := 1) agt63 (T rfl rfl) H17 rfl) ?_
 refine lw_v (.slice Ab lb cb) (dv_assign (T rfl rfl)) ?_
 refine lw_nil ?_
 refine rk_seq ?_
 refine rk_block ?_
 have h26 := (((ha.ext n3.ext).ext n8.ext).ext n13.ext)
 have h27 := (((hb.ext n3.ext).ext n8.ext).ext n13.ext)
 refine rk_loop (fun dm_ fr wl => ∃ (Ax18 : Option Addr) (lx19 cx20 : Nat) (Ay21 : Option Addr) (ly22 cy23 : Nat) (X24 Y25 : Int), dm_ = Y25.toNat ∧ fr 4 = .pointer (some ⟨b11, 0, none⟩) ∧ fr 5 = .slice Ax18 lx19 cx20 ∧ fr 6 = .slice Ay21 ly22 cy23 ∧ Below w.heap.size w wl ∧ wl.heap[b1]? = some (.cells #[.bool na, .slice Aa la ca] 65) ∧ wl.heap[b6]? = some (.cells #[.bool nb, .slice Ab lb cb] 65) ∧ wl.heap[b11]? = some (.cells #[.bool false, .slice none 0 0] 65) ∧ Wc 32 95 .u32 wl Ax18 lx19 cx20 X24 ∧ Wc 32 95 .u32 wl Ay21 ly22 cy23 Y25 ∧ (gI X24 Y25 = gI ((x.natAbs : Int)) ((y.natAbs : Int))) ∧ (X24 < 2 ^ (max sx sy)) ∧ (Y25 < 2 ^ (max sx sy))) ((((y.natAbs : Int))).toNat) ⟨Aa, la, ca, Ab, lb, cb, ((x.natAbs : Int)), ((y.natAbs : Int)), rfl, rfl, rfl, rfl, E15, H16, H17, n13.blk, h26.wc, h27.wc, rfl, (Int.lt_of_lt_of_le h26.ltI (pow_le_of (by decide) (by omega))), (Int.lt_of_lt_of_le h27.ltI (pow_le_of (by decide) (by omega)))⟩ ?_
 intro d32 fr31 w28 hI29 ih30
 obtain ⟨Ax18, lx19, cx20, Ay21, ly22, cy23, X24, Y25, hd42, f33, f34, f35, E36, H37, H38, H39, h40, h41, hgc, hXs, hYs⟩ := hI29
 have hXp := h40.nonneg
 have hYp := h41.pos
 have hYn := h41.nonneg
 have hlx := Wc.len (by decide) h40 hXs
 have hly := Wc.len (by decide) h41 hYs
 refine rk_seq ?_
 refine rk_seq ?_
 refine rk_reg ?_
 refine lw_v (.slice Ay21 ly22 cy23) (dv_move (T rfl f35)) ?_
 refine lw_v (.int .i64 ((ly22 : Int))) (dv_len (ad := Ay21) (l := ly22) (c := cy23) us63 (T rfl rfl)) ?_
 refine lw_v (.bool (decide (0 < ((ly22 : Int))))) (dv_gtr (a := (ly22 : Int)) (b := 0) (T rfl rfl) C) ?_
 refine lw_nil ?_
 by_cases hb43 : 0 < ((ly22 : Int))
 · refine rk_ct (T rfl (congrArg Value.bool (decide_eq_true hb43))) ?_
   refine rk_skip ?_
   refine rk_block ?_
   refine rk_seq ?_
   refine rk_reg ?_
   refine lw_v (.slice Ax18 lx19 cx20) (dv_move (T rfl f34)) ?_
   refine lw_v (.slice Ay21 ly22 cy23) (dv_move (T rfl f35)) ?_
   refine lw_e (oe_callf (vs := [.slice Ax18 lx19 cx20, .slice Ay21 ly22 cy23]) co99 (ar2 (T rfl rfl) (T rfl rfl)) (l1DivAbs_ok h40 h41 (by omega) hXs hYs (by omega) (by omega)) ?_)
   rintro _ w52 ⟨A44, n45, c46, A47, n48, c49, rfl, e53, h50, h51⟩
   have E54 := below_ext E36 E36.size e53
   have lh50 := Wc.len (by decide) h50 (div_sz (Wc.nonneg h40) (by omega) hXs)
   have lh51 := Wc.len (by decide) h51 (mod_sz (by omega) hYs)
   refine lw_v (.tuple #[.slice A44 n45 c46, .slice A47 n48 c49]) (dv_move (T rfl rfl)) ?_
   refine lw_v (.slice A44 n45 c46) (dv_extract (vs := #[.slice A44 n45 c46, .slice A47 n48 c49]) (T rfl rfl) rfl) ?_
   refine lw_v (.slice A47 n48 c49) (dv_extract (vs := #[.slice A44 n45 c46, .slice A47 n48 c49]) (T rfl rfl) rfl) ?_
   refine lw_v (.slice A44 n45 c46) (dv_assign (T rfl rfl)) ?_
   refine lw_v (.slice A47 n48 c49) (dv_assign (T rfl rfl)) ?_
   refine lw_nil ?_
   refine rk_reg ?_
   refine lw_v (.slice Ay21 ly22 cy23) (dv_move (T rfl f35)) ?_
   refine lw_v (.slice A47 n48 c49) (dv_move (T rfl rfl)) ?_
   refine lw_v (.slice Ay21 ly22 cy23) (dv_assign (T rfl rfl)) ?_
   refine lw_v (.slice A47 n48 c49) (dv_assign (T rfl rfl)) ?_
   refine lw_nil ?_
   refine rk_inBlock ?_
   have h55 := (h41.ext e53)
   have hml := Int.emod_lt_of_pos X24 (hYp.1 (by omega))
   have hmn := Int.emod_nonneg X24 (show Y25 ≠ 0 by omega)
   have H56 := (e53.blk H37)
   have H57 := (e53.blk H38)
   have H58 := (e53.blk H39)
   exact ih30 (((X24 % Y25)).toNat) _ _ (by rw [hd42]; omega) ⟨Ay21, ly22, cy23, A47, n48, c49, Y25, (X24 % Y25), rfl, f33, rfl, rfl, E54, H56, H57, H58, h55, h51, (by rw [gI_step]; exact hgc), hYs, (by omega)⟩
 · refine rk_cf (T rfl (congrArg Value.bool (decide_eq_false hb43))) ?_
   refine rk_exit rfl ?_
   refine rk_seq ?_
   refine rk_reg ?_
   refine lw_v (.slice Ax18 lx19 cx20) (dv_move (T rfl f34)) ?_
   refine lw_e (oe_callf (vs := [.bool false, .slice Ax18 lx19 cx20]) co75 (ar2 C (T rfl rfl)) (l1Trim_num (s := (max sx sy)) (neg := false) h40.ws (by first | omega | (simp; done) | (simp; omega)) hXs) ?_)
   rintro _ w64 ⟨nb59, A60, n61, c62, rfl, e65, hn63⟩
   have E66 := below_ext E36 E36.size e65
   have lhn63 := Num.len (by decide) hn63
   have H67 := (e65.blk H39)
   refine lw_e (oe_store (v := .agg #[.bool nb59, .slice A60 n61 c62]) (vs := [.bool nb59, .slice A60 n61 c62]) (l := [.bool nb59, .slice A60 n61 c62]) (T rfl f33) (T rfl rfl) sz65 rfl rfl rfl H67 rfl ?_)
   intro w68 s69 H70
   have E71 := below_st E66 N14 s69
   refine lw_nil ?_
   refine rk_ret Try.func64 (v := .agg #[.bool nb59, .slice A60 n61 c62]) (res1 Try.results64 (rv_cells (l := [.bool nb59, .slice A60 n61 c62]) agt65 sz65 rfl f33 H70 rfl)) ⟨_, rfl, ?_⟩
   have h72 := (hn63.st s69 H67 (by decide))
   have hY0 : Y25 = 0 := by omega
   rw [hY0, gI_zero, gI_abs] at hgc
   exact ⟨_, _, _, _, rfl, E71, h72.to (by simp only [sg]; simp; omega) (Nat.le_refl _)⟩
set_option maxHeartbeats 1000000 in
theorem gcd3_ok {w : World} {bl : Nat} {na : Bool} {Aa : Option Addr} {la ca : Nat} {x : Int} {sx : Nat} (ha : Num 64 24 .u64 w na Aa la ca x sx) {nb : Bool} {Ab : Option Addr} {lb cb : Nat} {y : Int} {sy : Nat} (hb : Num 64 24 .u64 w nb Ab lb cb y sy) {nm : Bool} {Am : Option Addr} {lm cm : Nat} {z : Int} {sz : Nat} (hm : Num 64 24 .u64 w nm Am lm cm z sz) (hsx : sx ≤ 200000) (hsy : sy ≤ 200000) (hsz : sz ≤ 200000) (hL : w.heap[bl]? = some (.cells #[.bool na, .slice Aa la ca, .bool nb, .slice Ab lb cb, .bool nm, .slice Am lm cm] 59)) : Ct Try.prog 63 [.slice (some ⟨bl, 0, none⟩) 3 3] w fun v w1 => ∃ nr A' n c', v = .agg #[.bool nr, .slice A' n c'] ∧ Ext w w1 ∧ Num 64 24 .u64 w1 nr A' n c' (gI3 x y z) (max sx (max sy sz)) := by
 refine ct_run (n := 37) Try.func63 rfl Try.ntmps63 rfl ?_
 have E0 : Below w.heap.size w w := Below.refl _ _
 have lha := Num.len (by decide) ha
 have lhb := Num.len (by decide) hb
 have lhm := Num.len (by decide) hm
 refine rk_seq ?_
 refine rk_reg ?_
 refine lw_e (oe_alloc ze59 ?_)
 intro b1 w2 n3
 have N4 : w.heap.size ≤ b1 := n3.eq ▸ E0.size
 have : bl < b1 := n3.eq ▸ lt_of_blk hL
 have E5 := below_ext E0 E0.size n3.ext
 refine lw_nil ?_
 refine rk_seq ?_
 refine rk_reg ?_
 refine lw_v (.agg #[.bool false, .slice none 0 0]) (dv_build (pv := []) (l := [.bool false, .slice none 0 0]) zc59 pl59 trivial rfl) ?_
 refine lw_e (oe_alloc ze59 ?_)
 intro b6 w7 n8
 have N9 : w.heap.size ≤ b6 := n8.eq ▸ E5.size
 have : b1 < b6 := n8.eq ▸ lt_of_blk n3.blk
 have E10 := below_ext E5 E5.size n8.ext
 refine lw_e (oe_store (v := .agg #[.bool false, .slice none 0 0]) (vs := [.bool false, .slice none 0 0]) (l := [.bool false, .slice none 0 0]) (T rfl rfl) (T rfl rfl) sz59 rfl rfl rfl n8.blk rfl ?_)
 intro w11 s12 H13
 have E14 := below_st E10 N9 s12
 refine lw_nil ?_
 refine rk_seq ?_
 refine rk_seq ?_
 refine rk_reg ?_
 refine lw_v (.slice (some ⟨bl, 0, none⟩) 3 3) (dv_move (T rfl rfl)) ?_
 refine lw_v (.int .i64 3) (dv_len (ad := some ⟨bl, 0, none⟩) (l := 3) (c := 3) us113 (T rfl rfl)) ?_
 refine lw_v (.int .i64 0) (dv_move C) ?_
 refine lw_nil ?_
 refine rk_block ?_
 refine rk_unroll ?_
 refine rk_seq ?_
 refine rk_reg ?_
 refine lw_v (.bool (decide (((0 : Int) < 3 : Prop)))) (dv_lss (a := 0) (b := 3) (T rfl rfl) (T rfl rfl)) ?_
 refine lw_nil ?_
 refine rk_seq ?_
 refine rk_ct (T rfl (rfl)) ?_
 refine rk_skip ?_
 refine rk_seq ?_
 refine rk_block ?_
 refine rk_seq ?_
 refine rk_reg ?_
 refine lw_v (.pointer (some ⟨bl, 0, none⟩)) (dv_indexAddr (a := ⟨bl, 0, none⟩) (a' := ⟨bl, 0, none⟩) (l := 3) (c := 3) (j := 0) us113 sz59 (T rfl rfl) (T rfl rfl) (by decide) (by decide) rfl) ?_
 have H15 := (s12.blk (n8.ext.blk (n3.ext.blk hL)) (by omega))
 refine lw_v (.agg #[.bool na, .slice Aa la ca]) (dv_loads (l := [.bool na, .slice Aa la ca]) agt59 sz59 (T rfl rfl) H15 rfl) ?_
 refine lw_e (oe_alloc ze59 ?_)
 intro b16 w17 n18
 have N19 : w.heap.size ≤ b16 := n18.eq ▸ E14.size
 have : b6 < b16 := n18.eq ▸ lt_of_blk H13
 have E20 := below_ext E14 E14.size n18.ext
 refine lw_e (oe_store (v := .agg #[.bool na, .slice Aa la ca]) (vs := [.bool na, .slice Aa la ca]) (l := [.bool na, .slice Aa la ca]) (T rfl rfl) (T rfl rfl) sz59 rfl rfl rfl n18.blk rfl ?_)
 intro w21 s22 H23
 have E24 := below_st E20 N19 s22
 refine lw_nil ?_
 refine rk_seq ?_
 refine rk_any (fun w => w.heap[b6]? = some (.cells #[.bool false, .slice none 0 0] 59) ∧ w.heap[b16]? = some (.cells #[.bool na, .slice Aa la ca] 59)) [5] mo ?_
 intro w25 d26
 have E27 := below_ext E24 E24.size d26.ext
 have H28 := (d26.ext.blk (s22.blk (n18.ext.blk H13) (by omega)))
 have H29 := (d26.ext.blk H23)
 refine aw_pure 0 (.pointer (some ⟨b6, 1, none⟩)) rfl (by kernel_rfl) .none ⟨H28, H29⟩ (fun _ => dv_fieldAddr (a := ⟨b6, 0, none⟩) (a' := ⟨b6, 1, none⟩) fo59_1 (T rfl rfl) rfl) ?_
 refine aw_load 1 (.slice none 0 0) rfl (by kernel_rfl) .none ⟨H28, H29⟩ (fun _ s => dv_load1 (b := b6) (o := 1) agt57 (T rfl rfl) s.1 rfl) ?_
 refine aw_pure 2 (.pointer (some ⟨b16, 1, none⟩)) rfl (by kernel_rfl) .none ⟨H28, H29⟩ (fun _ => dv_fieldAddr (a := ⟨b16, 0, none⟩) (a' := ⟨b16, 1, none⟩) fo59_1 (T rfl rfl) rfl) ?_
 refine aw_load 3 (.slice Aa la ca) rfl (by kernel_rfl) .none ⟨H28, H29⟩ (fun _ s => dv_load1 (b := b16) (o := 1) agt57 (T rfl rfl) s.2 rfl) ?_
 refine aw_pure 4 (.slice none 0 0) rfl (by kernel_rfl) .none ⟨H28, H29⟩ (fun _ => dv_assign (T rfl rfl)) ?_
 refine aw_last 5 (.slice Aa la ca) rfl (by kernel_rfl) .none (fun _ => dv_assign (T rfl rfl)) ?_
 refine aw_done (by kernel_rfl) ?_
 refine rk_seq ?_
 refine rk_block ?_
 have h38 := ha.ext E27
 have H39 := (d26.ext.blk (s22.blk (n18.ext.blk H15) (by omega)))
 have H40 := (d26.ext.blk (s22.blk (n18.ext.blk (s12.blk (n8.ext.blk n3.blk) (by omega))) (by omega)))
 refine rk_loop (fun dm_ fr wl => ∃ (Ax30 : Option Addr) (lx31 cx32 : Nat) (Ay33 : Option Addr) (ly34 cy35 : Nat) (X36 Y37 : Int), dm_ = Y37.toNat ∧ fr 2 = .pointer (some ⟨b1, 0, none⟩) ∧ fr 3 = .pointer (some ⟨b6, 0, none⟩) ∧ fr 5 = .pointer (some ⟨b16, 0, none⟩) ∧ fr 6 = .slice Ax30 lx31 cx32 ∧ fr 7 = .slice Ay33 ly34 cy35 ∧ fr 11 = .slice (some ⟨bl, 0, none⟩) 3 3 ∧ fr 12 = .int .i64 3 ∧ fr 13 = .int .i64 0 ∧ fr 14 = .bool (decide (((0 : Int) < 3 : Prop))) ∧ fr 15 = .pointer (some ⟨bl, 0, none⟩) ∧ fr 16 = .agg #[.bool na, .slice Aa la ca] ∧ fr 17 = .pointer (some ⟨b6, 1, none⟩) ∧ fr 18 = .slice none 0 0 ∧ fr 19 = .pointer (some ⟨b16, 1, none⟩) ∧ fr 20 = .slice Aa la ca ∧ Below w.heap.size w wl ∧ wl.heap[bl]? = some (.cells #[.bool na, .slice Aa la ca, .bool nb, .slice Ab lb cb, .bool nm, .slice Am lm cm] 59) ∧ wl.heap[b1]? = some (.cells #[.bool false, .slice none 0 0] 59) ∧ wl.heap[b6]? = some (.cells #[.bool false, .slice none 0 0] 59) ∧ wl.heap[b16]? = some (.cells #[.bool na, .slice Aa la ca] 59) ∧ Wc 64 24 .u64 wl Ax30 lx31 cx32 X36 ∧ Wc 64 24 .u64 wl Ay33 ly34 cy35 Y37 ∧ (gI X36 Y37 = gI 0 ((x.natAbs : Int))) ∧ (X36 < 2 ^ (max sx (max sy sz))) ∧ (Y37 < 2 ^ (max sx (max sy sz)))) ((((x.natAbs : Int))).toNat) ⟨none, 0, 0, Aa, la, ca, 0, ((x.natAbs : Int)), rfl, rfl, rfl, rfl, rfl, rfl, rfl, rfl, rfl, rfl, rfl, rfl, rfl, rfl, rfl, rfl, E27, H39, H40, H28, H29, Wc.zero, h38.wc, rfl, (two_pos _), (Int.lt_of_lt_of_le h38.ltI (pow_le_of (by decide) (by omega)))⟩ ?_
 intro d45 fr44 w41 hI42 ih43
 obtain ⟨Ax30, lx31, cx32, Ay33, ly34, cy35, X36, Y37, hd68, f46, f47, f48, f49, f50, f51, f52, f53, f54, f55, f56, f57, f58, f59, f60, E61, H62, H63, H64, H65, h66, h67, hgc, hXs, hYs⟩ := hI42
 have hXp := h66.nonneg
 have hYp := h67.pos
 have hYn := h67.nonneg
 have hlx := Wc.len (by decide) h66 hXs
 have hly := Wc.len (by decide) h67 hYs
 refine rk_seq ?_
 refine rk_seq ?_
 refine rk_reg ?_
 refine lw_v (.slice Ay33 ly34 cy35) (dv_move (T rfl f50)) ?_
 refine lw_v (.int .i64 ((ly34 : Int))) (dv_len (ad := Ay33) (l := ly34) (c := cy35) us57 (T rfl rfl)) ?_
 refine lw_v (.bool (decide (0 < ((ly34 : Int))))) (dv_gtr (a := (ly34 : Int)) (b := 0) (T rfl rfl) C) ?_
 refine lw_nil ?_
 by_cases hb69 : 0 < ((ly34 : Int))
 · refine rk_ct (T rfl (congrArg Value.bool (decide_eq_true hb69))) ?_
   refine rk_skip ?_
   refine rk_block ?_
   refine rk_seq ?_
   refine rk_reg ?_
   refine lw_v (.slice Ax30 lx31 cx32) (dv_move (T rfl f49)) ?_
   refine lw_v (.slice Ay33 ly34 cy35) (dv_move (T rfl f50)) ?_
   refine lw_e (oe_callf (vs := [.slice Ax30 lx31 cx32, .slice Ay33 ly34 cy35]) co98 (ar2 (T rfl rfl) (T rfl rfl)) (divWords_ok h66 h67 (by omega) (by first | omega | (simp; done) | (simp; omega)) (by first | omega | (simp; done) | (simp; omega))) ?_)
   rintro _ w78 ⟨A70, n71, c72, A73, n74, c75, rfl, e79, h76, h77⟩
   have E80 := below_ext E61 E61.size e79
   have lh76 := Wc.len (by decide) h76 (div_sz (Wc.nonneg h66) (by omega) hXs)
   have lh77 := Wc.len (by decide) h77 (mod_sz (by omega) hYs)
   refine lw_v (.tuple #[.slice A70 n71 c72, .slice A73 n74 c75]) (dv_move (T rfl rfl)) ?_
   refine lw_v (.slice A70 n71 c72) (dv_extract (vs := #[.slice A70 n71 c72, .slice A73 n74 c75]) (T rfl rfl) rfl) ?_
   refine lw_v (.slice A73 n74 c75) (dv_extract (vs := #[.slice A70 n71 c72, .slice A73 n74 c75]) (T rfl rfl) rfl) ?_
   refine lw_v (.slice A70 n71 c72) (dv_assign (T rfl rfl)) ?_
   refine lw_v (.slice A73 n74 c75) (dv_assign (T rfl rfl)) ?_
   refine lw_nil ?_
   refine rk_reg ?_
   refine lw_v (.slice Ay33 ly34 cy35) (dv_move (T rfl f50)) ?_
   refine lw_v (.slice A73 n74 c75) (dv_move (T rfl rfl)) ?_
   obtain ⟨xs81, hl82, hc83, hw84, ho85, hk86, hv87⟩ := h77
   have H88 := (e79.blk H62)
   have : bl < w78.heap.size := lt_of_blk H88
   have H89 := (e79.blk H63)
   have : b1 < w78.heap.size := lt_of_blk H89
   have H90 := (e79.blk H64)
   have : b6 < w78.heap.size := lt_of_blk H90
   have H91 := (e79.blk H65)
   have : b16 < w78.heap.size := lt_of_blk H91
   have N92 : w.heap.size ≤ w78.heap.size := E80.size
   refine lw_e (oe_callf (vs := [.slice A73 n74 c75]) co88 (ar1 (T rfl rfl)) (clone_ok hw84 hl82 (by first | omega | (simp; done) | (simp; omega))) ?_)
   rintro _ w96 ⟨Ad93, c94, rfl, e97, hO95⟩
   have E98 := below_ext E80 E80.size e97
   refine lw_v (.slice Ay33 ly34 cy35) (dv_assign (T rfl rfl)) ?_
   refine lw_v (.slice Ad93 (xs81.length) c94) (dv_assign (T rfl rfl)) ?_
   refine lw_nil ?_
   refine rk_inBlock ?_
   have h99 := ((h67.ext e79).ext e97)
   have hml := Int.emod_lt_of_pos X36 (hYp.1 (by omega))
   have hmn := Int.emod_nonneg X36 (show Y37 ≠ 0 by omega)
   have H100 := (e97.blk H88)
   have H101 := (e97.blk H89)
   have H102 := (e97.blk H90)
   have H103 := (e97.blk H91)
   exact ih43 (((X36 % Y37)).toNat) _ _ (by rw [hd68]; omega) ⟨Ay33, ly34, cy35, Ad93, xs81.length, c94, Y37, (X36 % Y37), rfl, f46, f47, f48, rfl, rfl, f51, f52, f53, f54, f55, f56, f57, f58, f59, f60, E98, H100, H101, H102, H103, h99, ⟨xs81, rfl, hO95.cap, hO95.wd, ho85, hk86, hv87⟩, (by rw [gI_step]; exact hgc), hYs, (by omega)⟩
 · refine rk_cf (T rfl (congrArg Value.bool (decide_eq_false hb69))) ?_
   refine rk_exit rfl ?_
   have hY0 : Y37 = 0 := by omega
   rw [hY0, gI_zero] at hgc
   have hr104 : X36 = (x.natAbs : Int) := (by have h := hgc; rw [gI_zl] at h; (try simp at h); omega)
   have hw105 := Wc.eq h66 hr104
   have hq106 : (x.natAbs : Int) < 2 ^ (max sx (max sy sz)) := by rw [← hr104]; exact hXs
   refine rk_reg ?_
   refine lw_v (.slice Ax30 lx31 cx32) (dv_move (T rfl f49)) ?_
   refine lw_v (.agg #[.bool false, .slice Ax30 lx31 cx32]) (dv_build (pv := [(0, .bool false), (1, .slice Ax30 lx31 cx32)]) (l := [.bool false, .slice Ax30 lx31 cx32]) zc59 pl59 ⟨rfl, C, ⟨rfl, (T rfl rfl), trivial⟩⟩ rfl) ?_
   refine lw_e (oe_store (v := .agg #[.bool false, .slice Ax30 lx31 cx32]) (vs := [.bool false, .slice Ax30 lx31 cx32]) (l := [.bool false, .slice Ax30 lx31 cx32]) (T rfl f47) (T rfl rfl) sz59 rfl rfl rfl H64 rfl ?_)
   intro w107 s108 H109
   have E110 := below_st E61 N9 s108
   refine lw_nil ?_
   refine rk_inBlock ?_
   refine rk_reg ?_
   refine lw_v (.int .i64 1) (dv_add (a := 0) (b := 1) (z := 1) (T rfl f53) C (by decide)) ?_
   refine lw_v (.int .i64 1) (dv_move (T rfl rfl)) ?_
   refine lw_nil ?_
   refine rk_inLoop ?_
   refine rk_seq ?_
   refine rk_reg ?_
   refine lw_v (.bool (decide (((1 : Int) < 3 : Prop)))) (dv_lss (a := 1) (b := 3) (T rfl rfl) (T rfl f52)) ?_
   refine lw_nil ?_
   refine rk_seq ?_
   refine rk_ct (T rfl (rfl)) ?_
   refine rk_skip ?_
   refine rk_seq ?_
   refine rk_block ?_
   refine rk_seq ?_
   refine rk_reg ?_
   refine lw_v (.pointer (some ⟨bl, 2, none⟩)) (dv_indexAddr (a := ⟨bl, 0, none⟩) (a' := ⟨bl, 2, none⟩) (l := 3) (c := 3) (j := 1) us113 sz59 (T rfl f51) (T rfl rfl) (by decide) (by decide) rfl) ?_
   have H111 := (s108.blk H62 (by omega))
   refine lw_v (.agg #[.bool nb, .slice Ab lb cb]) (dv_loads (l := [.bool nb, .slice Ab lb cb]) agt59 sz59 (T rfl rfl) H111 rfl) ?_
   refine lw_e (oe_alloc ze59 ?_)
   intro b112 w113 n114
   have N115 : w.heap.size ≤ b112 := n114.eq ▸ E110.size
   have H116 := (s108.blk H65 (by omega))
   have : b16 < b112 := n114.eq ▸ lt_of_blk H116
   have E117 := below_ext E110 E110.size n114.ext
   refine lw_e (oe_store (v := .agg #[.bool nb, .slice Ab lb cb]) (vs := [.bool nb, .slice Ab lb cb]) (l := [.bool nb, .slice Ab lb cb]) (T rfl rfl) (T rfl rfl) sz59 rfl rfl rfl n114.blk rfl ?_)
   intro w118 s119 H120
   have E121 := below_st E117 N115 s119
   refine lw_nil ?_
   refine rk_seq ?_
   refine rk_any (fun w => w.heap[b6]? = some (.cells #[.bool false, .slice Ax30 lx31 cx32] 59) ∧ w.heap[b112]? = some (.cells #[.bool nb, .slice Ab lb cb] 59)) [5] mo ?_
   intro w122 d123
   have E124 := below_ext E121 E121.size d123.ext
   have H125 := (d123.ext.blk (s119.blk (n114.ext.blk H109) (by omega)))
   have H126 := (d123.ext.blk H120)
   refine aw_pure 0 (.pointer (some ⟨b6, 1, none⟩)) rfl (by kernel_rfl) .none ⟨H125, H126⟩ (fun _ => dv_fieldAddr (a := ⟨b6, 0, none⟩) (a' := ⟨b6, 1, none⟩) fo59_1 (T rfl f47) rfl) ?_
   refine aw_load 1 (.slice Ax30 lx31 cx32) rfl (by kernel_rfl) .none ⟨H125, H126⟩ (fun _ s => dv_load1 (b := b6) (o := 1) agt57 (T rfl rfl) s.1 rfl) ?_
   refine aw_pure 2 (.pointer (some ⟨b112, 1, none⟩)) rfl (by kernel_rfl) .none ⟨H125, H126⟩ (fun _ => dv_fieldAddr (a := ⟨b112, 0, none⟩) (a' := ⟨b112, 1, none⟩) fo59_1 (T rfl rfl) rfl) ?_
   refine aw_load 3 (.slice Ab lb cb) rfl (by kernel_rfl) .none ⟨H125, H126⟩ (fun _ s => dv_load1 (b := b112) (o := 1) agt57 (T rfl rfl) s.2 rfl) ?_
   refine aw_pure 4 (.slice Ax30 lx31 cx32) rfl (by kernel_rfl) .none ⟨H125, H126⟩ (fun _ => dv_assign (T rfl rfl)) ?_
   refine aw_last 5 (.slice Ab lb cb) rfl (by kernel_rfl) .none (fun _ => dv_assign (T rfl rfl)) ?_
   refine aw_done (by kernel_rfl) ?_
   refine rk_seq ?_
   refine rk_block ?_
   have h135 := ((((hw105.st s108 H64 (by decide)).ext n114.ext).st s119 n114.blk (by decide)).ext d123.ext)
   have h136 := hb.ext E124
   have H137 := (d123.ext.blk (s119.blk (n114.ext.blk H111) (by omega)))
   have H138 := (d123.ext.blk (s119.blk (n114.ext.blk (s108.blk H63 (by omega))) (by omega)))
   have H139 := (d123.ext.blk (s119.blk (n114.ext.blk H116) (by omega)))
   refine rk_loop (fun dm_ fr wl => ∃ (Ax127 : Option Addr) (lx128 cx129 : Nat) (Ay130 : Option Addr) (ly131 cy132 : Nat) (X133 Y134 : Int), dm_ = Y134.toNat ∧ fr 2 = .pointer (some ⟨b1, 0, none⟩) ∧ fr 3 = .pointer (some ⟨b6, 0, none⟩) ∧ fr 5 = .pointer (some ⟨b112, 0, none⟩) ∧ fr 6 = .slice Ax127 lx128 cx129 ∧ fr 7 = .slice Ay130 ly131 cy132 ∧ fr 11 = .slice (some ⟨bl, 0, none⟩) 3 3 ∧ fr 12 = .int .i64 3 ∧ fr 13 = .int .i64 1 ∧ fr 14 = .bool (decide (((1 : Int) < 3 : Prop))) ∧ fr 15 = .pointer (some ⟨bl, 2, none⟩) ∧ fr 16 = .agg #[.bool nb, .slice Ab lb cb] ∧ fr 17 = .pointer (some ⟨b6, 1, none⟩) ∧ fr 18 = .slice Ax30 lx31 cx32 ∧ fr 19 = .pointer (some ⟨b112, 1, none⟩) ∧ fr 20 = .slice Ab lb cb ∧ fr 33 = .slice Ax30 lx31 cx32 ∧ fr 34 = .agg #[.bool false, .slice Ax30 lx31 cx32] ∧ fr 35 = .int .i64 1 ∧ Below w.heap.size w wl ∧ wl.heap[bl]? = some (.cells #[.bool na, .slice Aa la ca, .bool nb, .slice Ab lb cb, .bool nm, .slice Am lm cm] 59) ∧ wl.heap[b1]? = some (.cells #[.bool false, .slice none 0 0] 59) ∧ wl.heap[b6]? = some (.cells #[.bool false, .slice Ax30 lx31 cx32] 59) ∧ wl.heap[b16]? = some (.cells #[.bool na, .slice Aa la ca] 59) ∧ wl.heap[b112]? = some (.cells #[.bool nb, .slice Ab lb cb] 59) ∧ Wc 64 24 .u64 wl Ax127 lx128 cx129 X133 ∧ Wc 64 24 .u64 wl Ay130 ly131 cy132 Y134 ∧ (gI X133 Y134 = gI ((x.natAbs : Int)) ((y.natAbs : Int))) ∧ (X133 < 2 ^ (max sx (max sy sz))) ∧ (Y134 < 2 ^ (max sx (max sy sz)))) ((((y.natAbs : Int))).toNat) ⟨Ax30, lx31, cx32, Ab, lb, cb, ((x.natAbs : Int)), ((y.natAbs : Int)), rfl, f46, f47, rfl, rfl, rfl, f51, f52, rfl, rfl, rfl, rfl, rfl, rfl, rfl, rfl, rfl, rfl, rfl, E124, H137, H138, H125, H139, H126, h135, h136.wc, rfl, hq106, (Int.lt_of_lt_of_le h136.ltI (pow_le_of (by decide) (by omega)))⟩ ?_
   intro d144 fr143 w140 hI141 ih142
   obtain ⟨Ax127, lx128, cx129, Ay130, ly131, cy132, X133, Y134, hd171, f145, f146, f147, f148, f149, f150, f151, f152, f153, f154, f155, f156, f157, f158, f159, f160, f161, f162, E163, H164, H165, H166, H167, H168, h169, h170, hgc, hXs, hYs⟩ := hI141
   have hXp := h169.nonneg
   have hYp := h170.pos
   have hYn := h170.nonneg
   have hlx := Wc.len (by decide) h169 hXs
   have hly := Wc.len (by decide) h170 hYs
   refine rk_seq ?_
   refine rk_seq ?_
   refine rk_reg ?_
   refine lw_v (.slice Ay130 ly131 cy132) (dv_move (T rfl f149)) ?_
   refine lw_v (.int .i64 ((ly131 : Int))) (dv_len (ad := Ay130) (l := ly131) (c := cy132) us57 (T rfl rfl)) ?_
   refine lw_v (.bool (decide (0 < ((ly131 : Int))))) (dv_gtr (a := (ly131 : Int)) (b := 0) (T rfl rfl) C) ?_
   refine lw_nil ?_
   by_cases hb172 : 0 < ((ly131 : Int))
   · refine rk_ct (T rfl (congrArg Value.bool (decide_eq_true hb172))) ?_
     refine rk_skip ?_
     refine rk_block ?_
     refine rk_seq ?_
     refine rk_reg ?_
     refine lw_v (.slice Ax127 lx128 cx129) (dv_move (T rfl f148)) ?_
     refine lw_v (.slice Ay130 ly131 cy132) (dv_move (T rfl f149)) ?_
     refine lw_e (oe_callf (vs := [.slice Ax127 lx128 cx129, .slice Ay130 ly131 cy132]) co98 (ar2 (T rfl rfl) (T rfl rfl)) (divWords_ok h169 h170 (by omega) (by first | omega | (simp; done) | (simp; omega)) (by first | omega | (simp; done) | (simp; omega))) ?_)
     rintro _ w181 ⟨A173, n174, c175, A176, n177, c178, rfl, e182, h179, h180⟩
     have E183 := below_ext E163 E163.size e182
     have lh179 := Wc.len (by decide) h179 (div_sz (Wc.nonneg h169) (by omega) hXs)
     have lh180 := Wc.len (by decide) h180 (mod_sz (by omega) hYs)
     refine lw_v (.tuple #[.slice A173 n174 c175, .slice A176 n177 c178]) (dv_move (T rfl rfl)) ?_
     refine lw_v (.slice A173 n174 c175) (dv_extract (vs := #[.slice A173 n174 c175, .slice A176 n177 c178]) (T rfl rfl) rfl) ?_
     refine lw_v (.slice A176 n177 c178) (dv_extract (vs := #[.slice A173 n174 c175, .slice A176 n177 c178]) (T rfl rfl) rfl) ?_
     refine lw_v (.slice A173 n174 c175) (dv_assign (T rfl rfl)) ?_
     refine lw_v (.slice A176 n177 c178) (dv_assign (T rfl rfl)) ?_
     refine lw_nil ?_
     refine rk_reg ?_
     refine lw_v (.slice Ay130 ly131 cy132) (dv_move (T rfl f149)) ?_
     refine lw_v (.slice A176 n177 c178) (dv_move (T rfl rfl)) ?_
     obtain ⟨xs184, hl185, hc186, hw187, ho188, hk189, hv190⟩ := h180
     have H191 := (e182.blk H164)
     have : bl < w181.heap.size := lt_of_blk H191
     have H192 := (e182.blk H165)
     have : b1 < w181.heap.size := lt_of_blk H192
     have H193 := (e182.blk H166)
     have : b6 < w181.heap.size := lt_of_blk H193
     have H194 := (e182.blk H167)
     have : b16 < w181.heap.size := lt_of_blk H194
     have H195 := (e182.blk H168)
     have : b112 < w181.heap.size := lt_of_blk H195
     have N196 : w.heap.size ≤ w181.heap.size := E183.size
     refine lw_e (oe_callf (vs := [.slice A176 n177 c178]) co88 (ar1 (T rfl rfl)) (clone_ok hw187 hl185 (by first | omega | (simp; done) | (simp; omega))) ?_)
     rintro _ w200 ⟨Ad197, c198, rfl, e201, hO199⟩
     have E202 := below_ext E183 E183.size e201
     refine lw_v (.slice Ay130 ly131 cy132) (dv_assign (T rfl rfl)) ?_
     refine lw_v (.slice Ad197 (xs184.length) c198) (dv_assign (T rfl rfl)) ?_
     refine lw_nil ?_
     refine rk_inBlock ?_
     have h203 := ((h170.ext e182).ext e201)
     have hml := Int.emod_lt_of_pos X133 (hYp.1 (by omega))
     have hmn := Int.emod_nonneg X133 (show Y134 ≠ 0 by omega)
     have H204 := (e201.blk H191)
     have H205 := (e201.blk H192)
     have H206 := (e201.blk H193)
     have H207 := (e201.blk H194)
     have H208 := (e201.blk H195)
     exact ih142 (((X133 % Y134)).toNat) _ _ (by rw [hd171]; omega) ⟨Ay130, ly131, cy132, Ad197, xs184.length, c198, Y134, (X133 % Y134), rfl, f145, f146, f147, rfl, rfl, f150, f151, f152, f153, f154, f155, f156, f157, f158, f159, f160, f161, f162, E202, H204, H205, H206, H207, H208, h203, ⟨xs184, rfl, hO199.cap, hO199.wd, ho188, hk189, hv190⟩, (by rw [gI_step]; exact hgc), hYs, (by omega)⟩
   · refine rk_cf (T rfl (congrArg Value.bool (decide_eq_false hb172))) ?_
     refine rk_exit rfl ?_
     have hY0 : Y134 = 0 := by omega
     rw [hY0, gI_zero] at hgc
     have hr209 : X133 = gI x y := (by have h := hgc; rw [gI_abs] at h; (try simp at h); omega)
     have hw210 := Wc.eq h169 hr209
     have hq211 : gI x y < 2 ^ (max sx (max sy sz)) := by rw [← hr209]; exact hXs
     refine rk_reg ?_
     refine lw_v (.slice Ax127 lx128 cx129) (dv_move (T rfl f148)) ?_
     refine lw_v (.agg #[.bool false, .slice Ax127 lx128 cx129]) (dv_build (pv := [(0, .bool false), (1, .slice Ax127 lx128 cx129)]) (l := [.bool false, .slice Ax127 lx128 cx129]) zc59 pl59 ⟨rfl, C, ⟨rfl, (T rfl rfl), trivial⟩⟩ rfl) ?_
     refine lw_e (oe_store (v := .agg #[.bool false, .slice Ax127 lx128 cx129]) (vs := [.bool false, .slice Ax127 lx128 cx129]) (l := [.bool false, .slice Ax127 lx128 cx129]) (T rfl f146) (T rfl rfl) sz59 rfl rfl rfl H166 rfl ?_)
     intro w212 s213 H214
     have E215 := below_st E163 N9 s213
     refine lw_nil ?_
     refine rk_inBlock ?_
     refine rk_reg ?_
     refine lw_v (.int .i64 2) (dv_add (a := 1) (b := 1) (z := 2) (T rfl f152) C (by decide)) ?_
     refine lw_v (.int .i64 2) (dv_move (T rfl rfl)) ?_
     refine lw_nil ?_
     refine rk_inLoop ?_
     refine rk_seq ?_
     refine rk_reg ?_
     refine lw_v (.bool (decide (((2 : Int) < 3 : Prop)))) (dv_lss (a := 2) (b := 3) (T rfl rfl) (T rfl f151)) ?_
     refine lw_nil ?_
     refine rk_seq ?_
     refine rk_ct (T rfl (rfl)) ?_
     refine rk_skip ?_
     refine rk_seq ?_
     refine rk_block ?_
     refine rk_seq ?_
     refine rk_reg ?_
     refine lw_v (.pointer (some ⟨bl, 4, none⟩)) (dv_indexAddr (a := ⟨bl, 0, none⟩) (a' := ⟨bl, 4, none⟩) (l := 3) (c := 3) (j := 2) us113 sz59 (T rfl f150) (T rfl rfl) (by decide) (by decide) rfl) ?_
     have H216 := (s213.blk H164 (by omega))
     refine lw_v (.agg #[.bool nm, .slice Am lm cm]) (dv_loads (l := [.bool nm, .slice Am lm cm]) agt59 sz59 (T rfl rfl) H216 rfl) ?_
     refine lw_e (oe_alloc ze59 ?_)
     intro b217 w218 n219
     have N220 : w.heap.size ≤ b217 := n219.eq ▸ E215.size
     have H221 := (s213.blk H168 (by omega))
     have : b112 < b217 := n219.eq ▸ lt_of_blk H221
     have E222 := below_ext E215 E215.size n219.ext
     refine lw_e (oe_store (v := .agg #[.bool nm, .slice Am lm cm]) (vs := [.bool nm, .slice Am lm cm]) (l := [.bool nm, .slice Am lm cm]) (T rfl rfl) (T rfl rfl) sz59 rfl rfl rfl n219.blk rfl ?_)
     intro w223 s224 H225
     have E226 := below_st E222 N220 s224
     refine lw_nil ?_
     refine rk_seq ?_
     refine rk_any (fun w => w.heap[b6]? = some (.cells #[.bool false, .slice Ax127 lx128 cx129] 59) ∧ w.heap[b217]? = some (.cells #[.bool nm, .slice Am lm cm] 59)) [5] mo ?_
     intro w227 d228
     have E229 := below_ext E226 E226.size d228.ext
     have H230 := (d228.ext.blk (s224.blk (n219.ext.blk H214) (by omega)))
     have H231 := (d228.ext.blk H225)
     refine aw_pure 0 (.pointer (some ⟨b6, 1, none⟩)) rfl (by kernel_rfl) .none ⟨H230, H231⟩ (fun _ => dv_fieldAddr (a := ⟨b6, 0, none⟩) (a' := ⟨b6, 1, none⟩) fo59_1 (T rfl f146) rfl) ?_
     refine aw_load 1 (.slice Ax127 lx128 cx129) rfl (by kernel_rfl) .none ⟨H230, H231⟩ (fun _ s => dv_load1 (b := b6) (o := 1) agt57 (T rfl rfl) s.1 rfl) ?_
     refine aw_pure 2 (.pointer (some ⟨b217, 1, none⟩)) rfl (by kernel_rfl) .none ⟨H230, H231⟩ (fun _ => dv_fieldAddr (a := ⟨b217, 0, none⟩) (a' := ⟨b217, 1, none⟩) fo59_1 (T rfl rfl) rfl) ?_
     refine aw_load 3 (.slice Am lm cm) rfl (by kernel_rfl) .none ⟨H230, H231⟩ (fun _ s => dv_load1 (b := b217) (o := 1) agt57 (T rfl rfl) s.2 rfl) ?_
     refine aw_pure 4 (.slice Ax127 lx128 cx129) rfl (by kernel_rfl) .none ⟨H230, H231⟩ (fun _ => dv_assign (T rfl rfl)) ?_
     refine aw_last 5 (.slice Am lm cm) rfl (by kernel_rfl) .none (fun _ => dv_assign (T rfl rfl)) ?_
     refine aw_done (by kernel_rfl) ?_
     refine rk_seq ?_
     refine rk_block ?_
     have h240 := ((((hw210.st s213 H166 (by decide)).ext n219.ext).st s224 n219.blk (by decide)).ext d228.ext)
     have h241 := hm.ext E229
     have H242 := (d228.ext.blk (s224.blk (n219.ext.blk H216) (by omega)))
     have H243 := (d228.ext.blk (s224.blk (n219.ext.blk (s213.blk H165 (by omega))) (by omega)))
     have H244 := (d228.ext.blk (s224.blk (n219.ext.blk (s213.blk H167 (by omega))) (by omega)))
     have H245 := (d228.ext.blk (s224.blk (n219.ext.blk H221) (by omega)))
     refine rk_loop (fun dm_ fr wl => ∃ (Ax232 : Option Addr) (lx233 cx234 : Nat) (Ay235 : Option Addr) (ly236 cy237 : Nat) (X238 Y239 : Int), dm_ = Y239.toNat ∧ fr 2 = .pointer (some ⟨b1, 0, none⟩) ∧ fr 3 = .pointer (some ⟨b6, 0, none⟩) ∧ fr 5 = .pointer (some ⟨b217, 0, none⟩) ∧ fr 6 = .slice Ax232 lx233 cx234 ∧ fr 7 = .slice Ay235 ly236 cy237 ∧ fr 11 = .slice (some ⟨bl, 0, none⟩) 3 3 ∧ fr 12 = .int .i64 3 ∧ fr 13 = .int .i64 2 ∧ fr 14 = .bool (decide (((2 : Int) < 3 : Prop))) ∧ fr 15 = .pointer (some ⟨bl, 4, none⟩) ∧ fr 16 = .agg #[.bool nm, .slice Am lm cm] ∧ fr 17 = .pointer (some ⟨b6, 1, none⟩) ∧ fr 18 = .slice Ax127 lx128 cx129 ∧ fr 19 = .pointer (some ⟨b217, 1, none⟩) ∧ fr 20 = .slice Am lm cm ∧ fr 33 = .slice Ax127 lx128 cx129 ∧ fr 34 = .agg #[.bool false, .slice Ax127 lx128 cx129] ∧ fr 35 = .int .i64 2 ∧ Below w.heap.size w wl ∧ wl.heap[bl]? = some (.cells #[.bool na, .slice Aa la ca, .bool nb, .slice Ab lb cb, .bool nm, .slice Am lm cm] 59) ∧ wl.heap[b1]? = some (.cells #[.bool false, .slice none 0 0] 59) ∧ wl.heap[b6]? = some (.cells #[.bool false, .slice Ax127 lx128 cx129] 59) ∧ wl.heap[b16]? = some (.cells #[.bool na, .slice Aa la ca] 59) ∧ wl.heap[b112]? = some (.cells #[.bool nb, .slice Ab lb cb] 59) ∧ wl.heap[b217]? = some (.cells #[.bool nm, .slice Am lm cm] 59) ∧ Wc 64 24 .u64 wl Ax232 lx233 cx234 X238 ∧ Wc 64 24 .u64 wl Ay235 ly236 cy237 Y239 ∧ (gI X238 Y239 = gI (gI x y) ((z.natAbs : Int))) ∧ (X238 < 2 ^ (max sx (max sy sz))) ∧ (Y239 < 2 ^ (max sx (max sy sz)))) ((((z.natAbs : Int))).toNat) ⟨Ax127, lx128, cx129, Am, lm, cm, (gI x y), ((z.natAbs : Int)), rfl, f145, f146, rfl, rfl, rfl, f150, f151, rfl, rfl, rfl, rfl, rfl, rfl, rfl, rfl, rfl, rfl, rfl, E229, H242, H243, H230, H244, H245, H231, h240, h241.wc, rfl, hq211, (Int.lt_of_lt_of_le h241.ltI (pow_le_of (by decide) (by omega)))⟩ ?_
     intro d250 fr249 w246 hI247 ih248
     obtain ⟨Ax232, lx233, cx234, Ay235, ly236, cy237, X238, Y239, hd278, f251, f252, f253, f254, f255, f256, f257, f258, f259, f260, f261, f262, f263, f264, f265, f266, f267, f268, E269, H270, H271, H272, H273, H274, H275, h276, h277, hgc, hXs, hYs⟩ := hI247
     have hXp := h276.nonneg
     have hYp := h277.pos
     have hYn := h277.nonneg
     have hlx := Wc.len (by decide) h276 hXs
     have hly := Wc.len (by decide) h277 hYs
     refine rk_seq ?_
     refine rk_seq ?_
     refine rk_reg ?_
     refine lw_v (.slice Ay235 ly236 cy237) (dv_move (T rfl f255)) ?_
     refine lw_v (.int .i64 ((ly236 : Int))) (dv_len (ad := Ay235) (l := ly236) (c := cy237) us57 (T rfl rfl)) ?_
     refine lw_v (.bool (decide (0 < ((ly236 : Int))))) (dv_gtr (a := (ly236 : Int)) (b := 0) (T rfl rfl) C) ?_
     refine lw_nil ?_
     by_cases hb279 : 0 < ((ly236 : Int))
     · refine rk_ct (T rfl (congrArg Value.bool (decide_eq_true hb279))) ?_
       refine rk_skip ?_
       refine rk_block ?_
       refine rk_seq ?_
       refine rk_reg ?_
       refine lw_v (.slice Ax232 lx233 cx234) (dv_move (T rfl f254)) ?_
       refine lw_v (.slice Ay235 ly236 cy237) (dv_move (T rfl f255)) ?_
       refine lw_e (oe_callf (vs := [.slice Ax232 lx233 cx234, .slice Ay235 ly236 cy237]) co98 (ar2 (T rfl rfl) (T rfl rfl)) (divWords_ok h276 h277 (by omega) (by first | omega | (simp; done) | (simp; omega)) (by first | omega | (simp; done) | (simp; omega))) ?_)
       rintro _ w288 ⟨A280, n281, c282, A283, n284, c285, rfl, e289, h286, h287⟩
       have E290 := below_ext E269 E269.size e289
       have lh286 := Wc.len (by decide) h286 (div_sz (Wc.nonneg h276) (by omega) hXs)
       have lh287 := Wc.len (by decide) h287 (mod_sz (by omega) hYs)
       refine lw_v (.tuple #[.slice A280 n281 c282, .slice A283 n284 c285]) (dv_move (T rfl rfl)) ?_
       refine lw_v (.slice A280 n281 c282) (dv_extract (vs := #[.slice A280 n281 c282, .slice A283 n284 c285]) (T rfl rfl) rfl) ?_
       refine lw_v (.slice A283 n284 c285) (dv_extract (vs := #[.slice A280 n281 c282, .slice A283 n284 c285]) (T rfl rfl) rfl) ?_
       refine lw_v (.slice A280 n281 c282) (dv_assign (T rfl rfl)) ?_
       refine lw_v (.slice A283 n284 c285) (dv_assign (T rfl rfl)) ?_
       refine lw_nil ?_
       refine rk_reg ?_
       refine lw_v (.slice Ay235 ly236 cy237) (dv_move (T rfl f255)) ?_
       refine lw_v (.slice A283 n284 c285) (dv_move (T rfl rfl)) ?_
       obtain ⟨xs291, hl292, hc293, hw294, ho295, hk296, hv297⟩ := h287
       have H298 := (e289.blk H270)
       have : bl < w288.heap.size := lt_of_blk H298
       have H299 := (e289.blk H271)
       have : b1 < w288.heap.size := lt_of_blk H299
       have H300 := (e289.blk H272)
       have : b6 < w288.heap.size := lt_of_blk H300
       have H301 := (e289.blk H273)
       have : b16 < w288.heap.size := lt_of_blk H301
       have H302 := (e289.blk H274)
       have : b112 < w288.heap.size := lt_of_blk H302
       have H303 := (e289.blk H275)
       have : b217 < w288.heap.size := lt_of_blk H303
       have N304 : w.heap.size ≤ w288.heap.size := E290.size
       refine lw_e (oe_callf (vs := [.slice A283 n284 c285]) co88 (ar1 (T rfl rfl)) (clone_ok hw294 hl292 (by first | omega | (simp; done) | (simp; omega))) ?_)
       rintro _ w308 ⟨Ad305, c306, rfl, e309, hO307⟩
       have E310 := below_ext E290 E290.size e309
       refine lw_v (.slice Ay235 ly236 cy237) (dv_assign (T rfl rfl)) ?_
       refine lw_v (.slice Ad305 (xs291.length) c306) (dv_assign (T rfl rfl)) ?_
       refine lw_nil ?_
       refine rk_inBlock ?_
       have h311 := ((h277.ext e289).ext e309)
       have hml := Int.emod_lt_of_pos X238 (hYp.1 (by omega))
       have hmn := Int.emod_nonneg X238 (show Y239 ≠ 0 by omega)
       have H312 := (e309.blk H298)
       have H313 := (e309.blk H299)
       have H314 := (e309.blk H300)
       have H315 := (e309.blk H301)
       have H316 := (e309.blk H302)
       have H317 := (e309.blk H303)
       exact ih248 (((X238 % Y239)).toNat) _ _ (by rw [hd278]; omega) ⟨Ay235, ly236, cy237, Ad305, xs291.length, c306, Y239, (X238 % Y239), rfl, f251, f252, f253, rfl, rfl, f256, f257, f258, f259, f260, f261, f262, f263, f264, f265, f266, f267, f268, E310, H312, H313, H314, H315, H316, H317, h311, ⟨xs291, rfl, hO307.cap, hO307.wd, ho295, hk296, hv297⟩, (by rw [gI_step]; exact hgc), hYs, (by omega)⟩
     · refine rk_cf (T rfl (congrArg Value.bool (decide_eq_false hb279))) ?_
       refine rk_exit rfl ?_
       have hY0 : Y239 = 0 := by omega
       rw [hY0, gI_zero] at hgc
       have hr318 : X238 = gI3 x y z := (by have h := hgc; rw [show gI3 x y z = gI (gI x y) z from rfl]; rw [gI_absr] at h; (try simp at h); omega)
       have hw319 := Wc.eq h276 hr318
       have hq320 : gI3 x y z < 2 ^ (max sx (max sy sz)) := by rw [← hr318]; exact hXs
       refine rk_reg ?_
       refine lw_v (.slice Ax232 lx233 cx234) (dv_move (T rfl f254)) ?_
       refine lw_v (.agg #[.bool false, .slice Ax232 lx233 cx234]) (dv_build (pv := [(0, .bool false), (1, .slice Ax232 lx233 cx234)]) (l := [.bool false, .slice Ax232 lx233 cx234]) zc59 pl59 ⟨rfl, C, ⟨rfl, (T rfl rfl), trivial⟩⟩ rfl) ?_
       refine lw_e (oe_store (v := .agg #[.bool false, .slice Ax232 lx233 cx234]) (vs := [.bool false, .slice Ax232 lx233 cx234]) (l := [.bool false, .slice Ax232 lx233 cx234]) (T rfl f252) (T rfl rfl) sz59 rfl rfl rfl H272 rfl ?_)
       intro w321 s322 H323
       have E324 := below_st E269 N9 s322
       refine lw_nil ?_
       refine rk_inBlock ?_
       refine rk_reg ?_
       refine lw_v (.int .i64 3) (dv_add (a := 2) (b := 1) (z := 3) (T rfl f258) C (by decide)) ?_
       refine lw_v (.int .i64 3) (dv_move (T rfl rfl)) ?_
       refine lw_nil ?_
       refine rk_inLoop ?_
       refine rk_seq ?_
       refine rk_reg ?_
       refine lw_v (.bool (decide (((3 : Int) < 3 : Prop)))) (dv_lss (a := 3) (b := 3) (T rfl rfl) (T rfl f257)) ?_
       refine lw_nil ?_
       refine rk_seq ?_
       refine rk_cf (T rfl (rfl)) ?_
       refine rk_exit rfl ?_
       refine rk_seq ?_
       refine rk_reg ?_
       refine lw_v (.agg #[.bool false, .slice Ax232 lx233 cx234]) (dv_loads (l := [.bool false, .slice Ax232 lx233 cx234]) agt59 sz59 (T rfl f252) H323 rfl) ?_
       have H325 := (s322.blk H271 (by omega))
       refine lw_e (oe_store (v := .agg #[.bool false, .slice Ax232 lx233 cx234]) (vs := [.bool false, .slice Ax232 lx233 cx234]) (l := [.bool false, .slice Ax232 lx233 cx234]) (T rfl f251) (T rfl rfl) sz59 rfl rfl rfl H325 rfl ?_)
       intro w326 s327 H328
       have E329 := below_st E324 N4 s327
       refine lw_nil ?_
       refine rk_ret Try.func63 (v := .agg #[.bool false, .slice Ax232 lx233 cx234]) (res1 Try.results63 (rv_cells (l := [.bool false, .slice Ax232 lx233 cx234]) agt59 sz59 rfl f251 H328 rfl)) ⟨_, rfl, ?_⟩
       have h330 := ((hw319.st s322 H272 (by decide)).st s327 H325 (by decide))
       exact ⟨_, _, _, _, rfl, E329, Wc.num h330 (by simp) (by simp [sg]) hq320⟩
end Go.Proofs.Ytfmkadgjoechnaa.W
set_option linter.unusedVariables false
set_option linter.unusedSimpArgs false
namespace Go.Proofs.Ytfmkadgjoechnaa.W
open Go Go.RowKit Go.Proofs.Ytfmkadgjoechnaa.Fw
attribute [local irreducible] RunK LW AW DV OE Ct
theorem co46 : callOk Try.prog 46 = true := by kernel_rfl
theorem co49 : callOk Try.prog 49 = true := by kernel_rfl
theorem co51 : callOk Try.prog 51 = true := by kernel_rfl
theorem co54 : callOk Try.prog 54 = true := by kernel_rfl
theorem co63 : callOk Try.prog 63 = true := by kernel_rfl
theorem co64 : callOk Try.prog 64 = true := by kernel_rfl
theorem eg26 : Try.prog.eqGuardType Try.prog.depth 26 = false := by kernel_rfl
theorem fl26 : flatB Try.prog 26 .u64 4 = true := by kernel_rfl
set_option maxHeartbeats 1000000 in
theorem eqWide_ok {w : World} {x y : Int} (fx_ : fits x) (fy_ : fits y)  : Ct Try.prog 25 [.agg #[.int .u64 (wv3 x), .int .u64 (wv2 x), .int .u64 (wv1 x), .int .u64 (wv0 x)], .agg #[.int .u64 (wv3 y), .int .u64 (wv2 y), .int .u64 (wv1 y), .int .u64 (wv0 y)]] w fun v w1 => v = .bool (decide (x = y)) ∧ Ext w w1 := by
 refine ct_run (n := 25) Try.func25 rfl Try.ntmps25 rfl ?_
 have E0 : Below w.heap.size w w := Below.refl _ _
 refine rk_seq ?_
 refine rk_reg ?_
 refine lw_e (oe_box (v := .agg #[.int .u64 (wv3 x), .int .u64 (wv2 x), .int .u64 (wv1 x), .int .u64 (wv0 x)]) (cs := #[.int .u64 (wv3 x), .int .u64 (wv2 x), .int .u64 (wv1 x), .int .u64 (wv0 x)]) (T rfl rfl) rfl ?_)
 intro b1 w2 n3
 have N4 : w.heap.size ≤ b1 := n3.eq ▸ E0.size
 have E5 := below_ext E0 E0.size n3.ext
 refine lw_e (oe_box (v := .agg #[.int .u64 (wv3 y), .int .u64 (wv2 y), .int .u64 (wv1 y), .int .u64 (wv0 y)]) (cs := #[.int .u64 (wv3 y), .int .u64 (wv2 y), .int .u64 (wv1 y), .int .u64 (wv0 y)]) (T rfl rfl) rfl ?_)
 intro b6 w7 n8
 have N9 : w.heap.size ≤ b6 := n8.eq ▸ E5.size
 have : b1 < b6 := n8.eq ▸ lt_of_blk n3.blk
 have E10 := below_ext E5 E5.size n8.ext
 refine lw_v (.bool false) (dv_assign C) ?_
 refine lw_nil ?_
 refine rk_seq ?_
 refine rk_seq ?_
 refine rk_reg ?_
 refine lw_v (.pointer (some ⟨b1, 0, none⟩)) (dv_fieldAddr (a := ⟨b1, 0, none⟩) (a' := ⟨b1, 0, none⟩) fo26_0 (T rfl rfl) rfl) ?_
 have H11 := (n8.ext.blk n3.blk)
 refine lw_v (.int .u64 (wv3 x)) (dv_load1 (b := b1) (o := 0) agt24 (T rfl rfl) H11 rfl) ?_
 refine lw_v (.pointer (some ⟨b6, 0, none⟩)) (dv_fieldAddr (a := ⟨b6, 0, none⟩) (a' := ⟨b6, 0, none⟩) fo26_0 (T rfl rfl) rfl) ?_
 refine lw_v (.int .u64 (wv3 y)) (dv_load1 (b := b6) (o := 0) agt24 (T rfl rfl) n8.blk rfl) ?_
 refine lw_v (.bool (decide ((wv3 x) ≠ (wv3 y)))) (dv_neq (a := wv3 x) (b := wv3 y) (T rfl rfl) (T rfl rfl)) ?_
 refine lw_nil ?_
 by_cases hb12 : (wv3 x) ≠ (wv3 y)
 · refine rk_ct (T rfl (congrArg Value.bool (decide_eq_true hb12))) ?_
   refine rk_seq ?_
   refine rk_reg ?_
   refine lw_v (.bool false) (dv_assign C) ?_
   refine lw_nil ?_
   refine rk_ret Try.func25 (v := .bool false) (res1 Try.results25 (rv_tmp rfl rfl)) ⟨_, rfl, ?_⟩
   exact ⟨(vf (by intro he; subst he; exact absurd rfl (by assumption))), E10⟩
 · refine rk_cf (T rfl (congrArg Value.bool (decide_eq_false hb12))) ?_
   refine rk_skip ?_
   refine rk_seq ?_
   refine rk_seq ?_
   refine rk_reg ?_
   refine lw_v (.pointer (some ⟨b1, 1, none⟩)) (dv_fieldAddr (a := ⟨b1, 0, none⟩) (a' := ⟨b1, 1, none⟩) fo26_1 (T rfl rfl) rfl) ?_
   refine lw_v (.int .u64 (wv2 x)) (dv_load1 (b := b1) (o := 1) agt24 (T rfl rfl) H11 rfl) ?_
   refine lw_v (.pointer (some ⟨b6, 1, none⟩)) (dv_fieldAddr (a := ⟨b6, 0, none⟩) (a' := ⟨b6, 1, none⟩) fo26_1 (T rfl rfl) rfl) ?_
   refine lw_v (.int .u64 (wv2 y)) (dv_load1 (b := b6) (o := 1) agt24 (T rfl rfl) n8.blk rfl) ?_
   refine lw_v (.bool (decide ((wv2 x) ≠ (wv2 y)))) (dv_neq (a := wv2 x) (b := wv2 y) (T rfl rfl) (T rfl rfl)) ?_
   refine lw_nil ?_
   by_cases hb13 : (wv2 x) ≠ (wv2 y)
   · refine rk_ct (T rfl (congrArg Value.bool (decide_eq_true hb13))) ?_
     refine rk_seq ?_
     refine rk_reg ?_
     refine lw_v (.bool false) (dv_assign C) ?_
     refine lw_nil ?_
     refine rk_ret Try.func25 (v := .bool false) (res1 Try.results25 (rv_tmp rfl rfl)) ⟨_, rfl, ?_⟩
     exact ⟨(vf (by intro he; subst he; exact absurd rfl (by assumption))), E10⟩
   · refine rk_cf (T rfl (congrArg Value.bool (decide_eq_false hb13))) ?_
     refine rk_skip ?_
     refine rk_seq ?_
     refine rk_seq ?_
     refine rk_reg ?_
     refine lw_v (.pointer (some ⟨b1, 2, none⟩)) (dv_fieldAddr (a := ⟨b1, 0, none⟩) (a' := ⟨b1, 2, none⟩) fo26_2 (T rfl rfl) rfl) ?_
     refine lw_v (.int .u64 (wv1 x)) (dv_load1 (b := b1) (o := 2) agt24 (T rfl rfl) H11 rfl) ?_
     refine lw_v (.pointer (some ⟨b6, 2, none⟩)) (dv_fieldAddr (a := ⟨b6, 0, none⟩) (a' := ⟨b6, 2, none⟩) fo26_2 (T rfl rfl) rfl) ?_
     refine lw_v (.int .u64 (wv1 y)) (dv_load1 (b := b6) (o := 2) agt24 (T rfl rfl) n8.blk rfl) ?_
     refine lw_v (.bool (decide ((wv1 x) ≠ (wv1 y)))) (dv_neq (a := wv1 x) (b := wv1 y) (T rfl rfl) (T rfl rfl)) ?_
     refine lw_nil ?_
     by_cases hb14 : (wv1 x) ≠ (wv1 y)
     · refine rk_ct (T rfl (congrArg Value.bool (decide_eq_true hb14))) ?_
       refine rk_seq ?_
       refine rk_reg ?_
       refine lw_v (.bool false) (dv_assign C) ?_
       refine lw_nil ?_
       refine rk_ret Try.func25 (v := .bool false) (res1 Try.results25 (rv_tmp rfl rfl)) ⟨_, rfl, ?_⟩
       exact ⟨(vf (by intro he; subst he; exact absurd rfl (by assumption))), E10⟩
     · refine rk_cf (T rfl (congrArg Value.bool (decide_eq_false hb14))) ?_
       refine rk_skip ?_
       refine rk_seq ?_
       refine rk_seq ?_
       refine rk_reg ?_
       refine lw_v (.pointer (some ⟨b1, 3, none⟩)) (dv_fieldAddr (a := ⟨b1, 0, none⟩) (a' := ⟨b1, 3, none⟩) fo26_3 (T rfl rfl) rfl) ?_
       refine lw_v (.int .u64 (wv0 x)) (dv_load1 (b := b1) (o := 3) agt24 (T rfl rfl) H11 rfl) ?_
       refine lw_v (.pointer (some ⟨b6, 3, none⟩)) (dv_fieldAddr (a := ⟨b6, 0, none⟩) (a' := ⟨b6, 3, none⟩) fo26_3 (T rfl rfl) rfl) ?_
       refine lw_v (.int .u64 (wv0 y)) (dv_load1 (b := b6) (o := 3) agt24 (T rfl rfl) n8.blk rfl) ?_
       refine lw_v (.bool (decide ((wv0 x) ≠ (wv0 y)))) (dv_neq (a := wv0 x) (b := wv0 y) (T rfl rfl) (T rfl rfl)) ?_
       refine lw_nil ?_
       by_cases hb15 : (wv0 x) ≠ (wv0 y)
       · refine rk_ct (T rfl (congrArg Value.bool (decide_eq_true hb15))) ?_
         refine rk_seq ?_
         refine rk_reg ?_
         refine lw_v (.bool false) (dv_assign C) ?_
         refine lw_nil ?_
         refine rk_ret Try.func25 (v := .bool false) (res1 Try.results25 (rv_tmp rfl rfl)) ⟨_, rfl, ?_⟩
         exact ⟨(vf (by intro he; subst he; exact absurd rfl (by assumption))), E10⟩
       · refine rk_cf (T rfl (congrArg Value.bool (decide_eq_false hb15))) ?_
         refine rk_skip ?_
         refine rk_seq ?_
         refine rk_reg ?_
         refine lw_v (.bool true) (dv_assign C) ?_
         refine lw_nil ?_
         refine rk_ret Try.func25 (v := .bool true) (res1 Try.results25 (rv_tmp rfl rfl)) ⟨_, rfl, ?_⟩
         exact ⟨(vt (wv_inj fx_ fy_ (by omega) (by omega) (by omega) (by omega))), E10⟩
end Go.Proofs.Ytfmkadgjoechnaa.W
set_option linter.unusedVariables false
set_option linter.unusedSimpArgs false
namespace Go.Proofs.Ytfmkadgjoechnaa.W
open Go Go.RowKit Go.Proofs.Ytfmkadgjoechnaa.Fw
attribute [local irreducible] RunK LW AW DV OE Ct
theorem agt5 : aggB Try.prog 5 = some false := by kernel_rfl
theorem co101 : callOk Try.prog 101 = true := by kernel_rfl
theorem in5 : (Try.prog.info? 5).map (fun i => (i.zero, i.size, i.bytes)) = some (some (.int .u8 0), 1, 1) := by kernel_rfl
theorem sz5 : sizeB Try.prog 5 = some 1 := by kernel_rfl
theorem ui5 : Try.prog.underlying 5 = some (.int .u8) := by kernel_rfl
theorem us22 : Try.prog.underlying 22 = some (.slice 5) := by kernel_rfl
theorem ut9 : Try.prog.underlying 9 = some .string := by kernel_rfl
theorem zc5 : zcB Try.prog 5 = some [.int .u8 0] := by kernel_rfl
set_option maxHeartbeats 1000000 in
theorem rev_ok {w : World} {A : Option Addr} {n c base : Nat} {L : List Int} (hO : Ow w base 5 .u8 A c L) (hl : L.length = n) (hn : 0 < n) (hN : n ≤ 1000000000) : Ct Try.prog 101 [.slice A n c] w fun v w1 => v = .tuple #[] ∧ Below base w w1 ∧ Ow w1 base 5 .u8 A c L.reverse := by
 refine ct_run (n := 28) Try.func101 rfl Try.ntmps101 rfl ?_
 have E0 : Below base w w := Below.refl _ _
 have hb0 := hO.2
 refine rk_seq ?_
 refine rk_reg ?_
 refine lw_v (.slice A n c) (dv_move (T rfl rfl)) ?_
 refine lw_v (.int .i64 ((n : Int))) (dv_len (ad := A) (l := n) (c := c) us22 (T rfl rfl)) ?_
 refine lw_v (.int .i64 (((n : Int)) - 1)) (dv_sub (a := (n : Int)) (b := 1) (z := ((n : Int)) - 1) (T rfl rfl) C (wr_i64 (by omega) (by omega))) ?_
 refine lw_v (.int .i64 0) (dv_assign C) ?_
 refine lw_v (.int .i64 (((n : Int)) - 1)) (dv_assign (T rfl rfl)) ?_
 refine lw_nil ?_
 refine rk_block ?_
 refine rk_loop (fun dm_ fr wl => ∃ (i j : Nat) (M : List Int), dm_ = n - i ∧ fr 0 = .slice A n c ∧ fr 2 = .int .i64 ((i : Int)) ∧ fr 3 = .int .i64 ((j : Int)) ∧ Below base w wl ∧ Ow wl base 5 .u8 A c M ∧ (rvI L i M) ∧ (M.length = n) ∧ (i + j + 1 = n)) (n - 0) ⟨0, (n - 1), L, rfl, rfl, (vi (by omega)), (vi (by omega)), E0, hO, (rv0 L), (by omega), (by omega)⟩ ?_
 intro d5 fr4 w1 hI2 ih3
 obtain ⟨i, j, M, hd11, f6, f7, f8, E9, h10, hrv, hM, hij⟩ := hI2
 refine rk_seq ?_
 refine rk_seq ?_
 refine rk_reg ?_
 refine lw_v (.int .i64 ((i : Int))) (dv_move (T rfl f7)) ?_
 refine lw_v (.int .i64 ((j : Int))) (dv_move (T rfl f8)) ?_
 refine lw_v (.bool (decide (((i : Int)) < ((j : Int))))) (dv_lss (a := (i : Int)) (b := (j : Int)) (T rfl rfl) (T rfl rfl)) ?_
 refine lw_nil ?_
 by_cases hb12 : ((i : Int)) < ((j : Int))
 · refine rk_ct (T rfl (congrArg Value.bool (decide_eq_true hb12))) ?_
   refine rk_skip ?_
   refine rk_seq ?_
   refine rk_block ?_
   obtain ⟨g13, o14, rfl⟩ := Wd.at h10.wd (by first | omega | (simp; omega))
   refine rk_st2 13 15 [.slice (some ⟨g13, o14, none⟩) n c, .int .i64 ((i : Int)), .slice (some ⟨g13, o14, none⟩) n c, .int .i64 ((j : Int)), .slice (some ⟨g13, o14, none⟩) n c, .int .i64 ((j : Int)), .pointer (some ⟨g13, o14 + j, none⟩), .int .u8 (M.getD j 0), .slice (some ⟨g13, o14, none⟩) n c, .int .i64 ((i : Int)), .pointer (some ⟨g13, o14 + i, none⟩), .int .u8 (M.getD i 0), .pointer (some ⟨g13, o14 + i, none⟩), undef, .pointer (some ⟨g13, o14 + j, none⟩), undef] (fun wk => ∃ wd, Drew w1 wd ∧ Below base wd wk ∧ Ow wk base 5 .u8 (some ⟨g13, o14, none⟩) c (M.set i (M.getD j 0))) (fun wk => ∃ wd, Drew w1 wd ∧ Below base wd wk ∧ Ow wk base 5 .u8 (some ⟨g13, o14, none⟩) c (((M.set i (M.getD j 0))).set j (M.getD i 0))) mo (by kernel_rfl) ?_ ?_
   · intro w15 d16
     have E17 := below_ext E9 (Nat.le_trans hb0 E9.size) d16.ext
     refine ⟨?_, ?_, ?_, ?_, ?_, ?_, ?_, ?_, ?_, ?_, ?_, ?_, ?_, ?_, ?_, ?_, trivial⟩
     · intro fr18 w19 hB20 hM21 hF22 hD23
       obtain rfl := hB20 (.inr (by kernel_rfl))
       exact DV.oe (dv_move (T rfl ((hF22 0 (by kernel_rfl)).trans f6))) (by rw [if_neg (by decide), if_neg (by decide)]; exact ⟨rfl, rfl⟩)
     · intro fr24 w25 hB26 hM27 hF28 hD29
       obtain rfl := hB26 (.inr (by kernel_rfl))
       exact DV.oe (dv_move (T rfl ((hF28 2 (by kernel_rfl)).trans f7))) (by rw [if_neg (by decide), if_neg (by decide)]; exact ⟨rfl, rfl⟩)
     · intro fr30 w31 hB32 hM33 hF34 hD35
       exact DV.oe (dv_move (T rfl ((hF34 0 (by kernel_rfl)).trans f6))) (by rw [if_neg (by decide), if_neg (by decide)]; exact ⟨rfl, rfl⟩)
     · intro fr36 w37 hB38 hM39 hF40 hD41
       exact DV.oe (dv_move (T rfl ((hF40 3 (by kernel_rfl)).trans f8))) (by rw [if_neg (by decide), if_neg (by decide)]; exact ⟨rfl, rfl⟩)
     · intro fr42 w43 hB44 hM45 hF46 hD47
       obtain rfl := hB44 (.inr (by kernel_rfl))
       exact DV.oe (dv_move (T rfl ((hF46 0 (by kernel_rfl)).trans f6))) (by rw [if_neg (by decide), if_neg (by decide)]; exact ⟨rfl, rfl⟩)
     · intro fr48 w49 hB50 hM51 hF52 hD53
       obtain rfl := hB50 (.inr (by kernel_rfl))
       exact DV.oe (dv_move (T rfl ((hF52 3 (by kernel_rfl)).trans f8))) (by rw [if_neg (by decide), if_neg (by decide)]; exact ⟨rfl, rfl⟩)
     · intro fr54 w55 hB56 hM57 hF58 hD59
       obtain rfl := hB56 (.inr (by kernel_rfl))
       have hv60 : fr54 18 = .slice (some ⟨g13, o14, none⟩) n c := hD59 4 _ (by decide) rfl (by kernel_rfl)
       have hv61 : fr54 19 = .int .i64 ((j : Int)) := hD59 5 _ (by decide) rfl (by kernel_rfl)
       exact DV.oe (dv_indexW (g := g13) (o := o14) (l := n) (c := c) (i := j) (j := (j : Int)) us22 sz5 (T rfl hv60) (T rfl hv61) (by omega) (by first | omega | (simp; omega))) (by rw [if_neg (by decide), if_neg (by decide)]; exact ⟨rfl, rfl⟩)
     · intro fr62 w63 hB64 hM65 hF66 hD67
       obtain rfl := hB64 (.inr (by kernel_rfl))
       have hv68 : fr62 20 = .pointer (some ⟨g13, o14 + j, none⟩) := hD67 6 _ (by decide) rfl (by kernel_rfl)
       have h69 := (h10.ext d16.ext)
       exact DV.oe (dv_load agt5 (T rfl hv68) (Wd.cell h69.wd (by first | omega | (simp; omega)))) (by rw [if_neg (by decide), if_neg (by decide)]; exact ⟨rfl, rfl⟩)
     · intro fr70 w71 hB72 hM73 hF74 hD75
       exact DV.oe (dv_move (T rfl ((hF74 0 (by kernel_rfl)).trans f6))) (by rw [if_neg (by decide), if_neg (by decide)]; exact ⟨rfl, rfl⟩)
     · intro fr76 w77 hB78 hM79 hF80 hD81
       exact DV.oe (dv_move (T rfl ((hF80 2 (by kernel_rfl)).trans f7))) (by rw [if_neg (by decide), if_neg (by decide)]; exact ⟨rfl, rfl⟩)
     · intro fr82 w83 hB84 hM85 hF86 hD87
       have hv88 : fr82 22 = .slice (some ⟨g13, o14, none⟩) n c := hD87 8 _ (by decide) rfl (by kernel_rfl)
       have hv89 : fr82 23 = .int .i64 ((i : Int)) := hD87 9 _ (by decide) rfl (by kernel_rfl)
       exact DV.oe (dv_indexW (g := g13) (o := o14) (l := n) (c := c) (i := i) (j := (i : Int)) us22 sz5 (T rfl hv88) (T rfl hv89) (by omega) (by first | omega | (simp; omega))) (by rw [if_neg (by decide), if_neg (by decide)]; exact ⟨rfl, rfl⟩)
     · intro fr90 w91 hB92 hM93 hF94 hD95
       obtain rfl := hB92 (.inr (by kernel_rfl))
       have hv96 : fr90 24 = .pointer (some ⟨g13, o14 + i, none⟩) := hD95 10 _ (by decide) rfl (by kernel_rfl)
       have h97 := (h10.ext d16.ext)
       exact DV.oe (dv_load agt5 (T rfl hv96) (Wd.cell h97.wd (by first | omega | (simp; omega)))) (by rw [if_neg (by decide), if_neg (by decide)]; exact ⟨rfl, rfl⟩)
     · intro fr98 w99 hB100 hM101 hF102 hD103
       obtain rfl := hB100 (.inr (by kernel_rfl))
       have hv104 : fr98 14 = .slice (some ⟨g13, o14, none⟩) n c := hD103 0 _ (by decide) rfl (by kernel_rfl)
       have hv105 : fr98 15 = .int .i64 ((i : Int)) := hD103 1 _ (by decide) rfl (by kernel_rfl)
       exact DV.oe (dv_indexW (g := g13) (o := o14) (l := n) (c := c) (i := i) (j := (i : Int)) us22 sz5 (T rfl hv104) (T rfl hv105) (by omega) (by first | omega | (simp; omega))) (by rw [if_neg (by decide), if_neg (by decide)]; exact ⟨rfl, rfl⟩)
     · intro fr106 w107 hB108 hM109 hF110 hD111
       obtain rfl := hB108 (.inl rfl)
       have hv112 : fr106 21 = .int .u8 (M.getD j 0) := hD111 7 _ (by decide) rfl (by kernel_rfl)
       have hv113 : fr106 26 = .pointer (some ⟨g13, o14 + i, none⟩) := hD111 12 _ (by decide) rfl (by kernel_rfl)
       have h114 := (h10.ext d16.ext)
       refine id (oe_storeOw (base := base) (L := M) (g := g13) (o := o14) (i := i) (z := M.getD j 0) sz5 (T rfl hv113) (T rfl hv112) h114 (by first | omega | (simp; omega)) ?_)
       intro w115 hO116 x117
       have E118 := below_bl E17 (Nat.le_refl _) x117
       rw [if_pos rfl]
       exact ⟨_, d16, x117, hO116⟩
     · intro fr119 w120 hB121 hM122 hF123 hD124
       have hv125 : fr119 16 = .slice (some ⟨g13, o14, none⟩) n c := hD124 2 _ (by decide) rfl (by kernel_rfl)
       have hv126 : fr119 17 = .int .i64 ((j : Int)) := hD124 3 _ (by decide) rfl (by kernel_rfl)
       exact DV.oe (dv_indexW (g := g13) (o := o14) (l := n) (c := c) (i := j) (j := (j : Int)) us22 sz5 (T rfl hv125) (T rfl hv126) (by omega) (by first | omega | (simp; omega))) (by rw [if_neg (by decide), if_neg (by decide)]; exact ⟨rfl, rfl⟩)
     · intro fr127 w128 hB129 hM130 hF131 hD132
       obtain ⟨w133, d134, x135, hO136⟩ := hM130 rfl
       have E137 := below_ext E9 (Nat.le_trans hb0 E9.size) d134.ext
       have E138 := below_bl E137 (Nat.le_refl _) x135
       have hv139 : fr127 25 = .int .u8 (M.getD i 0) := hD132 11 _ (by decide) rfl (by kernel_rfl)
       have hv140 : fr127 27 = .pointer (some ⟨g13, o14 + j, none⟩) := hD132 14 _ (by decide) rfl (by kernel_rfl)
       refine id (oe_storeOw (base := base) (L := (M.set i (M.getD j 0))) (g := g13) (o := o14) (i := j) (z := M.getD i 0) sz5 (T rfl hv140) (T rfl hv139) hO136 (by first | omega | (simp; omega)) ?_)
       intro w141 hO142 x143
       have E144 := below_bl E138 (Nat.le_refl _) x143
       rw [if_neg (by decide), if_pos rfl]
       exact ⟨_, d134, x135.trans x143, hO142⟩
   intro fr145 w146 hK147 hF148 hP149
   obtain ⟨w150, d151, x152, hO153⟩ := hK147
   have E154 := below_ext E9 (Nat.le_trans hb0 E9.size) d151.ext
   have E155 := below_bl E154 (Nat.le_refl _) x152
   obtain ⟨p156, p157, p158, p159, p160, p161, p162, p163, p164, p165, p166, p167, p168, _, p169, _, _⟩ := hP149
   have hv170 : fr145 14 = .slice (some ⟨g13, o14, none⟩) n c := p156.resolve_left (by decide)
   have hv171 : fr145 15 = .int .i64 ((i : Int)) := p157.resolve_left (by decide)
   have hv172 : fr145 16 = .slice (some ⟨g13, o14, none⟩) n c := p158.resolve_left (by decide)
   have hv173 : fr145 17 = .int .i64 ((j : Int)) := p159.resolve_left (by decide)
   have hv174 : fr145 18 = .slice (some ⟨g13, o14, none⟩) n c := p160.resolve_left (by decide)
   have hv175 : fr145 19 = .int .i64 ((j : Int)) := p161.resolve_left (by decide)
   have hv176 : fr145 20 = .pointer (some ⟨g13, o14 + j, none⟩) := p162.resolve_left (by decide)
   have hv177 : fr145 21 = .int .u8 (M.getD j 0) := p163.resolve_left (by decide)
   have hv178 : fr145 22 = .slice (some ⟨g13, o14, none⟩) n c := p164.resolve_left (by decide)
   have hv179 : fr145 23 = .int .i64 ((i : Int)) := p165.resolve_left (by decide)
   have hv180 : fr145 24 = .pointer (some ⟨g13, o14 + i, none⟩) := p166.resolve_left (by decide)
   have hv181 : fr145 25 = .int .u8 (M.getD i 0) := p167.resolve_left (by decide)
   have hv182 : fr145 26 = .pointer (some ⟨g13, o14 + i, none⟩) := p168.resolve_left (by decide)
   have hv183 : fr145 27 = .pointer (some ⟨g13, o14 + j, none⟩) := p169.resolve_left (by decide)
   refine rk_inBlock ?_
   refine rk_reg ?_
   refine lw_v (.int .i64 ((i : Int))) (dv_move (T rfl ((hF148 2 rfl).trans f7))) ?_
   refine lw_v (.int .i64 (((i : Int)) + 1)) (dv_add (a := (i : Int)) (b := 1) (z := ((i : Int)) + 1) (T rfl rfl) C (wr_i64 (by omega) (by omega))) ?_
   refine lw_v (.int .i64 ((j : Int))) (dv_move (T rfl ((hF148 3 rfl).trans f8))) ?_
   refine lw_v (.int .i64 (((j : Int)) - 1)) (dv_sub (a := (j : Int)) (b := 1) (z := ((j : Int)) - 1) (T rfl rfl) C (wr_i64 (by omega) (by omega))) ?_
   refine lw_v (.int .i64 (((i : Int)) + 1)) (dv_assign (T rfl rfl)) ?_
   refine lw_v (.int .i64 (((j : Int)) - 1)) (dv_assign (T rfl rfl)) ?_
   refine lw_nil ?_
   exact ih3 (n - ((i + 1))) _ _ (by rw [hd11]; omega) ⟨(i + 1), (j - 1), (((M.set i (M.getD j 0))).set j (M.getD i 0)), rfl, ((hF148 0 rfl).trans f6), (vi (by omega)), (vi (by omega)), E155, hO153, (rv_step hrv (by omega) (by omega)), (by simp [hM]), (by omega)⟩
 · refine rk_cf (T rfl (congrArg Value.bool (decide_eq_false hb12))) ?_
   refine rk_exit rfl ?_
   refine rk_end Try.func101 (v := .tuple #[]) (res0 Try.results101) ⟨_, rfl, ?_⟩
   have hz := rv_done hrv (by omega)
   exact ⟨rfl, E9, by rw [← hz]; exact h10⟩
set_option maxHeartbeats 1000000 in
theorem ntext_ok {w : World} {na : Bool} {Aa : Option Addr} {la ca : Nat} {x : Int} {sx : Nat} (ha : Num 64 24 .u64 w na Aa la ca x sx) (hs : sx ≤ 100000) : Ct Try.prog 66 [.agg #[.bool na, .slice Aa la ca]] w fun v w1 => v = .string (bOf (txtL x)) ∧ Ext w w1 := by
 refine ct_run (n := 49) Try.func66 rfl Try.ntmps66 rfl ?_
 have E0 : Below w.heap.size w w := Below.refl _ _
 have lha := Num.len (by decide) ha
 have hDs := dg_bits ha.lt
 refine rk_seq ?_
 refine rk_reg ?_
 refine lw_e (oe_box (v := .agg #[.bool na, .slice Aa la ca]) (cs := #[.bool na, .slice Aa la ca]) (T rfl rfl) rfl ?_)
 intro b1 w2 n3
 have N4 : w.heap.size ≤ b1 := n3.eq ▸ E0.size
 have E5 := below_ext E0 E0.size n3.ext
 refine lw_v (.string (bOf [])) (dv_assign C) ?_
 refine lw_nil ?_
 refine rk_seq ?_
 refine rk_reg ?_
 refine lw_e (oe_buildSlice0 us22 sz5 ?_)
 intro b6 w7 n8
 have N9 : w.heap.size ≤ b6 := n8.eq ▸ E5.size
 have : b1 < b6 := n8.eq ▸ lt_of_blk n3.blk
 have E10 := below_ext E5 E5.size n8.ext
 have hO11 := Ow.made (T := 5) (k := .u8) (z := .int .u8 0) (c := 0) n8 (by decide)
 refine lw_v (.slice (some ⟨b6, 0, none⟩) (([] : List Int).length) 0) (dv_assign (T rfl rfl)) ?_
 refine lw_nil ?_
 refine rk_seq ?_
 refine rk_seq ?_
 refine rk_reg ?_
 refine lw_v (.pointer (some ⟨b1, 1, none⟩)) (dv_fieldAddr (a := ⟨b1, 0, none⟩) (a' := ⟨b1, 1, none⟩) fo59_1 (T rfl rfl) rfl) ?_
 have H12 := (n8.ext.blk n3.blk)
 refine lw_v (.slice Aa la ca) (dv_load1 (b := b1) (o := 1) agt57 (T rfl rfl) H12 rfl) ?_
 refine lw_v (.slice Aa la ca) (dv_assign (T rfl rfl)) ?_
 refine lw_nil ?_
 refine rk_block ?_
 have h13 := ((ha.ext n3.ext).ext n8.ext)
 refine rk_loop (fun dm_ fr wl => ∃ (Ax : Option Addr) (lx cx : Nat) (X : Int) (L : List Int) (Ad : Option Addr) (cp : Nat), dm_ = X.toNat ∧ fr 1 = .pointer (some ⟨b1, 0, none⟩) ∧ fr 2 = .string (bOf []) ∧ fr 3 = .slice Ad (L.length) cp ∧ fr 4 = .slice Ax lx cx ∧ Below w.heap.size w wl ∧ wl.heap[b1]? = some (.cells #[.bool na, .slice Aa la ca] 59) ∧ Wc 64 24 .u64 wl Ax lx cx X ∧ Ow wl b6 5 .u8 Ad cp L ∧ (L ++ dg X.toNat = dg x.natAbs) ∧ (X < 2 ^ sx)) ((((x.natAbs : Int))).toNat) ⟨Aa, la, ca, ((x.natAbs : Int)), ([] : List Int), (some ⟨b6, 0, none⟩), 0, rfl, rfl, rfl, rfl, rfl, E10, H12, h13.wc, hO11, (by simp), h13.ltI⟩ ?_
 intro d18 fr17 w14 hI15 ih16
 obtain ⟨Ax, lx, cx, X, L, Ad, cp, hd27, f19, f20, f21, f22, E23, H24, h25, h26, hL, hXs⟩ := hI15
 have hXp := h25.pos
 have hXn := h25.nonneg
 have hlx := Wc.len (by decide) h25 hXs
 have hLD := congrArg List.length hL
 simp only [List.length_append] at hLD
 refine rk_seq ?_
 refine rk_seq ?_
 refine rk_reg ?_
 refine lw_v (.slice Ax lx cx) (dv_move (T rfl f22)) ?_
 refine lw_v (.int .i64 ((lx : Int))) (dv_len (ad := Ax) (l := lx) (c := cx) us57 (T rfl rfl)) ?_
 refine lw_v (.bool (decide (0 < ((lx : Int))))) (dv_gtr (a := (lx : Int)) (b := 0) (T rfl rfl) C) ?_
 refine lw_nil ?_
 by_cases hb28 : 0 < ((lx : Int))
 · refine rk_ct (T rfl (congrArg Value.bool (decide_eq_true hb28))) ?_
   refine rk_skip ?_
   refine rk_block ?_
   refine rk_seq ?_
   refine rk_reg ?_
   refine lw_v (.slice Ax lx cx) (dv_move (T rfl f22)) ?_
   refine lw_e (oe_buildSlice (pv := [(0, .int .u64 10)]) (init := [.int .u64 0]) (l := [.int .u64 10]) us57 sz24 rfl rfl zc24 (by kernel_rfl) ⟨rfl, C, trivial⟩ rfl ?_)
   intro b29 w30 n31
   have N32 : w.heap.size ≤ b29 := n31.eq ▸ E23.size
   have : b1 < b29 := n31.eq ▸ lt_of_blk H24
   have E33 := below_ext E23 E23.size n31.ext
   have h34 := (h25.ext n31.ext)
   refine lw_e (oe_callf (vs := [.slice Ax lx cx, .slice (some ⟨b29, 0, none⟩) 1 1]) co98 (ar2 (T rfl rfl) (T rfl rfl)) (divWords_ok h34 (Wc.lit1 (m := 64) n31.blk (by decide)) (by omega) (by first | omega | (simp; done) | (simp; omega)) (by first | omega | (simp; done) | (simp; omega))) ?_)
   rintro _ w43 ⟨A35, n36, c37, A38, n39, c40, rfl, e44, h41, h42⟩
   have E45 := below_ext E33 E33.size e44
   have lh41 := Wc.len (by decide) h41 (div_sz (Wc.nonneg h34) (by omega) hXs)
   have lh42 := Wc.len (by decide) h42 (mod_sz (by omega) (show (10 : Int) < 2 ^ 4 by decide))
   refine lw_v (.tuple #[.slice A35 n36 c37, .slice A38 n39 c40]) (dv_move (T rfl rfl)) ?_
   refine lw_v (.slice A35 n36 c37) (dv_extract (vs := #[.slice A35 n36 c37, .slice A38 n39 c40]) (T rfl rfl) rfl) ?_
   refine lw_v (.slice A38 n39 c40) (dv_extract (vs := #[.slice A35 n36 c37, .slice A38 n39 c40]) (T rfl rfl) rfl) ?_
   refine lw_v (.slice A35 n36 c37) (dv_assign (T rfl rfl)) ?_
   refine lw_v (.slice A38 n39 c40) (dv_assign (T rfl rfl)) ?_
   refine lw_nil ?_
   refine rk_seq ?_
   refine rk_reg ?_
   refine lw_v (.int .u8 48) (dv_assign C) ?_
   refine lw_nil ?_
   refine rk_seq ?_
   refine rk_seq ?_
   refine rk_reg ?_
   refine lw_v (.slice A38 n39 c40) (dv_move (T rfl rfl)) ?_
   refine lw_v (.int .i64 ((n39 : Int))) (dv_len (ad := A38) (l := n39) (c := c40) us57 (T rfl rfl)) ?_
   refine lw_v (.bool (decide (0 < ((n39 : Int))))) (dv_gtr (a := (n39 : Int)) (b := 0) (T rfl rfl) C) ?_
   refine lw_nil ?_
   by_cases hb46 : 0 < ((n39 : Int))
   · refine rk_ct (T rfl (congrArg Value.bool (decide_eq_true hb46))) ?_
     obtain ⟨ys, hyl, hyc, hyw, oy, hyk, hyv⟩ := id h42
     have hy1 : ys.getD 0 0 = X % 10 := one_word oy (by omega) hyv (by omega)
     refine rk_reg ?_
     refine lw_v (.int .u8 48) (dv_move (T rfl rfl)) ?_
     refine lw_v (.slice A38 n39 c40) (dv_move (T rfl rfl)) ?_
     obtain ⟨g47, o48, rfl⟩ := Wd.at hyw (by first | omega | (simp; done) | (simp; omega))
     refine lw_v (.pointer (some ⟨g47, o48 + 0, none⟩)) (dv_indexW (g := g47) (o := o48) (l := n39) (c := c40) (i := 0) (j := 0) us57 sz24 (T rfl rfl) C (by omega) (by first | omega | (simp; done) | (simp; omega))) ?_
     refine lw_v (.int .u64 (ys.getD 0 0)) (dv_load agt24 (T rfl rfl) (Wd.cell hyw (by first | omega | (simp; done) | (simp; omega)))) ?_
     refine lw_v (.int .u8 ((ys.getD 0 0) % 256)) (dv_conv (a := ys.getD 0 0) (z := (ys.getD 0 0) % 256) ui24 ui5 (T rfl rfl) (wr_u8 _)) ?_
     refine lw_v (.int .u8 (48 + ((ys.getD 0 0) % 256))) (dv_add (a := 48) (b := (ys.getD 0 0) % 256) (z := 48 + ((ys.getD 0 0) % 256)) (T rfl rfl) (T rfl rfl) (wn_u8 (by omega) (by omega))) ?_
     refine lw_v (.int .u8 (48 + ((ys.getD 0 0) % 256))) (dv_assign (T rfl rfl)) ?_
     refine lw_nil ?_
     refine rk_reg ?_
     refine lw_v (.slice Ad (L.length) cp) (dv_move (T rfl f21)) ?_
     refine lw_v (.int .u8 (48 + ((ys.getD 0 0) % 256))) (dv_move (T rfl rfl)) ?_
     refine lw_e (oe_buildSlice (pv := [(0, .int .u8 (48 + ((ys.getD 0 0) % 256)))]) (init := [.int .u8 0]) (l := [.int .u8 (48 + ((ys.getD 0 0) % 256))]) us22 sz5 rfl rfl zc5 (by kernel_rfl) ⟨rfl, (T rfl rfl), trivial⟩ rfl ?_)
     intro b49 w50 n51
     have N52 : w.heap.size ≤ b49 := n51.eq ▸ E45.size
     have H53 := (e44.blk n31.blk)
     have : b29 < b49 := n51.eq ▸ lt_of_blk H53
     have E54 := below_ext E45 E45.size n51.ext
     have h55 := (((h26.ext n31.ext).ext e44).ext n51.ext)
     refine lw_e (oe_appendT (base := b6) (L := L) (M := [48 + ((ys.getD 0 0) % 256)]) (m := 1) us22 in5 (T rfl rfl) (T rfl rfl) h55 (Wd.ownW (xs := [48 + ((ys.getD 0 0) % 256)]) n51.blk) rfl (by first | omega | (simp; done) | (simp; omega)) (by first | omega | (simp; done) | (simp; omega)) ?_)
     intro Ad57 c58 w59 hO60 x61 bt56
     have E62 := below_bl E54 N9 x61
     refine lw_v (.slice A35 n36 c37) (dv_move (T rfl rfl)) ?_
     refine lw_v (.slice Ad57 ((L ++ [48 + ((ys.getD 0 0) % 256)]).length) c58) (dv_assign (T rfl rfl)) ?_
     refine lw_v (.slice A35 n36 c37) (dv_assign (T rfl rfl)) ?_
     refine lw_nil ?_
     refine rk_inBlock ?_
     have h63 := ((h41.ext n51.ext).bt bt56 (by decide))
     have hd64 : 48 + ((ys.getD 0 0) % 256) = 48 + X % 10 := by omega
     have H65 := (bl_blk x61 (n51.ext.blk (e44.blk (n31.ext.blk H24))) (by omega))
     exact ih16 (((X / 10)).toNat) _ _ (by rw [hd27]; omega) ⟨A35, n36, c37, (X / 10), (L ++ [48 + ((ys.getD 0 0) % 256)]), Ad57, c58, rfl, f19, f20, rfl, rfl, E62, H65, h63, hO60, (by rw [hd64]; exact txt_snoc (by omega) hL), (div_sz (Wc.nonneg h34) (by omega) hXs)⟩
   · refine rk_cf (T rfl (congrArg Value.bool (decide_eq_false hb46))) ?_
     refine rk_skip ?_
     refine rk_reg ?_
     refine lw_v (.slice Ad (L.length) cp) (dv_move (T rfl f21)) ?_
     refine lw_v (.int .u8 48) (dv_move (T rfl rfl)) ?_
     refine lw_e (oe_buildSlice (pv := [(0, .int .u8 48)]) (init := [.int .u8 0]) (l := [.int .u8 48]) us22 sz5 rfl rfl zc5 (by kernel_rfl) ⟨rfl, (T rfl rfl), trivial⟩ rfl ?_)
     intro b66 w67 n68
     have N69 : w.heap.size ≤ b66 := n68.eq ▸ E45.size
     have H70 := (e44.blk n31.blk)
     have : b29 < b66 := n68.eq ▸ lt_of_blk H70
     have E71 := below_ext E45 E45.size n68.ext
     have h72 := (((h26.ext n31.ext).ext e44).ext n68.ext)
     refine lw_e (oe_appendT (base := b6) (L := L) (M := [48]) (m := 1) us22 in5 (T rfl rfl) (T rfl rfl) h72 (Wd.ownW (xs := [48]) n68.blk) rfl (by first | omega | (simp; done) | (simp; omega)) (by first | omega | (simp; done) | (simp; omega)) ?_)
     intro Ad74 c75 w76 hO77 x78 bt73
     have E79 := below_bl E71 N9 x78
     refine lw_v (.slice A35 n36 c37) (dv_move (T rfl rfl)) ?_
     refine lw_v (.slice Ad74 ((L ++ [48]).length) c75) (dv_assign (T rfl rfl)) ?_
     refine lw_v (.slice A35 n36 c37) (dv_assign (T rfl rfl)) ?_
     refine lw_nil ?_
     refine rk_inBlock ?_
     have h80 := ((h41.ext n68.ext).bt bt73 (by decide))
     have hd81 : 48 = 48 + X % 10 := by have := h42.pos; have := h42.nonneg; omega
     have H82 := (bl_blk x78 (n68.ext.blk (e44.blk (n31.ext.blk H24))) (by omega))
     exact ih16 (((X / 10)).toNat) _ _ (by rw [hd27]; omega) ⟨A35, n36, c37, (X / 10), (L ++ [48]), Ad74, c75, rfl, f19, f20, rfl, rfl, E79, H82, h80, hO77, (by rw [hd81]; exact txt_snoc (by omega) hL), (div_sz (Wc.nonneg h34) (by omega) hXs)⟩
 · refine rk_cf (T rfl (congrArg Value.bool (decide_eq_false hb28))) ?_
   refine rk_exit rfl ?_
   refine rk_seq ?_
   refine rk_seq ?_
   have hX0 : X = 0 := by omega
   subst hX0
   rw [show (0 : Int).toNat = 0 from rfl, dg_zero, List.append_nil] at hL
   refine rk_reg ?_
   refine lw_v (.slice Ad (L.length) cp) (dv_move (T rfl f21)) ?_
   refine lw_v (.int .i64 ((L.length : Int))) (dv_len (ad := Ad) (l := L.length) (c := cp) us22 (T rfl rfl)) ?_
   refine lw_v (.bool (decide (((L.length : Int)) = 0))) (dv_eql (a := (L.length : Int)) (b := 0) (T rfl rfl) C) ?_
   refine lw_nil ?_
   by_cases hb83 : ((L.length : Int)) = 0
   · refine rk_ct (T rfl (congrArg Value.bool (decide_eq_true hb83))) ?_
     refine rk_reg ?_
     refine lw_v (.slice Ad (L.length) cp) (dv_move (T rfl f21)) ?_
     refine lw_e (oe_buildSlice (pv := [(0, .int .u8 48)]) (init := [.int .u8 0]) (l := [.int .u8 48]) us22 sz5 rfl rfl zc5 (by kernel_rfl) ⟨rfl, C, trivial⟩ rfl ?_)
     intro b84 w85 n86
     have N87 : w.heap.size ≤ b84 := n86.eq ▸ E23.size
     have : b1 < b84 := n86.eq ▸ lt_of_blk H24
     have E88 := below_ext E23 E23.size n86.ext
     have h89 := (h26.ext n86.ext)
     refine lw_e (oe_appendT (base := b6) (L := L) (M := [48]) (m := 1) us22 in5 (T rfl rfl) (T rfl rfl) h89 (Wd.ownW (xs := [48]) n86.blk) rfl (by first | omega | (simp; done) | (simp; omega)) (by first | omega | (simp; done) | (simp; omega)) ?_)
     intro Ad91 c92 w93 hO94 x95 bt90
     have E96 := below_bl E88 N9 x95
     refine lw_v (.slice Ad91 ((L ++ [48]).length) c92) (dv_assign (T rfl rfl)) ?_
     refine lw_nil ?_
     refine rk_seq ?_
     refine rk_seq ?_
     refine rk_reg ?_
     refine lw_v (.pointer (some ⟨b1, 0, none⟩)) (dv_fieldAddr (a := ⟨b1, 0, none⟩) (a' := ⟨b1, 0, none⟩) fo59_0 (T rfl f19) rfl) ?_
     have H97 := (bl_blk x95 (n86.ext.blk H24) (by omega))
     refine lw_v (.bool na) (dv_load1 (b := b1) (o := 0) agt4 (T rfl rfl) H97 rfl) ?_
     refine lw_nil ?_
     rcases Bool.eq_false_or_eq_true (na) with hb98 | hb98
     · refine rk_ct (T rfl (congrArg Value.bool hb98)) ?_
       refine rk_reg ?_
       refine lw_v (.slice Ad91 ((L ++ [48]).length) c92) (dv_move (T rfl rfl)) ?_
       refine lw_e (oe_buildSlice (pv := [(0, .int .u8 45)]) (init := [.int .u8 0]) (l := [.int .u8 45]) us22 sz5 rfl rfl zc5 (by kernel_rfl) ⟨rfl, C, trivial⟩ rfl ?_)
       intro b99 w100 n101
       have N102 : w.heap.size ≤ b99 := n101.eq ▸ E96.size
       have : b1 < b99 := n101.eq ▸ lt_of_blk H97
       have E103 := below_ext E96 E96.size n101.ext
       have h104 := (hO94.ext n101.ext)
       refine lw_e (oe_appendT (base := b6) (L := (L ++ [48])) (M := [45]) (m := 1) us22 in5 (T rfl rfl) (T rfl rfl) h104 (Wd.ownW (xs := [45]) n101.blk) rfl (by first | omega | (simp; done) | (simp; omega)) (by first | omega | (simp; done) | (simp; omega)) ?_)
       intro Ad106 c107 w108 hO109 x110 bt105
       have E111 := below_bl E103 N9 x110
       refine lw_v (.slice Ad106 (((L ++ [48]) ++ [45]).length) c107) (dv_assign (T rfl rfl)) ?_
       refine lw_nil ?_
       refine rk_seq ?_
       refine rk_reg ?_
       refine lw_v (.slice Ad106 (((L ++ [48]) ++ [45]).length) c107) (dv_move (T rfl rfl)) ?_
       refine lw_e (oe_callf (vs := [.slice Ad106 (((L ++ [48]) ++ [45]).length) c107]) co101 (ar1 (T rfl rfl)) (rev_ok hO109 rfl (by first | omega | (simp; done) | (simp; omega)) (by first | omega | (simp; done) | (simp; omega))) ?_)
       rintro _ w113 ⟨rfl, e114, hO112⟩
       have E115 := below_bl E111 N9 e114
       refine lw_nil ?_
       refine rk_seq ?_
       refine rk_reg ?_
       refine lw_v (.slice Ad106 (((L ++ [48]) ++ [45]).length) c107) (dv_move (T rfl rfl)) ?_
       refine lw_v (.string (bOf (((((L ++ [48]) ++ [45])).reverse)))) (dv_convBS (L := ((((L ++ [48]) ++ [45])).reverse)) (A := Ad106) (l := ((L ++ [48]) ++ [45]).length) (c := c107) us22 ui5 ut9 (by exact (T rfl rfl)) hO112.wd (by first | rfl | (simp; done) | (simp; omega))) ?_
       refine lw_v (.string (bOf (((((L ++ [48]) ++ [45])).reverse)))) (dv_assign (T rfl rfl)) ?_
       refine lw_nil ?_
       refine rk_ret Try.func66 (v := .string (bOf (((((L ++ [48]) ++ [45])).reverse)))) (res1 Try.results66 (rv_tmp rfl rfl)) ⟨_, rfl, ?_⟩
       have hneg := ha.neg_iff
       exact ⟨congrArg (fun l => Value.string (bOf l)) ((absurd (hneg.1 (by assumption)) (txt_fin10 hL (by omega)).2)), E115⟩
     · refine rk_cf (T rfl (congrArg Value.bool hb98)) ?_
       refine rk_skip ?_
       refine rk_seq ?_
       refine rk_reg ?_
       refine lw_v (.slice Ad91 ((L ++ [48]).length) c92) (dv_move (T rfl rfl)) ?_
       refine lw_e (oe_callf (vs := [.slice Ad91 ((L ++ [48]).length) c92]) co101 (ar1 (T rfl rfl)) (rev_ok hO94 rfl (by first | omega | (simp; done) | (simp; omega)) (by first | omega | (simp; done) | (simp; omega))) ?_)
       rintro _ w117 ⟨rfl, e118, hO116⟩
       have E119 := below_bl E96 N9 e118
       refine lw_nil ?_
       refine rk_seq ?_
       refine rk_reg ?_
       refine lw_v (.slice Ad91 ((L ++ [48]).length) c92) (dv_move (T rfl rfl)) ?_
       refine lw_v (.string (bOf ((((L ++ [48])).reverse)))) (dv_convBS (L := (((L ++ [48])).reverse)) (A := Ad91) (l := (L ++ [48]).length) (c := c92) us22 ui5 ut9 (by exact (T rfl rfl)) hO116.wd (by first | rfl | (simp; done) | (simp; omega))) ?_
       refine lw_v (.string (bOf ((((L ++ [48])).reverse)))) (dv_assign (T rfl rfl)) ?_
       refine lw_nil ?_
       refine rk_ret Try.func66 (v := .string (bOf ((((L ++ [48])).reverse)))) (res1 Try.results66 (rv_tmp rfl rfl)) ⟨_, rfl, ?_⟩
       have hneg := ha.neg_iff
       exact ⟨congrArg (fun l => Value.string (bOf l)) ((txt_fin10 hL (by omega)).1), E119⟩
   · refine rk_cf (T rfl (congrArg Value.bool (decide_eq_false hb83))) ?_
     refine rk_skip ?_
     refine rk_seq ?_
     refine rk_seq ?_
     refine rk_reg ?_
     refine lw_v (.pointer (some ⟨b1, 0, none⟩)) (dv_fieldAddr (a := ⟨b1, 0, none⟩) (a' := ⟨b1, 0, none⟩) fo59_0 (T rfl f19) rfl) ?_
     refine lw_v (.bool na) (dv_load1 (b := b1) (o := 0) agt4 (T rfl rfl) H24 rfl) ?_
     refine lw_nil ?_
     rcases Bool.eq_false_or_eq_true (na) with hb120 | hb120
     · refine rk_ct (T rfl (congrArg Value.bool hb120)) ?_
       refine rk_reg ?_
       refine lw_v (.slice Ad (L.length) cp) (dv_move (T rfl f21)) ?_
       refine lw_e (oe_buildSlice (pv := [(0, .int .u8 45)]) (init := [.int .u8 0]) (l := [.int .u8 45]) us22 sz5 rfl rfl zc5 (by kernel_rfl) ⟨rfl, C, trivial⟩ rfl ?_)
       intro b121 w122 n123
       have N124 : w.heap.size ≤ b121 := n123.eq ▸ E23.size
       have : b1 < b121 := n123.eq ▸ lt_of_blk H24
       have E125 := below_ext E23 E23.size n123.ext
       have h126 := (h26.ext n123.ext)
       refine lw_e (oe_appendT (base := b6) (L := L) (M := [45]) (m := 1) us22 in5 (T rfl rfl) (T rfl rfl) h126 (Wd.ownW (xs := [45]) n123.blk) rfl (by first | omega | (simp; done) | (simp; omega)) (by first | omega | (simp; done) | (simp; omega)) ?_)
       intro Ad128 c129 w130 hO131 x132 bt127
       have E133 := below_bl E125 N9 x132
       refine lw_v (.slice Ad128 ((L ++ [45]).length) c129) (dv_assign (T rfl rfl)) ?_
       refine lw_nil ?_
       refine rk_seq ?_
       refine rk_reg ?_
       refine lw_v (.slice Ad128 ((L ++ [45]).length) c129) (dv_move (T rfl rfl)) ?_
       refine lw_e (oe_callf (vs := [.slice Ad128 ((L ++ [45]).length) c129]) co101 (ar1 (T rfl rfl)) (rev_ok hO131 rfl (by first | omega | (simp; done) | (simp; omega)) (by first | omega | (simp; done) | (simp; omega))) ?_)
       rintro _ w135 ⟨rfl, e136, hO134⟩
       have E137 := below_bl E133 N9 e136
       refine lw_nil ?_
       refine rk_seq ?_
       refine rk_reg ?_
       refine lw_v (.slice Ad128 ((L ++ [45]).length) c129) (dv_move (T rfl rfl)) ?_
       refine lw_v (.string (bOf ((((L ++ [45])).reverse)))) (dv_convBS (L := (((L ++ [45])).reverse)) (A := Ad128) (l := (L ++ [45]).length) (c := c129) us22 ui5 ut9 (by exact (T rfl rfl)) hO134.wd (by first | rfl | (simp; done) | (simp; omega))) ?_
       refine lw_v (.string (bOf ((((L ++ [45])).reverse)))) (dv_assign (T rfl rfl)) ?_
       refine lw_nil ?_
       refine rk_ret Try.func66 (v := .string (bOf ((((L ++ [45])).reverse)))) (res1 Try.results66 (rv_tmp rfl rfl)) ⟨_, rfl, ?_⟩
       have hneg := ha.neg_iff
       exact ⟨congrArg (fun l => Value.string (bOf l)) (txt_fin01 hL (by omega) (hneg.1 (by assumption))), E137⟩
     · refine rk_cf (T rfl (congrArg Value.bool hb120)) ?_
       refine rk_skip ?_
       refine rk_seq ?_
       refine rk_reg ?_
       refine lw_v (.slice Ad (L.length) cp) (dv_move (T rfl f21)) ?_
       refine lw_e (oe_callf (vs := [.slice Ad (L.length) cp]) co101 (ar1 (T rfl rfl)) (rev_ok h26 rfl (by first | omega | (simp; done) | (simp; omega)) (by first | omega | (simp; done) | (simp; omega))) ?_)
       rintro _ w139 ⟨rfl, e140, hO138⟩
       have E141 := below_bl E23 N9 e140
       refine lw_nil ?_
       refine rk_seq ?_
       refine rk_reg ?_
       refine lw_v (.slice Ad (L.length) cp) (dv_move (T rfl f21)) ?_
       refine lw_v (.string (bOf ((L.reverse)))) (dv_convBS (L := (L.reverse)) (A := Ad) (l := L.length) (c := cp) us22 ui5 ut9 (by exact (T rfl rfl)) hO138.wd (by first | rfl | (simp; done) | (simp; omega))) ?_
       refine lw_v (.string (bOf ((L.reverse)))) (dv_assign (T rfl rfl)) ?_
       refine lw_nil ?_
       refine rk_ret Try.func66 (v := .string (bOf ((L.reverse)))) (res1 Try.results66 (rv_tmp rfl rfl)) ⟨_, rfl, ?_⟩
       have hneg := ha.neg_iff
       exact ⟨congrArg (fun l => Value.string (bOf l)) (txt_fin00 hL (by omega) (fun hh => by have := hneg.2 hh; simp_all)), E141⟩
set_option maxHeartbeats 1000000 in
theorem l1Text_ok {w : World} {na : Bool} {Aa : Option Addr} {la ca : Nat} {x : Int} {sx : Nat} (ha : Num 32 95 .u32 w na Aa la ca x sx) (hs : sx ≤ 100000) : Ct Try.prog 67 [.agg #[.bool na, .slice Aa la ca]] w fun v w1 => v = .string (bOf (txtL x)) ∧ Ext w w1 := by
 refine ct_run (n := 58) Try.func67 rfl Try.ntmps67 rfl ?_
 have E0 : Below w.heap.size w w := Below.refl _ _
 have lha := Num.len (by decide) ha
 have hDs := dg_bits ha.lt
 refine rk_seq ?_
 refine rk_reg ?_
 refine lw_e (oe_box (v := .agg #[.bool na, .slice Aa la ca]) (cs := #[.bool na, .slice Aa la ca]) (T rfl rfl) rfl ?_)
 intro b1 w2 n3
 have N4 : w.heap.size ≤ b1 := n3.eq ▸ E0.size
 have E5 := below_ext E0 E0.size n3.ext
 refine lw_v (.string (bOf [])) (dv_assign C) ?_
 refine lw_nil ?_
 refine rk_seq ?_
 refine rk_seq ?_
 refine rk_reg ?_
 refine lw_v (.pointer (some ⟨b1, 1, none⟩)) (dv_fieldAddr (a := ⟨b1, 0, none⟩) (a' := ⟨b1, 1, none⟩) fo65_1 (T rfl rfl) rfl) ?_
 refine lw_v (.slice Aa la ca) (dv_load1 (b := b1) (o := 1) agt63 (T rfl rfl) n3.blk rfl) ?_
 refine lw_v (.int .i64 ((la : Int))) (dv_len (ad := Aa) (l := la) (c := ca) us63 (T rfl rfl)) ?_
 refine lw_v (.bool (decide (((la : Int)) = 0))) (dv_eql (a := (la : Int)) (b := 0) (T rfl rfl) C) ?_
 refine lw_nil ?_
 by_cases hb6 : ((la : Int)) = 0
 · refine rk_ct (T rfl (congrArg Value.bool (decide_eq_true hb6))) ?_
   refine rk_seq ?_
   refine rk_reg ?_
   refine lw_v (.string (bOf [48])) (dv_assign C) ?_
   refine lw_nil ?_
   refine rk_ret Try.func67 (v := .string (bOf [48])) (res1 Try.results67 (rv_tmp rfl rfl)) ⟨_, rfl, ?_⟩
   have hp0 := ha.wc.pos
   have hneg := ha.neg_iff
   exact ⟨congrArg (fun l => Value.string (bOf l)) (by have h0 : x = 0 := (by omega); rw [h0]; rfl), E5⟩
 · refine rk_cf (T rfl (congrArg Value.bool (decide_eq_false hb6))) ?_
   refine rk_skip ?_
   refine rk_seq ?_
   refine rk_reg ?_
   refine lw_v (.string (bOf [])) (dv_assign C) ?_
   refine lw_nil ?_
   refine rk_seq ?_
   refine rk_reg ?_
   refine lw_v (.pointer (some ⟨b1, 1, none⟩)) (dv_fieldAddr (a := ⟨b1, 0, none⟩) (a' := ⟨b1, 1, none⟩) fo65_1 (T rfl rfl) rfl) ?_
   refine lw_v (.slice Aa la ca) (dv_load1 (b := b1) (o := 1) agt63 (T rfl rfl) n3.blk rfl) ?_
   refine lw_v (.slice Aa la ca) (dv_assign (T rfl rfl)) ?_
   refine lw_nil ?_
   refine rk_seq ?_
   refine rk_block ?_
   have h7 := (ha.ext n3.ext)
   refine rk_loop (fun dm_ fr wl => ∃ (Ax : Option Addr) (lx cx : Nat) (X : Int) (M : List Int), dm_ = X.toNat ∧ fr 1 = .pointer (some ⟨b1, 0, none⟩) ∧ fr 2 = .string (bOf []) ∧ fr 3 = .string (bOf M) ∧ fr 4 = .slice Ax lx cx ∧ Below w.heap.size w wl ∧ wl.heap[b1]? = some (.cells #[.bool na, .slice Aa la ca] 65) ∧ Wc 32 95 .u32 wl Ax lx cx X ∧ ((dg X.toNat).reverse ++ M = (dg x.natAbs).reverse) ∧ (X < 2 ^ sx)) ((((x.natAbs : Int))).toNat) ⟨Aa, la, ca, ((x.natAbs : Int)), [], rfl, rfl, rfl, rfl, rfl, E5, n3.blk, h7.wc, (by simp), h7.ltI⟩ ?_
   intro d12 fr11 w8 hI9 ih10
   obtain ⟨Ax, lx, cx, X, M, hd20, f13, f14, f15, f16, E17, H18, h19, hM, hXs⟩ := hI9
   have hXp := h19.pos
   have hXn := h19.nonneg
   have hlx := Wc.len (by decide) h19 hXs
   have hMl := congrArg List.length hM
   simp only [List.length_append, List.length_reverse] at hMl
   obtain ⟨xs, hxl, hxc, hxw, ox, hxk, hxv⟩ := id h19
   refine rk_seq ?_
   refine rk_seq ?_
   refine rk_reg ?_
   refine lw_v (.slice Ax lx cx) (dv_move (T rfl f16)) ?_
   refine lw_v (.int .i64 ((lx : Int))) (dv_len (ad := Ax) (l := lx) (c := cx) us63 (T rfl rfl)) ?_
   refine lw_v (.bool (decide (0 < ((lx : Int))))) (dv_gtr (a := (lx : Int)) (b := 0) (T rfl rfl) C) ?_
   refine lw_nil ?_
   by_cases hb21 : 0 < ((lx : Int))
   · refine rk_ct (T rfl (congrArg Value.bool (decide_eq_true hb21))) ?_
     refine rk_skip ?_
     refine rk_block ?_
     refine rk_seq ?_
     refine rk_reg ?_
     refine lw_v (.slice Ax lx cx) (dv_move (T rfl f16)) ?_
     refine lw_v (.int .i64 ((lx : Int))) (dv_len (ad := Ax) (l := lx) (c := cx) us63 (T rfl rfl)) ?_
     refine lw_e (oe_makeW (l := lx) (j := (lx : Int)) us63 in95 (T rfl rfl) (T rfl rfl) (by omega) (by first | omega | (simp; done) | (simp; omega)) (by first | omega | (simp; done) | (simp; omega)) ?_)
     intro b22 w23 n24
     have N25 : w.heap.size ≤ b22 := n24.eq ▸ E17.size
     have : b1 < b22 := n24.eq ▸ lt_of_blk H18
     have E26 := below_ext E17 E17.size n24.ext
     refine lw_v (.slice (some ⟨b22, 0, none⟩) lx lx) (dv_assign (T rfl rfl)) ?_
     refine lw_nil ?_
     refine rk_seq ?_
     refine rk_reg ?_
     refine lw_v (.int .u64 0) (dv_assign C) ?_
     refine lw_nil ?_
     refine rk_seq ?_
     refine rk_seq ?_
     refine rk_reg ?_
     refine lw_v (.slice Ax lx cx) (dv_move (T rfl f16)) ?_
     refine lw_v (.int .i64 ((lx : Int))) (dv_len (ad := Ax) (l := lx) (c := cx) us63 (T rfl rfl)) ?_
     refine lw_v (.int .i64 (((lx : Int)) - 1)) (dv_sub (a := (lx : Int)) (b := 1) (z := ((lx : Int)) - 1) (T rfl rfl) C (wr_i64 (by omega) (by omega))) ?_
     refine lw_v (.int .i64 (((lx : Int)) - 1)) (dv_assign (T rfl rfl)) ?_
     refine lw_nil ?_
     refine rk_block ?_
     have hE27 : Below w8.heap.size w8 _ := below_ext (Below.refl _ _) (Nat.le_refl _) n24.ext
     have hb5 : w8.heap.size ≤ b22 := by have := n24.eq; omega
     have H28 := (n24.ext.blk H18)
     refine rk_loop (fun dm_ fr wl => ∃ (j : Nat) (L : List Int) (r : Int), dm_ = j ∧ fr 1 = .pointer (some ⟨b1, 0, none⟩) ∧ fr 2 = .string (bOf []) ∧ fr 3 = .string (bOf M) ∧ fr 4 = .slice Ax lx cx ∧ fr 5 = .slice (some ⟨b22, 0, none⟩) lx lx ∧ fr 6 = .int .u64 r ∧ fr 7 = .int .i64 ((j : Int) - 1) ∧ fr 14 = .slice Ax lx cx ∧ fr 15 = .int .i64 ((lx : Int)) ∧ fr 16 = .bool (decide (0 < ((lx : Int)))) ∧ fr 17 = .slice Ax lx cx ∧ fr 18 = .int .i64 ((lx : Int)) ∧ fr 19 = .slice (some ⟨b22, 0, none⟩) lx lx ∧ fr 20 = .slice Ax lx cx ∧ fr 21 = .int .i64 ((lx : Int)) ∧ fr 22 = .int .i64 (((lx : Int)) - 1) ∧ Below w.heap.size w wl ∧ wl.heap[b1]? = some (.cells #[.bool na, .slice Aa la ca] 65) ∧ wl.heap[b22]? = some (.cells (L.map (Value.int .u32)).toArray 95) ∧ (j ≤ lx) ∧ (L.length = lx) ∧ (okW (2 ^ 32) L) ∧ (valB (2 ^ 32) (L.drop j) = valB (2 ^ 32) (xs.drop j) / 10) ∧ (r = valB (2 ^ 32) (xs.drop j) % 10) ∧ (Below w8.heap.size w8 wl)) (lx) ⟨lx, (List.replicate lx (0 : Int)), 0, rfl, f13, f14, f15, f16, rfl, rfl, (vi (by omega)), rfl, rfl, rfl, rfl, rfl, rfl, rfl, rfl, rfl, E26, H28, n24.blk, (Nat.le_refl _), (by simp), (okW.replicate (by decide) _), (by rw [List.drop_of_length_le (by simp), List.drop_of_length_le (by omega)]; simp [valB]), (by rw [List.drop_of_length_le (by omega)]; simp [valB]), hE27⟩ ?_
     intro d33 fr32 w29 hI30 ih31
     obtain ⟨j, L, r, hd53, f34, f35, f36, f37, f38, f39, f40, f41, f42, f43, f44, f45, f46, f47, f48, f49, E50, H51, H52, hj, hLl, hok, hLv, hrv, hE2⟩ := hI30
     have hwq := hxw.ext hE2
     have gx := okW.getD ox (by decide) (j - 1)
     have hr9 : 0 ≤ r ∧ r < 10 := by omega
     refine rk_seq ?_
     refine rk_seq ?_
     refine rk_reg ?_
     refine lw_v (.int .i64 ((j : Int) - 1)) (dv_move (T rfl f40)) ?_
     refine lw_v (.bool (decide (0 ≤ ((j : Int) - 1)))) (dv_geq (a := (j : Int) - 1) (b := 0) (T rfl rfl) C) ?_
     refine lw_nil ?_
     by_cases hb54 : 0 ≤ ((j : Int) - 1)
     · refine rk_ct (T rfl (congrArg Value.bool (decide_eq_true hb54))) ?_
       refine rk_skip ?_
       refine rk_seq ?_
       refine rk_block ?_
       refine rk_seq ?_
       refine rk_reg ?_
       refine lw_v (.int .u64 r) (dv_move (T rfl f39)) ?_
       refine lw_v (.int .u64 (r * 4294967296)) (dv_shl (a := r) (b := 32) (z := r * 4294967296) (T rfl rfl) C (by decide) (shl_c (m := 4294967296) (n := 32) (by decide) (wn_u64 (by omega) (by omega)))) ?_
       refine lw_v (.slice Ax lx cx) (dv_move (T rfl f37)) ?_
       refine lw_v (.int .i64 ((j : Int) - 1)) (dv_move (T rfl f40)) ?_
       obtain ⟨g55, o56, rfl⟩ := Wd.at hwq (by first | omega | (simp; done) | (simp; omega))
       refine lw_v (.pointer (some ⟨g55, o56 + (j - 1), none⟩)) (dv_indexW (g := g55) (o := o56) (l := lx) (c := cx) (i := (j - 1)) (j := (j : Int) - 1) us63 sz95 (T rfl rfl) (T rfl rfl) (by omega) (by first | omega | (simp; done) | (simp; omega))) ?_
       refine lw_v (.int .u32 (xs.getD ((j - 1)) 0)) (dv_load agt95 (T rfl rfl) (Wd.cell hwq (by first | omega | (simp; done) | (simp; omega)))) ?_
       refine lw_v (.int .u64 (xs.getD ((j - 1)) 0)) (dv_conv (a := xs.getD ((j - 1)) 0) (z := xs.getD ((j - 1)) 0) ui95 ui24 (T rfl rfl) (wn_u64 (by omega) (by omega))) ?_
       refine lw_v (.int .u64 ((xs.getD ((j - 1)) 0) + (r * 4294967296))) (dv_or (a := r * 4294967296) (b := xs.getD ((j - 1)) 0) (z := (xs.getD ((j - 1)) 0) + (r * 4294967296)) (T rfl rfl) (T rfl rfl) (or_add (k := .u64) (a := xs.getD ((j - 1)) 0) (b := r * 4294967296) (i := 32) rfl (by omega) (by omega) (by omega) (by omega) (lt64 (by omega)) (lt64 (by omega))).2) ?_
       refine lw_v (.int .u64 ((xs.getD ((j - 1)) 0) + (r * 4294967296))) (dv_assign (T rfl rfl)) ?_
       refine lw_nil ?_
       refine rk_seq ?_
       refine rk_reg ?_
       refine lw_v (.slice (some ⟨b22, 0, none⟩) lx lx) (dv_move (T rfl f38)) ?_
       refine lw_v (.int .i64 ((j : Int) - 1)) (dv_move (T rfl f40)) ?_
       refine lw_v (.int .u64 ((xs.getD ((j - 1)) 0) + (r * 4294967296))) (dv_move (T rfl rfl)) ?_
       refine lw_v (.int .u64 (((xs.getD ((j - 1)) 0) + (r * 4294967296)) / 10)) (dv_quo (a := (xs.getD ((j - 1)) 0) + (r * 4294967296)) (b := 10) (z := ((xs.getD ((j - 1)) 0) + (r * 4294967296)) / 10) (T rfl rfl) C (by decide) (quo_c (by omega) (by decide) (wn_u64 (by omega) (by omega)))) ?_
       refine lw_v (.int .u32 ((((xs.getD ((j - 1)) 0) + (r * 4294967296)) / 10) % 4294967296)) (dv_conv (a := ((xs.getD ((j - 1)) 0) + (r * 4294967296)) / 10) (z := (((xs.getD ((j - 1)) 0) + (r * 4294967296)) / 10) % 4294967296) ui24 ui95 (T rfl rfl) (wr_u32 _)) ?_
       refine lw_v (.pointer (some ⟨b22, ((j - 1)), none⟩)) (dv_indexO (g := b22) (l := lx) (c := lx) (i := (j - 1)) (j := (j : Int) - 1) us63 sz95 (T rfl rfl) (T rfl rfl) (by omega) (by first | omega | (simp; done) | (simp; omega))) ?_
       refine lw_e (oe_storeW (L := L) (i := (j - 1)) (z := (((xs.getD ((j - 1)) 0) + (r * 4294967296)) / 10) % 4294967296) sz95 (T rfl rfl) (T rfl rfl) H52 (by first | omega | (simp; done) | (simp; omega)) ?_)
       intro w57 s58 H59
       have E60 := below_st E50 N25 s58
       refine lw_nil ?_
       refine rk_reg ?_
       refine lw_v (.int .u64 ((xs.getD ((j - 1)) 0) + (r * 4294967296))) (dv_move (T rfl rfl)) ?_
       refine lw_v (.int .u64 (((xs.getD ((j - 1)) 0) + (r * 4294967296)) % 10)) (dv_rem (a := (xs.getD ((j - 1)) 0) + (r * 4294967296)) (b := 10) (z := ((xs.getD ((j - 1)) 0) + (r * 4294967296)) % 10) (T rfl rfl) C (by decide) (rem_c (by omega) rfl)) ?_
       refine lw_v (.int .u64 (((xs.getD ((j - 1)) 0) + (r * 4294967296)) % 10)) (dv_assign (T rfl rfl)) ?_
       refine lw_nil ?_
       refine rk_inBlock ?_
       refine rk_reg ?_
       refine lw_v (.int .i64 ((j : Int) - 1)) (dv_move (T rfl f40)) ?_
       refine lw_v (.int .i64 (((j : Int) - 1) - 1)) (dv_sub (a := (j : Int) - 1) (b := 1) (z := ((j : Int) - 1) - 1) (T rfl rfl) C (wr_i64 (by omega) (by omega))) ?_
       refine lw_v (.int .i64 (((j : Int) - 1) - 1)) (dv_assign (T rfl rfl)) ?_
       refine lw_nil ?_
       have hq61 : ((xs.getD ((j - 1)) 0) + (r * 4294967296)) / 10 % 4294967296 = ((xs.getD ((j - 1)) 0) + (r * 4294967296)) / 10 := by omega
       have H62 := (s58.blk H51 (by omega))
       exact ih31 (((j - 1))) _ _ (by rw [hd53]; omega) ⟨(j - 1), (L.set ((j - 1)) ((((xs.getD ((j - 1)) 0) + (r * 4294967296)) / 10) % 4294967296)), (((xs.getD ((j - 1)) 0) + (r * 4294967296)) % 10), rfl, f34, f35, f36, f37, f38, rfl, (vi (by omega)), f41, f42, f43, f44, f45, f46, f47, f48, f49, E60, H62, H59, (by omega), (by simp [hLl]), (okW.set hok (by omega) (by omega) _), (by rw [hq61]; exact (ten_step (by omega) (by omega) (by omega) hLv hrv).1), (ten_step (by omega) (by omega) (by omega) hLv hrv).2, (below_st hE2 hb5 s58)⟩
     · refine rk_cf (T rfl (congrArg Value.bool (decide_eq_false hb54))) ?_
       refine rk_exit rfl ?_
       refine rk_seq ?_
       have hj0 : j = 0 := by omega
       have hL0 := hLv
       rw [hj0, List.drop_zero, List.drop_zero, ← hxv] at hL0
       have hr0 := hrv
       rw [hj0, List.drop_zero, ← hxv] at hr0
       refine rk_reg ?_
       refine lw_v (.int .u64 r) (dv_move (T rfl f39)) ?_
       refine lw_v (.int .u64 (48 + r)) (dv_add (a := 48) (b := r) (z := 48 + r) C (T rfl rfl) (wn_u64 (by omega) (by omega))) ?_
       refine lw_v (.int .u8 ((48 + r) % 256)) (dv_conv (a := 48 + r) (z := (48 + r) % 256) ui24 ui5 (T rfl rfl) (wr_u8 _)) ?_
       refine lw_e (oe_buildSlice (pv := [(0, .int .u8 ((48 + r) % 256))]) (init := [.int .u8 0]) (l := [.int .u8 ((48 + r) % 256)]) us22 sz5 rfl rfl zc5 (by kernel_rfl) ⟨rfl, (T rfl rfl), trivial⟩ rfl ?_)
       intro b63 w64 n65
       have N66 : w.heap.size ≤ b63 := n65.eq ▸ E50.size
       have : b22 < b63 := n65.eq ▸ lt_of_blk H52
       have E67 := below_ext E50 E50.size n65.ext
       refine lw_v (.string (bOf ([(48 + r) % 256]))) (dv_convBS (L := [(48 + r) % 256]) (A := some ⟨b63, 0, none⟩) (l := 1) (c := 1) us22 ui5 ut9 (by exact (T rfl rfl)) (Wd.ownW (xs := [(48 + r) % 256]) n65.blk) (by first | rfl | omega | (simp; done) | (simp; omega))) ?_
       refine lw_v (.string (bOf M)) (dv_move (T rfl f36)) ?_
       refine lw_v (.string (bOf (([(48 + r) % 256]) ++ M))) (dv_addS (L := ([(48 + r) % 256])) (M := M) (T rfl rfl) (T rfl rfl) (by simp; omega)) ?_
       refine lw_v (.string (bOf (([(48 + r) % 256]) ++ M))) (dv_assign (T rfl rfl)) ?_
       refine lw_nil ?_
       refine rk_reg ?_
       refine lw_v (.slice (some ⟨b22, 0, none⟩) lx lx) (dv_move (T rfl f38)) ?_
       have H68 := (n65.ext.blk H52)
       refine lw_e (oe_callf (vs := [.bool false, .slice (some ⟨b22, 0, none⟩) lx lx]) co75 (ar2 C (T rfl rfl)) (l1Trim_num (s := (32 * lx)) (neg := false) (⟨L, (by first | rfl | omega | (simp; done) | (simp; omega)), (by first | rfl | omega | (simp; done) | (simp; omega)), Wd.ownW H68, hok, rfl⟩ : Ws _ _ _ _ _ _ _ _) (by first | omega | (simp; done) | (simp; omega)) (valB_sz hok (by first | rfl | omega | (simp; done) | (simp; omega)))) ?_)
       rintro _ w74 ⟨nb69, A70, n71, c72, rfl, e75, hn73⟩
       have E76 := below_ext E67 E67.size e75
       have lhn73 := Num.len (by decide) hn73
       refine lw_v (.slice A70 n71 c72) (dv_field (v := .slice A70 n71 c72) fb65_1 agt63 (T rfl rfl) rfl) ?_
       refine lw_v (.slice A70 n71 c72) (dv_assign (T rfl rfl)) ?_
       refine lw_nil ?_
       refine rk_inBlock ?_
       have hvn : (0 : Int) ≤ valB (2 ^ 32) L := valB_nonneg (by decide) hok
       have hz77 : ((sg false (valB (2 ^ 32) L)).natAbs : Int) = X / 10 := by simp only [sg_false]; omega
       have H78 := (e75.blk (n65.ext.blk H51))
       exact ih10 (((X / 10)).toNat) _ _ (by rw [hd20]; omega) ⟨A70, n71, c72, (X / 10), ((([(48 + r) % 256]) ++ M)), rfl, f34, f35, rfl, rfl, E76, H78, (Wc.eq hn73.wc hz77), (by have h := txt_step (by omega) hM; rw [show ((48 + r) % 256 : Int) = 48 + X % 10 by omega]; exact h), (by omega)⟩
   · refine rk_cf (T rfl (congrArg Value.bool (decide_eq_false hb21))) ?_
     refine rk_exit rfl ?_
     refine rk_seq ?_
     refine rk_seq ?_
     have hX0 : X = 0 := by omega
     have hM2 := hM
     rw [hX0, show (0 : Int).toNat = 0 from rfl, dg_zero, List.reverse_nil, List.nil_append] at hM2
     refine rk_reg ?_
     refine lw_v (.pointer (some ⟨b1, 0, none⟩)) (dv_fieldAddr (a := ⟨b1, 0, none⟩) (a' := ⟨b1, 0, none⟩) fo65_0 (T rfl f13) rfl) ?_
     refine lw_v (.bool na) (dv_load1 (b := b1) (o := 0) agt4 (T rfl rfl) H18 rfl) ?_
     refine lw_nil ?_
     rcases Bool.eq_false_or_eq_true (na) with hb79 | hb79
     · refine rk_ct (T rfl (congrArg Value.bool hb79)) ?_
       refine rk_seq ?_
       refine rk_reg ?_
       refine lw_v (.string (bOf M)) (dv_move (T rfl f15)) ?_
       refine lw_v (.string (bOf ([45] ++ M))) (dv_addS (L := [45]) (M := M) C (T rfl rfl) (by simp; omega)) ?_
       refine lw_v (.string (bOf ([45] ++ M))) (dv_assign (T rfl rfl)) ?_
       refine lw_nil ?_
       refine rk_ret Try.func67 (v := .string (bOf ([45] ++ M))) (res1 Try.results67 (rv_tmp rfl rfl)) ⟨_, rfl, ?_⟩
       have hp0 := ha.wc.pos
       have hneg := ha.neg_iff
       exact ⟨congrArg (fun l => Value.string (bOf l)) (by have h1 := txt_top hM2 (by omega); rw [if_pos (hneg.1 (by assumption))] at h1; exact h1), E17⟩
     · refine rk_cf (T rfl (congrArg Value.bool hb79)) ?_
       refine rk_skip ?_
       refine rk_seq ?_
       refine rk_reg ?_
       refine lw_v (.string (bOf M)) (dv_move (T rfl f15)) ?_
       refine lw_v (.string (bOf M)) (dv_assign (T rfl rfl)) ?_
       refine lw_nil ?_
       refine rk_ret Try.func67 (v := .string (bOf M)) (res1 Try.results67 (rv_tmp rfl rfl)) ⟨_, rfl, ?_⟩
       have hp0 := ha.wc.pos
       have hneg := ha.neg_iff
       exact ⟨congrArg (fun l => Value.string (bOf l)) (by have h1 := txt_top hM2 (by omega); rw [if_neg (fun hh => by have := hneg.2 hh; simp_all)] at h1; exact h1), E17⟩
end Go.Proofs.Ytfmkadgjoechnaa.W
