/- Walks and plain mathematics, packed by a program of this session: declarations that the rows reach. -/
import Derived.Shelf.Small.Bits
import Derived.Shelf.Strconv.Itoa0
import Derived.Shelf.Bits.Mul64
import Derived.Ground.SlgnProg
import Derived.Shelf.SlicesG.Turned
import Derived.Shelf.SlicesE.Clone
import Derived.Shelf.SortG.Plain
import Derived.Test.YtmbpomcbdopgnaaGreatProg
import Derived.Test.YtmbpomcbdopgnaaGreatPsd
set_option linter.unusedVariables false
set_option linter.unusedSimpArgs false
namespace Go.Proofs.YtmbpomcbdopgnaaGreat.W
open Go Go.RowKit Go.Proofs.YtmbpomcbdopgnaaGreat.Fw
attribute [local irreducible] RunK LW AW DV OE Ct
theorem agt49 : aggB Tryz.prog 49 = some false := by kernel_rfl
theorem agt51 : aggB Tryz.prog 51 = some true := by kernel_rfl
theorem agt97 : aggB Tryz.prog 97 = some false := by kernel_rfl
theorem co62 : callOk Tryz.prog 62 = true := by kernel_rfl
theorem co64 : callOk Tryz.prog 64 = true := by kernel_rfl
theorem co65 : callOk Tryz.prog 65 = true := by kernel_rfl
theorem fb51_1 : fieldB Tryz.prog 51 1 = some (1, 49) := by kernel_rfl
theorem fo51_0 : fieldOffB Tryz.prog 51 0 = some 0 := by kernel_rfl
theorem fo51_1 : fieldOffB Tryz.prog 51 1 = some 1 := by kernel_rfl
theorem in97 : (Tryz.prog.info? 97).map (fun i => (i.zero, i.size, i.bytes)) = some (some (.int .u32 0), 1, 4) := by kernel_rfl
theorem pl51 : placesB Tryz.prog 51 = some [(0, 1), (1, 1)] := by kernel_rfl
theorem sz51 : sizeB Tryz.prog 51 = some 2 := by kernel_rfl
theorem sz97 : sizeB Tryz.prog 97 = some 1 := by kernel_rfl
theorem ui90 : Tryz.prog.underlying 90 = some (.int .u64) := by kernel_rfl
theorem ui97 : Tryz.prog.underlying 97 = some (.int .u32) := by kernel_rfl
theorem us49 : Tryz.prog.underlying 49 = some (.slice 97) := by kernel_rfl
theorem zc51 : zcB Tryz.prog 51 = some [.bool false, .slice none 0 0] := by kernel_rfl
theorem zc97 : zcB Tryz.prog 97 = some [.int .u32 0] := by kernel_rfl
theorem ze51 : zeroB Tryz.prog 51 = some #[.bool false, .slice none 0 0] := by kernel_rfl
set_option maxHeartbeats 1000000 in
theorem l1Trim_ok {w : World} {neg : Bool} {A : Option Addr} {c : Nat} {xs : List Int} (hx : Wd w 97 .u32 A xs) (hc : xs.length ≤ c) (hL : xs.length ≤ 1000000) : Ct Tryz.prog 62 [.bool neg, .slice A (xs.length) c] w fun v w1 => v = (if (trimL xs).length = 0 then .agg #[.bool false, .slice none 0 0] else .agg #[.bool neg, .slice A (trimL xs).length c]) ∧ Ext w w1 := by
 refine ct_run (n := 28) Tryz.func62 rfl Tryz.ntmps62 rfl ?_
 have E0 : Below w.heap.size w w := Below.refl _ _
 refine rk_seq <| rk_reg <| lw_e (oe_alloc ze51 ?_)
 intro b1 w2 n3
 have N4 : w.heap.size ≤ b1 := n3.eq ▸ E0.size
 have E5 := below_ext E0 E0.size n3.ext
 refine qN <| lw_v (.slice A (xs.length) c) (dv_move (T rfl rfl)) <| lw_v (qi (xs.length : Int)) (dv_len (ad := A) (l := xs.length) (c := c) us49 (T rfl rfl)) <| lw_v (qi (xs.length : Int)) (dv_assign (T rfl rfl)) <| lw_nil <| rk_seq <| rk_block <| rk_loop (fun dm_ fr wl => ∃ (n : Nat), dm_ = n ∧ fr 0 = .bool neg ∧ fr 1 = .slice A (xs.length) c ∧ fr 4 = .pointer (some ⟨b1, 0, none⟩) ∧ fr 5 = qi (n : Int) ∧ Below w.heap.size w wl ∧ wl.heap[b1]? = some (.cells #[.bool false, .slice none 0 0] 51) ∧ (n ≤ xs.length) ∧ (trimL (xs.take n) = trimL xs)) (xs.length) ⟨xs.length, rfl, rfl, rfl, rfl, (vi (by omega)), E5, n3.blk, (Nat.le_refl _), (by rw [List.take_of_length_le (Nat.le_refl _)])⟩ ?_
 intro d10 fr9 w6 hI7 ih8
 obtain ⟨n, hd17, f11, f12, f13, f14, E15, H16, hn, ht⟩ := hI7
 refine rk_seq <| rk_seq <| rk_reg <| lw_v (qi (n : Int)) (dv_move (T rfl f14)) <| lw_v (qd (0 < (n : Int))) (dv_gtr (a := (n : Int)) (b := 0) (T rfl rfl) C) <| lw_v (qd (0 < (n : Int))) (dv_move (T rfl rfl)) ?_
 by_cases hb18 : 0 < ((n : Int))
 · refine lw_vy (.slice A (xs.length) c) (d := 10) rfl rfl (qT hb18) (dv_move (T rfl f12)) <| lw_vy (qi (n : Int)) (d := 10) rfl rfl (qT hb18) (dv_move (T rfl f14)) <| lw_vy (qi ((n : Int) - 1)) (d := 10) rfl rfl (qT hb18) (dv_sub (a := (n : Int)) (b := 1) (z := (n : Int) - 1) (T rfl rfl) C (wr_i64 (by omega) (by omega))) ?_
   have h19 := (hx.ext E15)
   obtain ⟨g20, o21, rfl⟩ := Wd.at h19 (by first | omega | (simp; done) | (simp; omega))
   refine lw_vy (.pointer (some ⟨g20, o21 + ((n) - 1), none⟩)) (d := 10) rfl rfl (qT hb18) (dv_indexW (g := g20) (o := o21) (l := xs.length) (c := c) (i := ((n) - 1)) (j := (n : Int) - 1) us49 sz97 (T rfl rfl) (T rfl rfl) (by omega) (by first | omega | (simp; done) | (simp; omega))) <| lw_vy (.int .u32 (xs.getD (((n) - 1)) 0)) (d := 10) rfl rfl (qT hb18) (dv_load agt97 (T rfl rfl) (Wd.cell h19 (by first | omega | (simp; done) | (simp; omega)))) <| lw_vy (qd ((xs.getD (((n) - 1)) 0) = 0)) (d := 10) rfl rfl (qT hb18) (dv_eql (a := xs.getD (((n) - 1)) 0) (b := 0) (T rfl rfl) C) <| lw_v (qd ((xs.getD (((n) - 1)) 0) = 0)) (dv_pick_t (T rfl (qT hb18)) (T rfl rfl)) <| lw_nil ?_
   by_cases hb22 : (xs.getD (((n) - 1)) 0) = 0
   · refine rk_ct (T rfl (qT hb22)) <| rk_skip <| rk_block <| rk_reg <| lw_v (qi (n : Int)) (dv_move (T rfl f14)) <| lw_v (qi ((n : Int) - 1)) (dv_sub (a := (n : Int)) (b := 1) (z := (n : Int) - 1) (T rfl rfl) C (wr_i64 (by omega) (by omega))) <| lw_v (qi ((n : Int) - 1)) (dv_assign (T rfl rfl)) <| lw_nil <| rk_inBlock ?_
     exact ih8 (n - 1) _ _ (by rw [hd17]; omega) ⟨(n - 1), rfl, f11, f12, f13, (vi (by omega)), E15, H16, (by omega), (by rw [← ht, trim_less xs n (by omega) hn (by rw [getD_take _ _ _ (by omega)]; first | assumption | simpa using ‹_›)])⟩
   · refine rk_cf (T rfl (qF hb22)) <| rk_exit rfl <| rk_seq <| rk_seq <| rk_reg <| lw_v (qi (n : Int)) (dv_move (T rfl f14)) <| lw_v (qd ((n : Int) = 0)) (dv_eql (a := (n : Int)) (b := 0) (T rfl rfl) C) <| lw_nil ?_
     by_cases hb23 : ((n : Int)) = 0
     · refine rk_ct (T rfl (qT hb23)) <| rk_seq <| rk_reg <| lw_v (.agg #[.bool false, .slice none 0 0]) (dv_build (pv := []) (l := [.bool false, .slice none 0 0]) zc51 pl51 trivial rfl) <| lw_e (oe_store (v := .agg #[.bool false, .slice none 0 0]) (vs := [.bool false, .slice none 0 0]) (l := [.bool false, .slice none 0 0]) (T rfl f13) (T rfl rfl) sz51 rfl rfl rfl H16 rfl ?_)
       intro w24 s25 H26
       have E27 := below_st E15 N4 s25
       refine lw_nil <| rk_ret Tryz.func62 (v := .agg #[.bool false, .slice none 0 0]) (res1 Tryz.results62 (rv_cells (l := [.bool false, .slice none 0 0]) agt51 sz51 rfl f13 H26 rfl)) ⟨_, rfl, ?_⟩
       have hl := trim_done xs n hn ht (by rw [getD_take_or]; omega)
       exact ⟨by rw [hl]; rw [if_pos (by omega)], E27⟩
     · refine rk_cf (T rfl (qF hb23)) <| rk_skip <| rk_seq <| rk_reg <| lw_v (.bool neg) (dv_move (T rfl f11)) <| lw_v (.slice (some ⟨g20, o21, none⟩) (xs.length) c) (dv_move (T rfl f12)) <| lw_v (qi (n : Int)) (dv_move (T rfl f14)) <| lw_v (.slice (some ⟨g20, o21, none⟩) n c) (dv_sliceH (ad := (some ⟨g20, o21, none⟩)) (l := xs.length) (c := c) (i := n) (j := (n : Int)) us49 sz97 (T rfl rfl) (T rfl rfl) (by omega) (by first | omega | (simp; done) | (simp; omega))) <| lw_v (.agg #[.bool neg, .slice (some ⟨g20, o21, none⟩) n c]) (dv_build (pv := [(0, .bool neg), (1, .slice (some ⟨g20, o21, none⟩) n c)]) (l := [.bool neg, .slice (some ⟨g20, o21, none⟩) n c]) zc51 pl51 ⟨rfl, (T rfl rfl), ⟨rfl, (T rfl rfl), trivial⟩⟩ rfl) <| lw_e (oe_store (v := .agg #[.bool neg, .slice (some ⟨g20, o21, none⟩) n c]) (vs := [.bool neg, .slice (some ⟨g20, o21, none⟩) n c]) (l := [.bool neg, .slice (some ⟨g20, o21, none⟩) n c]) (T rfl f13) (T rfl rfl) sz51 rfl rfl rfl H16 rfl ?_)
       intro w28 s29 H30
       have E31 := below_st E15 N4 s29
       refine lw_nil <| rk_ret Tryz.func62 (v := .agg #[.bool neg, .slice (some ⟨g20, o21, none⟩) n c]) (res1 Tryz.results62 (rv_cells (l := [.bool neg, .slice (some ⟨g20, o21, none⟩) n c]) agt51 sz51 rfl f13 H30 rfl)) ⟨_, rfl, ?_⟩
       have hl := trim_done xs n hn ht (by rw [getD_take_or]; omega)
       exact ⟨by rw [hl]; rw [if_neg (by omega)], E31⟩
 · refine lw_no (d := 10) rfl rfl (qF hb18) <| lw_no (d := 10) rfl rfl (qF hb18) <| lw_no (d := 10) rfl rfl (qF hb18) <| lw_no (d := 10) rfl rfl (qF hb18) <| lw_no (d := 10) rfl rfl (qF hb18) <| lw_no (d := 10) rfl rfl (qF hb18) <| lw_v (.bool false) (dv_pick_f (T rfl (qF hb18)) C) <| lw_nil <| rk_cf (T rfl rfl) <| rk_exit rfl <| rk_seq ?_
   refine rk_seq <| rk_reg <| lw_v (qi (n : Int)) (dv_move (T rfl f14)) <| lw_v (qd ((n : Int) = 0)) (dv_eql (a := (n : Int)) (b := 0) (T rfl rfl) C) <| lw_nil ?_
   by_cases hb32 : ((n : Int)) = 0
   · refine rk_ct (T rfl (qT hb32)) <| rk_seq <| rk_reg <| lw_v (.agg #[.bool false, .slice none 0 0]) (dv_build (pv := []) (l := [.bool false, .slice none 0 0]) zc51 pl51 trivial rfl) <| lw_e (oe_store (v := .agg #[.bool false, .slice none 0 0]) (vs := [.bool false, .slice none 0 0]) (l := [.bool false, .slice none 0 0]) (T rfl f13) (T rfl rfl) sz51 rfl rfl rfl H16 rfl ?_)
     intro w33 s34 H35
     have E36 := below_st E15 N4 s34
     refine lw_nil <| rk_ret Tryz.func62 (v := .agg #[.bool false, .slice none 0 0]) (res1 Tryz.results62 (rv_cells (l := [.bool false, .slice none 0 0]) agt51 sz51 rfl f13 H35 rfl)) ⟨_, rfl, ?_⟩
     have hl := trim_done xs n hn ht (by rw [getD_take_or]; omega)
     exact ⟨by rw [hl]; rw [if_pos (by omega)], E36⟩
   · refine rk_cf (T rfl (qF hb32)) <| rk_skip <| rk_seq <| rk_reg <| lw_v (.bool neg) (dv_move (T rfl f11)) <| lw_v (.slice A (xs.length) c) (dv_move (T rfl f12)) <| lw_v (qi (n : Int)) (dv_move (T rfl f14)) <| lw_v (.slice A n c) (dv_sliceH (ad := A) (l := xs.length) (c := c) (i := n) (j := (n : Int)) us49 sz97 (T rfl rfl) (T rfl rfl) (by omega) (by first | omega | (simp; done) | (simp; omega))) <| lw_v (.agg #[.bool neg, .slice A n c]) (dv_build (pv := [(0, .bool neg), (1, .slice A n c)]) (l := [.bool neg, .slice A n c]) zc51 pl51 ⟨rfl, (T rfl rfl), ⟨rfl, (T rfl rfl), trivial⟩⟩ rfl) <| lw_e (oe_store (v := .agg #[.bool neg, .slice A n c]) (vs := [.bool neg, .slice A n c]) (l := [.bool neg, .slice A n c]) (T rfl f13) (T rfl rfl) sz51 rfl rfl rfl H16 rfl ?_)
     intro w37 s38 H39
     have E40 := below_st E15 N4 s38
     refine lw_nil <| rk_ret Tryz.func62 (v := .agg #[.bool neg, .slice A n c]) (res1 Tryz.results62 (rv_cells (l := [.bool neg, .slice A n c]) agt51 sz51 rfl f13 H39 rfl)) ⟨_, rfl, ?_⟩
     have hl := trim_done xs n hn ht (by rw [getD_take_or]; omega)
     exact ⟨by rw [hl]; rw [if_neg (by omega)], E40⟩
theorem l1Trim_num {w : World} {neg : Bool} {A : Option Addr} {l c s : Nat} {x : Int} (h : Ws 32 97 .u32 w A l c x) (hl : l ≤ 1000000) (hs : x < 2 ^ s) : Ct Tryz.prog 62 [.bool neg, .slice A l c] w fun v w1 =>
 ∃ nb A' n c', v = .agg #[.bool nb, .slice A' n c'] ∧ Ext w w1 ∧ Num 32 97 .u32 w1 nb A' n c' (sg neg x) s := by
 obtain ⟨xs, rfl, hc, hw, ho, hv⟩ := h
 refine (l1Trim_ok (neg := neg) hw hc hl).mono fun v w1 ⟨h1, h2⟩ => ?_
 have hc' := trimL_canon xs
 have hcp := canon_pos (B := 2 ^ 32) (by decide) (trimL_ok ho) hc'
 rw [trimL_val, ← hv] at hcp
 have h0 := valB_nonneg (B := 2 ^ 32) (by decide) ho
 by_cases hz : (trimL xs).length = 0
 · rw [if_pos hz] at h1
   have hx0 : x = 0 := by omega
   subst hx0
   exact ⟨_, _, _, _, h1, h2, Num.zero.to (by cases neg <;> simp [sg]) (Nat.le_refl _)⟩
 · rw [if_neg hz] at h1
   exact ⟨_, _, _, _, h1, h2, Wc.num ⟨trimL xs, rfl, Nat.le_trans (trimL_len xs) hc, (hw.ext h2).trim, trimL_ok ho, hc', by rw [hv, trimL_val]⟩ (fun hn => by omega) rfl hs⟩
set_option maxHeartbeats 1000000 in
theorem l1SubAbs_ok {w : World} {A D : Option Addr} {c d : Nat} {xs ys : List Int} (hx : Wd w 97 .u32 A xs) (hy : Wd w 97 .u32 D ys) (hc : xs.length ≤ c) (hd : ys.length ≤ d) (ox : okW (2 ^ 32) xs) (oy : okW (2 ^ 32) ys) (lx : xs.length ≤ 500000) (ly : ys.length ≤ 500000) (hyx : ys.length ≤ xs.length) (hle : valB (2 ^ 32) ys ≤ valB (2 ^ 32) xs) : Ct Tryz.prog 64 [.slice A (xs.length) c, .slice D (ys.length) d] w fun v w1 => ∃ A' n c', v = .slice A' n c' ∧ Ext w w1 ∧ Ws 32 97 .u32 w1 A' n c' (valB (2 ^ 32) xs - valB (2 ^ 32) ys) ∧ n = xs.length ∧ ∀ g o, A' = some ⟨g, o, none⟩ → w.heap.size ≤ g := by
 refine ct_run (n := 49) Tryz.func64 rfl Tryz.ntmps64 rfl ?_
 have E0 : Below w.heap.size w w := Below.refl _ _
 refine rk_seq <| rk_reg <| lw_v (.slice none 0 0) (dv_assign C) <| qN <| lw_v (.slice A (xs.length) c) (dv_move (T rfl rfl)) <| lw_v (qi (xs.length : Int)) (dv_len (ad := A) (l := xs.length) (c := c) us49 (T rfl rfl)) <| lw_e (oe_makeCapW (c := xs.length) (j := (xs.length : Int)) us49 in97 C (T rfl rfl) (by omega) (by first | omega | (simp; done) | (simp; omega)) (by first | omega | (simp; done) | (simp; omega)) ?_)
 intro b1 w2 n3 hO4
 have N5 : w.heap.size ≤ b1 := n3.eq ▸ E0.size
 have E6 := below_ext E0 E0.size n3.ext
 refine lw_v (.slice (some ⟨b1, 0, none⟩) (([] : List Int).length) (xs.length)) (dv_assign (T rfl rfl)) <| qN <| lw_v (qu 0) (dv_assign C) <| lw_nil <| rk_seq <| rk_seq <| rk_reg <| lw_v (qi 0) (dv_assign C) <| lw_nil ?_
 refine rk_block <| rk_loop (fun dm_ fr wl => ∃ (i : Nat) (L : List Int) (Ad : Option Addr) (cp : Nat) (cy : Int), dm_ = xs.length - i ∧ fr 0 = .slice A (xs.length) c ∧ fr 1 = .slice D (ys.length) d ∧ fr 4 = .slice none 0 0 ∧ fr 5 = .slice Ad (L.length) cp ∧ fr 6 = qu cy ∧ fr 7 = qi (i : Int) ∧ Below w.heap.size w wl ∧ Ow wl b1 97 .u32 Ad cp L ∧ (i ≤ xs.length) ∧ (L.length = i) ∧ (okW (2 ^ 32) L) ∧ (0 ≤ cy ∧ cy ≤ 1) ∧ (valB (2 ^ 32) L - cy * (2 ^ 32) ^ i = valB (2 ^ 32) (xs.take i) - valB (2 ^ 32) (ys.take i))) (xs.length - 0) ⟨0, ([] : List Int), (some ⟨b1, 0, none⟩), xs.length, 0, rfl, rfl, rfl, rfl, rfl, rfl, (vi (by omega)), E6, hO4, (Nat.zero_le _), rfl, okW.nil, (by decide), (by simp [valB])⟩ ?_
 intro d11 fr10 w7 hI8 ih9
 obtain ⟨i, L, Ad, cp, cy, hd20, f12, f13, f14, f15, f16, f17, E18, h19, hi, hl, hok, hcy, hv⟩ := hI8
 have bxs := okW.getD ox (by decide) i
 have gxs := getD_ge xs i
 have bys := okW.getD oy (by decide) i
 have gys := getD_ge ys i
 refine rk_seq <| rk_seq <| rk_reg <| lw_v (qi (i : Int)) (dv_move (T rfl f17)) <| lw_v (.slice A (xs.length) c) (dv_move (T rfl f12)) <| lw_v (qi (xs.length : Int)) (dv_len (ad := A) (l := xs.length) (c := c) us49 (T rfl rfl)) <| lw_v (qd ((i : Int) < (xs.length : Int))) (dv_lss (a := (i : Int)) (b := (xs.length : Int)) (T rfl rfl) (T rfl rfl)) <| lw_nil ?_
 by_cases hb21 : ((i : Int)) < ((xs.length : Int))
 · refine rk_ct (T rfl (qT hb21)) <| rk_skip <| rk_seq <| rk_block <| rk_seq <| rk_reg <| lw_v (.slice A (xs.length) c) (dv_move (T rfl f12)) <| lw_v (qi (i : Int)) (dv_move (T rfl f17)) ?_
   have h22 := (hx.ext E18)
   obtain ⟨g23, o24, rfl⟩ := Wd.at h22 (by first | omega | (simp; done) | (simp; omega))
   refine lw_v (.pointer (some ⟨g23, o24 + i, none⟩)) (dv_indexW (g := g23) (o := o24) (l := xs.length) (c := c) (i := i) (j := (i : Int)) us49 sz97 (T rfl rfl) (T rfl rfl) (by omega) (by first | omega | (simp; done) | (simp; omega))) <| lw_v (.int .u32 (xs.getD i 0)) (dv_load agt97 (T rfl rfl) (Wd.cell h22 (by first | omega | (simp; done) | (simp; omega)))) <| lw_v (qu (xs.getD i 0)) (dv_conv (a := xs.getD i 0) (z := xs.getD i 0) ui97 ui23 (T rfl rfl) (wn_u64 (by omega) (by omega))) <| lw_v (qu (xs.getD i 0)) (dv_assign (T rfl rfl)) <| qN <| lw_v (qu cy) (dv_move (T rfl f16)) <| lw_v (qu cy) (dv_assign (T rfl rfl)) <| lw_nil <| rk_seq ?_
   refine rk_seq <| rk_reg <| lw_v (qi (i : Int)) (dv_move (T rfl f17)) <| lw_v (.slice D (ys.length) d) (dv_move (T rfl f13)) <| lw_v (qi (ys.length : Int)) (dv_len (ad := D) (l := ys.length) (c := d) us49 (T rfl rfl)) <| lw_v (qd ((i : Int) < (ys.length : Int))) (dv_lss (a := (i : Int)) (b := (ys.length : Int)) (T rfl rfl) (T rfl rfl)) <| lw_nil ?_
   by_cases hb25 : ((i : Int)) < ((ys.length : Int))
   · refine rk_ct (T rfl (qT hb25)) <| rk_reg <| lw_v (qu cy) (dv_move (T rfl rfl)) <| lw_v (.slice D (ys.length) d) (dv_move (T rfl f13)) <| lw_v (qi (i : Int)) (dv_move (T rfl f17)) ?_
     have h26 := (hy.ext E18)
     obtain ⟨g27, o28, rfl⟩ := Wd.at h26 (by first | omega | (simp; done) | (simp; omega))
     refine lw_v (.pointer (some ⟨g27, o28 + i, none⟩)) (dv_indexW (g := g27) (o := o28) (l := ys.length) (c := d) (i := i) (j := (i : Int)) us49 sz97 (T rfl rfl) (T rfl rfl) (by omega) (by first | omega | (simp; done) | (simp; omega))) <| lw_v (.int .u32 (ys.getD i 0)) (dv_load agt97 (T rfl rfl) (Wd.cell h26 (by first | omega | (simp; done) | (simp; omega)))) <| lw_v (qu (ys.getD i 0)) (dv_conv (a := ys.getD i 0) (z := ys.getD i 0) ui97 ui23 (T rfl rfl) (wn_u64 (by omega) (by omega))) <| lw_v (qu (cy + (ys.getD i 0))) (dv_add (a := cy) (b := ys.getD i 0) (z := cy + (ys.getD i 0)) (T rfl rfl) (T rfl rfl) (wn_u64 (by omega) (by omega))) <| lw_v (qu (cy + (ys.getD i 0))) (dv_assign (T rfl rfl)) <| qN <| lw_v (qu 0) (dv_assign C) <| lw_nil <| rk_seq ?_
     refine rk_seq <| rk_reg <| lw_v (qu (xs.getD i 0)) (dv_move (T rfl rfl)) <| lw_v (qu (cy + (ys.getD i 0))) (dv_move (T rfl rfl)) <| lw_v (qd ((xs.getD i 0) < (cy + (ys.getD i 0)))) (dv_lss (a := xs.getD i 0) (b := cy + (ys.getD i 0)) (T rfl rfl) (T rfl rfl)) <| lw_nil ?_
     by_cases hb29 : (xs.getD i 0) < (cy + (ys.getD i 0))
     · refine rk_ct (T rfl (qT hb29)) <| rk_seq <| rk_reg <| lw_v (qu (xs.getD i 0)) (dv_move (T rfl rfl)) <| lw_v (qu ((xs.getD i 0) + 4294967296)) (dv_add (a := xs.getD i 0) (b := 4294967296) (z := (xs.getD i 0) + 4294967296) (T rfl rfl) C (wn_u64 (by omega) (by omega))) <| lw_v (qu ((xs.getD i 0) + 4294967296)) (dv_assign (T rfl rfl)) <| lw_nil <| rk_reg <| lw_v (qu 1) (dv_assign C) <| lw_nil <| rk_reg ?_
       refine lw_v (.slice Ad (L.length) cp) (dv_move (T rfl f15)) <| lw_v (qu ((xs.getD i 0) + 4294967296)) (dv_move (T rfl rfl)) <| lw_v (qu (cy + (ys.getD i 0))) (dv_move (T rfl rfl)) <| lw_v (qu (((xs.getD i 0) + 4294967296) - (cy + (ys.getD i 0)))) (dv_sub (a := (xs.getD i 0) + 4294967296) (b := cy + (ys.getD i 0)) (z := ((xs.getD i 0) + 4294967296) - (cy + (ys.getD i 0))) (T rfl rfl) (T rfl rfl) (wn_u64 (by omega) (by omega))) <| lw_v (.int .u32 ((((xs.getD i 0) + 4294967296) - (cy + (ys.getD i 0))) % 4294967296)) (dv_conv (a := ((xs.getD i 0) + 4294967296) - (cy + (ys.getD i 0))) (z := (((xs.getD i 0) + 4294967296) - (cy + (ys.getD i 0))) % 4294967296) ui23 ui97 (T rfl rfl) (wr_u32 _)) <| lw_e (oe_buildSlice (pv := [(0, .int .u32 ((((xs.getD i 0) + 4294967296) - (cy + (ys.getD i 0))) % 4294967296))]) (init := [.int .u32 0]) (l := [.int .u32 ((((xs.getD i 0) + 4294967296) - (cy + (ys.getD i 0))) % 4294967296)]) us49 sz97 rfl rfl zc97 (by kernel_rfl) ⟨rfl, (T rfl rfl), trivial⟩ rfl ?_)
       intro b30 w31 n32
       have N33 : w.heap.size ≤ b30 := n32.eq ▸ E18.size
       have E34 := below_ext E18 E18.size n32.ext
       have h35 := (h19.ext n32.ext)
       refine lw_e (oe_appendW (base := b1) (L := L) (M := [(((xs.getD i 0) + 4294967296) - (cy + (ys.getD i 0))) % 4294967296]) (m := 1) us49 in97 (T rfl rfl) (T rfl rfl) h35 (Wd.ownW (xs := [(((xs.getD i 0) + 4294967296) - (cy + (ys.getD i 0))) % 4294967296]) n32.blk) rfl (by first | omega | (simp; done) | (simp; omega)) (by first | omega | (simp; done) | (simp; omega)) ?_)
       intro Ad36 c37 w38 hO39 x40
       have E41 := below_bl E34 N5 x40
       refine lw_v (.slice Ad36 ((L ++ [(((xs.getD i 0) + 4294967296) - (cy + (ys.getD i 0))) % 4294967296]).length) c37) (dv_assign (T rfl rfl)) <| lw_nil <| rk_inBlock <| rk_reg <| lw_v (qi (i : Int)) (dv_move (T rfl f17)) <| lw_v (qi ((i : Int) + 1)) (dv_add (a := (i : Int)) (b := 1) (z := (i : Int) + 1) (T rfl rfl) C (wr_i64 (by omega) (by omega))) <| lw_v (qi ((i : Int) + 1)) (dv_assign (T rfl rfl)) <| lw_nil ?_
       exact ih9 (xs.length - (i + 1)) _ _ (by rw [hd20]; omega) ⟨(i + 1), (L ++ [(((xs.getD i 0) + 4294967296) - (cy + (ys.getD i 0))) % 4294967296]), Ad36, c37, 1, rfl, f12, f13, f14, rfl, rfl, (vi (by omega)), E41, hO39, (by omega), (by simp [hl]), (okW.snoc hok (by omega) (by omega)), (by omega), (sub_app hl hv (by omega))⟩
     · refine rk_cf (T rfl (qF hb29)) <| rk_skip <| rk_reg <| lw_v (.slice Ad (L.length) cp) (dv_move (T rfl f15)) <| lw_v (qu (xs.getD i 0)) (dv_move (T rfl rfl)) <| lw_v (qu (cy + (ys.getD i 0))) (dv_move (T rfl rfl)) <| lw_v (qu ((xs.getD i 0) - (cy + (ys.getD i 0)))) (dv_sub (a := xs.getD i 0) (b := cy + (ys.getD i 0)) (z := (xs.getD i 0) - (cy + (ys.getD i 0))) (T rfl rfl) (T rfl rfl) (wn_u64 (by omega) (by omega))) <| lw_v (.int .u32 (((xs.getD i 0) - (cy + (ys.getD i 0))) % 4294967296)) (dv_conv (a := (xs.getD i 0) - (cy + (ys.getD i 0))) (z := ((xs.getD i 0) - (cy + (ys.getD i 0))) % 4294967296) ui23 ui97 (T rfl rfl) (wr_u32 _)) <| lw_e (oe_buildSlice (pv := [(0, .int .u32 (((xs.getD i 0) - (cy + (ys.getD i 0))) % 4294967296))]) (init := [.int .u32 0]) (l := [.int .u32 (((xs.getD i 0) - (cy + (ys.getD i 0))) % 4294967296)]) us49 sz97 rfl rfl zc97 (by kernel_rfl) ⟨rfl, (T rfl rfl), trivial⟩ rfl ?_)
       intro b42 w43 n44
       have N45 : w.heap.size ≤ b42 := n44.eq ▸ E18.size
       have E46 := below_ext E18 E18.size n44.ext
       have h47 := (h19.ext n44.ext)
       refine lw_e (oe_appendW (base := b1) (L := L) (M := [((xs.getD i 0) - (cy + (ys.getD i 0))) % 4294967296]) (m := 1) us49 in97 (T rfl rfl) (T rfl rfl) h47 (Wd.ownW (xs := [((xs.getD i 0) - (cy + (ys.getD i 0))) % 4294967296]) n44.blk) rfl (by first | omega | (simp; done) | (simp; omega)) (by first | omega | (simp; done) | (simp; omega)) ?_)
       intro Ad48 c49 w50 hO51 x52
       have E53 := below_bl E46 N5 x52
       refine lw_v (.slice Ad48 ((L ++ [((xs.getD i 0) - (cy + (ys.getD i 0))) % 4294967296]).length) c49) (dv_assign (T rfl rfl)) <| lw_nil <| rk_inBlock <| rk_reg <| lw_v (qi (i : Int)) (dv_move (T rfl f17)) <| lw_v (qi ((i : Int) + 1)) (dv_add (a := (i : Int)) (b := 1) (z := (i : Int) + 1) (T rfl rfl) C (wr_i64 (by omega) (by omega))) <| lw_v (qi ((i : Int) + 1)) (dv_assign (T rfl rfl)) <| lw_nil ?_
       exact ih9 (xs.length - (i + 1)) _ _ (by rw [hd20]; omega) ⟨(i + 1), (L ++ [((xs.getD i 0) - (cy + (ys.getD i 0))) % 4294967296]), Ad48, c49, 0, rfl, f12, f13, f14, rfl, rfl, (vi (by omega)), E53, hO51, (by omega), (by simp [hl]), (okW.snoc hok (by omega) (by omega)), (by omega), (sub_app hl hv (by omega))⟩
   · refine rk_cf (T rfl (qF hb25)) <| rk_skip <| rk_seq <| rk_reg <| lw_v (qu 0) (dv_assign C) <| lw_nil <| rk_seq <| rk_seq <| rk_reg <| lw_v (qu (xs.getD i 0)) (dv_move (T rfl rfl)) <| lw_v (qu cy) (dv_move (T rfl rfl)) ?_
     refine lw_v (qd ((xs.getD i 0) < cy)) (dv_lss (a := xs.getD i 0) (b := cy) (T rfl rfl) (T rfl rfl)) <| lw_nil ?_
     by_cases hb54 : (xs.getD i 0) < cy
     · refine rk_ct (T rfl (qT hb54)) <| rk_seq <| rk_reg <| lw_v (qu (xs.getD i 0)) (dv_move (T rfl rfl)) <| lw_v (qu ((xs.getD i 0) + 4294967296)) (dv_add (a := xs.getD i 0) (b := 4294967296) (z := (xs.getD i 0) + 4294967296) (T rfl rfl) C (wn_u64 (by omega) (by omega))) <| lw_v (qu ((xs.getD i 0) + 4294967296)) (dv_assign (T rfl rfl)) <| lw_nil <| rk_reg <| lw_v (qu 1) (dv_assign C) <| lw_nil <| rk_reg ?_
       refine lw_v (.slice Ad (L.length) cp) (dv_move (T rfl f15)) <| lw_v (qu ((xs.getD i 0) + 4294967296)) (dv_move (T rfl rfl)) <| lw_v (qu cy) (dv_move (T rfl rfl)) <| lw_v (qu (((xs.getD i 0) + 4294967296) - cy)) (dv_sub (a := (xs.getD i 0) + 4294967296) (b := cy) (z := ((xs.getD i 0) + 4294967296) - cy) (T rfl rfl) (T rfl rfl) (wn_u64 (by omega) (by omega))) <| lw_v (.int .u32 ((((xs.getD i 0) + 4294967296) - cy) % 4294967296)) (dv_conv (a := ((xs.getD i 0) + 4294967296) - cy) (z := (((xs.getD i 0) + 4294967296) - cy) % 4294967296) ui23 ui97 (T rfl rfl) (wr_u32 _)) <| lw_e (oe_buildSlice (pv := [(0, .int .u32 ((((xs.getD i 0) + 4294967296) - cy) % 4294967296))]) (init := [.int .u32 0]) (l := [.int .u32 ((((xs.getD i 0) + 4294967296) - cy) % 4294967296)]) us49 sz97 rfl rfl zc97 (by kernel_rfl) ⟨rfl, (T rfl rfl), trivial⟩ rfl ?_)
       intro b55 w56 n57
       have N58 : w.heap.size ≤ b55 := n57.eq ▸ E18.size
       have E59 := below_ext E18 E18.size n57.ext
       have h60 := (h19.ext n57.ext)
       refine lw_e (oe_appendW (base := b1) (L := L) (M := [(((xs.getD i 0) + 4294967296) - cy) % 4294967296]) (m := 1) us49 in97 (T rfl rfl) (T rfl rfl) h60 (Wd.ownW (xs := [(((xs.getD i 0) + 4294967296) - cy) % 4294967296]) n57.blk) rfl (by first | omega | (simp; done) | (simp; omega)) (by first | omega | (simp; done) | (simp; omega)) ?_)
       intro Ad61 c62 w63 hO64 x65
       have E66 := below_bl E59 N5 x65
       refine lw_v (.slice Ad61 ((L ++ [(((xs.getD i 0) + 4294967296) - cy) % 4294967296]).length) c62) (dv_assign (T rfl rfl)) <| lw_nil <| rk_inBlock <| rk_reg <| lw_v (qi (i : Int)) (dv_move (T rfl f17)) <| lw_v (qi ((i : Int) + 1)) (dv_add (a := (i : Int)) (b := 1) (z := (i : Int) + 1) (T rfl rfl) C (wr_i64 (by omega) (by omega))) <| lw_v (qi ((i : Int) + 1)) (dv_assign (T rfl rfl)) <| lw_nil ?_
       exact ih9 (xs.length - (i + 1)) _ _ (by rw [hd20]; omega) ⟨(i + 1), (L ++ [(((xs.getD i 0) + 4294967296) - cy) % 4294967296]), Ad61, c62, 1, rfl, f12, f13, f14, rfl, rfl, (vi (by omega)), E66, hO64, (by omega), (by simp [hl]), (okW.snoc hok (by omega) (by omega)), (by omega), (sub_app hl hv (by omega))⟩
     · refine rk_cf (T rfl (qF hb54)) <| rk_skip <| rk_reg <| lw_v (.slice Ad (L.length) cp) (dv_move (T rfl f15)) <| lw_v (qu (xs.getD i 0)) (dv_move (T rfl rfl)) <| lw_v (qu cy) (dv_move (T rfl rfl)) <| lw_v (qu ((xs.getD i 0) - cy)) (dv_sub (a := xs.getD i 0) (b := cy) (z := (xs.getD i 0) - cy) (T rfl rfl) (T rfl rfl) (wn_u64 (by omega) (by omega))) <| lw_v (.int .u32 (((xs.getD i 0) - cy) % 4294967296)) (dv_conv (a := (xs.getD i 0) - cy) (z := ((xs.getD i 0) - cy) % 4294967296) ui23 ui97 (T rfl rfl) (wr_u32 _)) <| lw_e (oe_buildSlice (pv := [(0, .int .u32 (((xs.getD i 0) - cy) % 4294967296))]) (init := [.int .u32 0]) (l := [.int .u32 (((xs.getD i 0) - cy) % 4294967296)]) us49 sz97 rfl rfl zc97 (by kernel_rfl) ⟨rfl, (T rfl rfl), trivial⟩ rfl ?_)
       intro b67 w68 n69
       have N70 : w.heap.size ≤ b67 := n69.eq ▸ E18.size
       have E71 := below_ext E18 E18.size n69.ext
       have h72 := (h19.ext n69.ext)
       refine lw_e (oe_appendW (base := b1) (L := L) (M := [((xs.getD i 0) - cy) % 4294967296]) (m := 1) us49 in97 (T rfl rfl) (T rfl rfl) h72 (Wd.ownW (xs := [((xs.getD i 0) - cy) % 4294967296]) n69.blk) rfl (by first | omega | (simp; done) | (simp; omega)) (by first | omega | (simp; done) | (simp; omega)) ?_)
       intro Ad73 c74 w75 hO76 x77
       have E78 := below_bl E71 N5 x77
       refine lw_v (.slice Ad73 ((L ++ [((xs.getD i 0) - cy) % 4294967296]).length) c74) (dv_assign (T rfl rfl)) <| lw_nil <| rk_inBlock <| rk_reg <| lw_v (qi (i : Int)) (dv_move (T rfl f17)) <| lw_v (qi ((i : Int) + 1)) (dv_add (a := (i : Int)) (b := 1) (z := (i : Int) + 1) (T rfl rfl) C (wr_i64 (by omega) (by omega))) <| lw_v (qi ((i : Int) + 1)) (dv_assign (T rfl rfl)) <| lw_nil ?_
       exact ih9 (xs.length - (i + 1)) _ _ (by rw [hd20]; omega) ⟨(i + 1), (L ++ [((xs.getD i 0) - cy) % 4294967296]), Ad73, c74, 0, rfl, f12, f13, f14, rfl, rfl, (vi (by omega)), E78, hO76, (by omega), (by simp [hl]), (okW.snoc hok (by omega) (by omega)), (by omega), (sub_app hl hv (by omega))⟩
 · refine rk_cf (T rfl (qF hb21)) <| rk_exit rfl <| rk_seq <| rk_reg <| lw_v (.slice Ad (L.length) cp) (dv_move (T rfl f15)) <| lw_v (.slice Ad (L.length) cp) (dv_assign (T rfl rfl)) <| lw_nil <| rk_ret Tryz.func64 (v := .slice Ad (L.length) cp) (res1 Tryz.results64 (rv_tmp rfl rfl)) ⟨_, rfl, ?_⟩
   exact ⟨_, _, _, rfl, E18, ⟨L, rfl, h19.cap, h19.wd, hok, (sub_app_fin (by decide) hl (by omega) (by omega) hok hcy hle hv).symm⟩, by omega, fun q o hq => Nat.le_trans N5 (Ow.ge h19 hq)⟩
theorem l1SubAbs_ws {w : World} {A D : Option Addr} {l c l' d : Nat} {x y : Int} (h : Ws 32 97 .u32 w A l c x) (h' : Ws 32 97 .u32 w D l' d y) (hl : l ≤ 500000) (hl' : l' ≤ 500000) (hyx : l' ≤ l) (hle : y ≤ x) : Ct Tryz.prog 64 [.slice A l c, .slice D l' d] w fun v w1 =>
 ∃ A' n c', v = .slice A' n c' ∧ Ext w w1 ∧ Ws 32 97 .u32 w1 A' n c' (x - y) ∧ n = l ∧ ∀ g o, A' = some ⟨g, o, none⟩ → w.heap.size ≤ g := by
 obtain ⟨xs, rfl, hc, hw, ho, hv⟩ := h
 obtain ⟨ys, rfl, hc', hw', ho', hv'⟩ := h'
 subst hv; subst hv'
 exact l1SubAbs_ok hw hw' hc hc' ho ho' hl hl' hyx hle
set_option maxHeartbeats 1000000 in
theorem l1Left_ok {w : World} {A : Option Addr} {c N sx : Nat} {xs : List Int} (hx : Wd w 97 .u32 A xs) (hc : xs.length ≤ c) (ox : okW (2 ^ 32) xs) (lx : xs.length ≤ 400000) (ln : N ≤ 400000) (hsx : valB (2 ^ 32) xs < 2 ^ sx) : Ct Tryz.prog 65 [.slice A (xs.length) c, .int .i64 ((N : Int))] w fun v w1 => ∃ A' n c', v = .slice A' n c' ∧ Ext w w1 ∧ Wc 32 97 .u32 w1 A' n c' (2 ^ N * valB (2 ^ 32) xs) := by
 refine ct_run (n := 47) Tryz.func65 rfl Tryz.ntmps65 rfl ?_
 have E0 : Below w.heap.size w w := Below.refl _ _
 refine rk_seq <| rk_reg <| lw_v (.slice none 0 0) (dv_assign C) <| qN <| lw_v (qi (N : Int)) (dv_move (T rfl rfl)) <| lw_v (qi ((N : Int) / 32)) (dv_quo (a := (N : Int)) (b := 32) (z := (N : Int) / 32) (T rfl rfl) C (by decide) (quo_c (by omega) (by decide) (wr_i64 (by omega) (by omega)))) <| lw_e (oe_makeW (l := ((N) / 32)) (j := (N : Int) / 32) us49 in97 (T rfl rfl) (T rfl rfl) (by omega) (by first | omega | (simp; done) | (simp; omega)) (by first | omega | (simp; done) | (simp; omega)) ?_)
 intro b1 w2 n3
 have N4 : w.heap.size ≤ b1 := n3.eq ▸ E0.size
 have E5 := below_ext E0 E0.size n3.ext
 refine lw_v (.slice (some ⟨b1, 0, none⟩) (((N) / 32)) (((N) / 32))) (dv_assign (T rfl rfl)) <| qN <| lw_v (qi (N : Int)) (dv_move (T rfl rfl)) <| lw_v (qi ((N : Int) % 32)) (dv_rem (a := (N : Int)) (b := 32) (z := (N : Int) % 32) (T rfl rfl) C (by decide) (rem_c (by omega) rfl)) <| lw_v (qu ((N : Int) % 32)) (dv_conv (a := (N : Int) % 32) (z := (N : Int) % 32) ui2 ui90 (T rfl rfl) (wn_u64 (by omega) (by omega))) <| lw_v (qu ((N : Int) % 32)) (dv_assign (T rfl rfl)) <| qN ?_
 refine lw_v (qu 0) (dv_assign C) <| lw_nil <| rk_seq <| rk_seq <| rk_reg <| lw_v (qi 0) (dv_assign C) <| lw_nil <| rk_block <| rk_loop (fun dm_ fr wl => ∃ (i : Nat) (L : List Int) (Ad : Option Addr) (cp : Nat) (cy : Int), dm_ = xs.length - i ∧ fr 0 = .slice A (xs.length) c ∧ fr 4 = .slice none 0 0 ∧ fr 5 = .slice Ad (L.length) cp ∧ fr 6 = qu ((N : Int) % 32) ∧ fr 7 = qu cy ∧ fr 8 = qi (i : Int) ∧ Below w.heap.size w wl ∧ Ow wl b1 97 .u32 Ad cp L ∧ (i ≤ xs.length) ∧ (L.length = N / 32 + i) ∧ (okW (2 ^ 32) L) ∧ (0 ≤ cy ∧ cy < 2 ^ (N % 32)) ∧ (valB (2 ^ 32) L + (2 ^ 32) ^ L.length * cy = 2 ^ N * valB (2 ^ 32) (xs.take i))) (xs.length - 0) ⟨0, (List.replicate (N / 32) 0), (some ⟨b1, 0, none⟩), (N / 32), 0, rfl, rfl, rfl, (by first | rfl | exact vsl List.length_replicate), rfl, rfl, (vi (by omega)), E5, (Ow.rep n3.blk (by omega)), (Nat.zero_le _), (by simp), (okW.replicate (by decide) _), ⟨by decide, two_pos _⟩, (by simp [valB, valB_zeros])⟩ ?_
 intro d10 fr9 w6 hI7 ih8
 obtain ⟨i, L, Ad, cp, cy, hd19, f11, f12, f13, f14, f15, f16, E17, h18, hi, hl, hok, hcy, hv⟩ := hI7
 have bxs := okW.getD ox (by decide) i
 have bp : (0 : Int) < 2 ^ (N % 32) := two_pos _
 have bq : (2 : Int) ^ (N % 32) ≤ 4294967296 := left_p N
 have bl := left_cy bp hcy.1 hcy.2 bxs.1 (by omega)
 have bm : 0 ≤ xs.getD i 0 * 2 ^ (N % 32) := Int.mul_nonneg bxs.1 (Int.le_of_lt bp)
 refine rk_seq <| rk_seq <| rk_reg <| lw_v (qi (i : Int)) (dv_move (T rfl f16)) <| lw_v (.slice A (xs.length) c) (dv_move (T rfl f11)) <| lw_v (qi (xs.length : Int)) (dv_len (ad := A) (l := xs.length) (c := c) us49 (T rfl rfl)) <| lw_v (qd ((i : Int) < (xs.length : Int))) (dv_lss (a := (i : Int)) (b := (xs.length : Int)) (T rfl rfl) (T rfl rfl)) <| lw_nil ?_
 by_cases hb20 : ((i : Int)) < ((xs.length : Int))
 · refine rk_ct (T rfl (qT hb20)) <| rk_skip <| rk_seq <| rk_block <| rk_seq <| rk_reg <| lw_v (qu cy) (dv_move (T rfl f15)) <| lw_v (.slice A (xs.length) c) (dv_move (T rfl f11)) <| lw_v (qi (i : Int)) (dv_move (T rfl f16)) ?_
   have h21 := (hx.ext E17)
   obtain ⟨g22, o23, rfl⟩ := Wd.at h21 (by first | omega | (simp; done) | (simp; omega))
   refine lw_v (.pointer (some ⟨g22, o23 + i, none⟩)) (dv_indexW (g := g22) (o := o23) (l := xs.length) (c := c) (i := i) (j := (i : Int)) us49 sz97 (T rfl rfl) (T rfl rfl) (by omega) (by first | omega | (simp; done) | (simp; omega))) <| lw_v (.int .u32 (xs.getD i 0)) (dv_load agt97 (T rfl rfl) (Wd.cell h21 (by first | omega | (simp; done) | (simp; omega)))) <| lw_v (qu (xs.getD i 0)) (dv_conv (a := xs.getD i 0) (z := xs.getD i 0) ui97 ui23 (T rfl rfl) (wn_u64 (by omega) (by omega))) <| lw_v (qu ((N : Int) % 32)) (dv_move (T rfl f14)) <| lw_v (qu ((xs.getD i 0) * 2 ^ (N % 32))) (dv_shl (a := xs.getD i 0) (b := (N : Int) % 32) (z := (xs.getD i 0) * 2 ^ (N % 32)) (T rfl rfl) (T rfl rfl) (by omega) (shl_v (K := N % 32) (by omega) (by omega) (by omega) (by omega))) <| lw_v (qu (cy + ((xs.getD i 0) * 2 ^ (N % 32)))) (dv_or (a := cy) (b := (xs.getD i 0) * 2 ^ (N % 32)) (z := cy + ((xs.getD i 0) * 2 ^ (N % 32))) (T rfl rfl) (T rfl rfl) (or_add (k := .u64) (a := cy) (b := xs.getD i 0 * 2 ^ (N % 32)) (i := N % 32) rfl hcy.1 hcy.2 bm (Int.mul_emod_left _ _) (lt64 (by omega)) (lt64 (by omega))).1) <| lw_v (qu (cy + ((xs.getD i 0) * 2 ^ (N % 32)))) (dv_assign (T rfl rfl)) <| qN <| lw_v (.slice Ad (L.length) cp) (dv_move (T rfl f13)) ?_
   refine lw_v (qu (cy + ((xs.getD i 0) * 2 ^ (N % 32)))) (dv_move (T rfl rfl)) <| lw_v (.int .u32 ((cy + ((xs.getD i 0) * 2 ^ (N % 32))) % 4294967296)) (dv_conv (a := cy + ((xs.getD i 0) * 2 ^ (N % 32))) (z := (cy + ((xs.getD i 0) * 2 ^ (N % 32))) % 4294967296) ui23 ui97 (T rfl rfl) (wr_u32 _)) <| lw_e (oe_buildSlice (pv := [(0, .int .u32 ((cy + ((xs.getD i 0) * 2 ^ (N % 32))) % 4294967296))]) (init := [.int .u32 0]) (l := [.int .u32 ((cy + ((xs.getD i 0) * 2 ^ (N % 32))) % 4294967296)]) us49 sz97 rfl rfl zc97 (by kernel_rfl) ⟨rfl, (T rfl rfl), trivial⟩ rfl ?_)
   intro b24 w25 n26
   have N27 : w.heap.size ≤ b24 := n26.eq ▸ E17.size
   have E28 := below_ext E17 E17.size n26.ext
   have h29 := (h18.ext n26.ext)
   refine lw_e (oe_appendW (base := b1) (L := L) (M := [(cy + ((xs.getD i 0) * 2 ^ (N % 32))) % 4294967296]) (m := 1) us49 in97 (T rfl rfl) (T rfl rfl) h29 (Wd.ownW (xs := [(cy + ((xs.getD i 0) * 2 ^ (N % 32))) % 4294967296]) n26.blk) rfl (by first | omega | (simp; done) | (simp; omega)) (by first | omega | (simp; done) | (simp; omega)) ?_)
   intro Ad30 c31 w32 hO33 x34
   have E35 := below_bl E28 N4 x34
   refine lw_v (.slice Ad30 ((L ++ [(cy + ((xs.getD i 0) * 2 ^ (N % 32))) % 4294967296]).length) c31) (dv_assign (T rfl rfl)) <| lw_nil <| rk_reg <| lw_v (qu (cy + ((xs.getD i 0) * 2 ^ (N % 32)))) (dv_move (T rfl rfl)) <| lw_v (qu ((cy + ((xs.getD i 0) * 2 ^ (N % 32))) / 4294967296)) (dv_shr (a := cy + ((xs.getD i 0) * 2 ^ (N % 32))) (b := 32) (z := (cy + ((xs.getD i 0) * 2 ^ (N % 32))) / 4294967296) (T rfl rfl) C (by decide) (shr_c (n := 32) (by omega) (by decide))) <| lw_v (qu ((cy + ((xs.getD i 0) * 2 ^ (N % 32))) / 4294967296)) (dv_assign (T rfl rfl)) <| lw_nil <| rk_inBlock <| rk_reg <| lw_v (qi (i : Int)) (dv_move (T rfl f16)) <| lw_v (qi ((i : Int) + 1)) (dv_add (a := (i : Int)) (b := 1) (z := (i : Int) + 1) (T rfl rfl) C (wr_i64 (by omega) (by omega))) ?_
   refine lw_v (qi ((i : Int) + 1)) (dv_assign (T rfl rfl)) <| lw_nil ?_
   exact ih8 (xs.length - (i + 1)) _ _ (by rw [hd19]; omega) ⟨(i + 1), (L ++ [(cy + ((xs.getD i 0) * 2 ^ (N % 32))) % 4294967296]), Ad30, c31, ((cy + ((xs.getD i 0) * 2 ^ (N % 32))) / 4294967296), rfl, f11, f12, (by first | rfl | exact vsl List.length_replicate), f14, rfl, (vi (by omega)), E35, hO33, (by omega), (by simp [hl]; omega), (okW.snoc hok (by omega) (by omega)), ⟨by omega, left_c2 bl⟩, (left_inv hl hv rfl (by omega))⟩
 · refine rk_cf (T rfl (qF hb20)) <| rk_exit rfl <| rk_seq <| rk_seq <| rk_reg <| lw_v (qu cy) (dv_move (T rfl f15)) <| lw_v (qd (0 < cy)) (dv_gtr (a := cy) (b := 0) (T rfl rfl) C) <| lw_nil <| rk_join (fun fr wl => ∃ (M : List Int) (Ae : Option Addr) (cq : Nat), fr 4 = .slice none 0 0 ∧ fr 5 = .slice Ae (M.length) cq ∧ Below w.heap.size w wl ∧ Ow wl b1 97 .u32 Ae cq M ∧ (valB (2 ^ 32) M = 2 ^ N * valB (2 ^ 32) xs) ∧ (okW (2 ^ 32) M) ∧ (M.length ≤ 900000)) ?_ (fun hj38 => ?_)
   · intro fr39 w36 hI37
     obtain ⟨M, Ae, cq, f40, f41, E42, h43, hvm, hmo, hml⟩ := hI37
     refine rk_seq <| rk_reg <| lw_v (.slice Ae (M.length) cq) (dv_move (T rfl f41)) <| lw_e (oe_callf (vs := [.bool false, .slice Ae (M.length) cq]) co62 (ar2 C (T rfl rfl)) (l1Trim_num (s := (sx + N)) (neg := false) (⟨M, rfl, h43.cap, h43.wd, hmo, rfl⟩ : Ws _ _ _ _ _ _ _ _) (by first | omega | (simp; done) | (simp; omega)) (left_sz hvm hsx)) ?_)
     rintro _ w49 ⟨nb44, A45, n46, c47, rfl, e50, hn48⟩
     have E51 := below_ext E42 E42.size e50
     have lhn48 := Num.len (by decide) hn48
     refine lw_v (.slice A45 n46 c47) (dv_field (v := .slice A45 n46 c47) fb51_1 agt49 (T rfl rfl) rfl) <| lw_v (.slice A45 n46 c47) (dv_assign (T rfl rfl)) <| lw_nil <| rk_ret Tryz.func65 (v := .slice A45 n46 c47) (res1 Tryz.results65 (rv_tmp rfl rfl)) ⟨_, rfl, ?_⟩
     exact ⟨_, _, _, rfl, E51, Wc.eq hn48.wc (by rw [sg_natAbs (by rw [hvm]; exact Int.mul_nonneg (Int.le_of_lt (two_pos N)) (valB_nonneg (by decide) ox)), hvm])⟩
   · by_cases hb52 : 0 < cy
     · refine rk_ct (T rfl (qT hb52)) <| rk_reg <| lw_v (.slice Ad (L.length) cp) (dv_move (T rfl f13)) <| lw_v (qu cy) (dv_move (T rfl f15)) <| lw_v (.int .u32 ((cy) % 4294967296)) (dv_conv (a := cy) (z := (cy) % 4294967296) ui23 ui97 (T rfl rfl) (wr_u32 _)) <| lw_e (oe_buildSlice (pv := [(0, .int .u32 ((cy) % 4294967296))]) (init := [.int .u32 0]) (l := [.int .u32 ((cy) % 4294967296)]) us49 sz97 rfl rfl zc97 (by kernel_rfl) ⟨rfl, (T rfl rfl), trivial⟩ rfl ?_)
       intro b53 w54 n55
       have N56 : w.heap.size ≤ b53 := n55.eq ▸ E17.size
       have E57 := below_ext E17 E17.size n55.ext
       have h58 := (h18.ext n55.ext)
       refine lw_e (oe_appendW (base := b1) (L := L) (M := [(cy) % 4294967296]) (m := 1) us49 in97 (T rfl rfl) (T rfl rfl) h58 (Wd.ownW (xs := [(cy) % 4294967296]) n55.blk) rfl (by first | omega | (simp; done) | (simp; omega)) (by first | omega | (simp; done) | (simp; omega)) ?_)
       intro Ad59 c60 w61 hO62 x63
       have E64 := below_bl E57 N4 x63
       refine lw_v (.slice Ad59 ((L ++ [(cy) % 4294967296]).length) c60) (dv_assign (T rfl rfl)) <| lw_nil ?_
       exact hj38 _ _ ⟨(L ++ [(cy) % 4294967296]), Ad59, c60, f12, rfl, E64, hO62, (by first | (rw [Int.emod_eq_of_lt hcy.1 (by omega)]; exact left_fin hv (by omega)) | exact left_fin0 hv (by omega) (by omega)), (by first | exact hok | exact okW.snoc hok (by omega) (by omega)), (by first | (simp; omega) | omega)⟩
     · refine rk_cf (T rfl (qF hb52)) <| rk_skip ?_
       exact hj38 _ _ ⟨L, Ad, cp, f12, f13, E17, h18, (by first | (rw [Int.emod_eq_of_lt hcy.1 (by omega)]; exact left_fin hv (by omega)) | exact left_fin0 hv (by omega) (by omega)), (by first | exact hok | exact okW.snoc hok (by omega) (by omega)), (by first | (simp; omega) | omega)⟩
theorem l1Left_ws {w : World} {A : Option Addr} {l c N s : Nat} {x j : Int} (h : Ws 32 97 .u32 w A l c x) (hl : l ≤ 400000) (ln : N ≤ 400000) (hs : x < 2 ^ s) (hj : j = (N : Nat)) : Ct Tryz.prog 65 [.slice A l c, .int .i64 j] w fun v w1 =>
 ∃ A' n c', v = .slice A' n c' ∧ Ext w w1 ∧ Wc 32 97 .u32 w1 A' n c' (2 ^ N * x) := by
 subst hj
 obtain ⟨xs, rfl, hc, hw, ho, hv⟩ := h
 subst hv
 exact l1Left_ok hw hc ho hl ln hs
set_option maxHeartbeats 1000000 in
theorem l1Sign_ok {w : World} {na : Bool} {Aa : Option Addr} {la ca : Nat} {x : Int} {sx : Nat} (ha : Num 32 97 .u32 w na Aa la ca x sx) : Ct Tryz.prog 34 [.agg #[.bool na, .slice Aa la ca]] w fun v w1 => v = .int .i64 (sgnI x) ∧ Ext w w1 := by
 refine ct_run (n := 9) Tryz.func34 rfl Tryz.ntmps34 rfl ?_
 have E0 : Below w.heap.size w w := Below.refl _ _
 refine rk_seq <| rk_reg <| lw_e (oe_box (v := .agg #[.bool na, .slice Aa la ca]) (cs := #[.bool na, .slice Aa la ca]) (T rfl rfl) rfl ?_)
 intro b1 w2 n3
 have N4 : w.heap.size ≤ b1 := n3.eq ▸ E0.size
 have E5 := below_ext E0 E0.size n3.ext
 refine lw_v (qi 0) (dv_assign C) <| lw_nil <| rk_seq <| rk_seq <| rk_reg <| lw_v (.pointer (some ⟨b1, 1, none⟩)) (dv_fieldAddr (a := ⟨b1, 0, none⟩) (a' := ⟨b1, 1, none⟩) fo51_1 (T rfl rfl) rfl) <| lw_v (.slice Aa la ca) (dv_load1 (b := b1) (o := 1) agt49 (T rfl rfl) n3.blk rfl) <| lw_v (qi (la : Int)) (dv_len (ad := Aa) (l := la) (c := ca) us49 (T rfl rfl)) <| lw_v (qd ((la : Int) = 0)) (dv_eql (a := (la : Int)) (b := 0) (T rfl rfl) C) <| lw_nil ?_
 by_cases hb6 : ((la : Int)) = 0
 · refine rk_ct (T rfl (qT hb6)) <| rk_seq <| rk_reg <| lw_v (qi 0) (dv_assign C) <| lw_nil <| rk_ret Tryz.func34 (v := qi 0) (res1 Tryz.results34 (rv_tmp rfl rfl)) ⟨_, rfl, ?_⟩
   exact ⟨vi (by have h1 := ha.neg_iff; have h2 := ha.pos_iff; grind [sgnI]), E5⟩
 · refine rk_cf (T rfl (qF hb6)) <| rk_skip <| rk_seq <| rk_seq <| rk_reg <| lw_v (.pointer (some ⟨b1, 0, none⟩)) (dv_fieldAddr (a := ⟨b1, 0, none⟩) (a' := ⟨b1, 0, none⟩) fo51_0 (T rfl rfl) rfl) <| lw_v (.bool na) (dv_load1 (b := b1) (o := 0) agt4 (T rfl rfl) n3.blk rfl) <| lw_nil ?_
   rcases Bool.eq_false_or_eq_true (na) with hb7 | hb7
   · refine rk_ct (T rfl (congrArg Value.bool hb7)) <| rk_seq <| rk_reg <| lw_v (qi (-1)) (dv_assign C) <| lw_nil <| rk_ret Tryz.func34 (v := qi (-1)) (res1 Tryz.results34 (rv_tmp rfl rfl)) ⟨_, rfl, ?_⟩
     exact ⟨vi (by have h1 := ha.neg_iff; have h2 := ha.pos_iff; grind [sgnI]), E5⟩
   · refine rk_cf (T rfl (congrArg Value.bool hb7)) <| rk_skip <| rk_seq <| rk_reg <| lw_v (qi 1) (dv_assign C) <| lw_nil <| rk_ret Tryz.func34 (v := qi 1) (res1 Tryz.results34 (rv_tmp rfl rfl)) ⟨_, rfl, ?_⟩
     exact ⟨vi (by have h1 := ha.neg_iff; have h2 := ha.pos_iff; grind [sgnI]), E5⟩
set_option maxHeartbeats 1000000 in
theorem l1From_ok {w : World} {a3 a2 a1 a0 : Int} (h3 : 0 ≤ a3 ∧ a3 < 18446744073709551616) (h2 : 0 ≤ a2 ∧ a2 < 18446744073709551616) (h1 : 0 ≤ a1 ∧ a1 < 18446744073709551616) (h0 : 0 ≤ a0 ∧ a0 < 18446744073709551616) : Ct Tryz.prog 41 [.agg #[.int .u64 a3, .int .u64 a2, .int .u64 a1, .int .u64 a0]] w fun v w1 => ∃ nr A' n c', v = .agg #[.bool nr, .slice A' n c'] ∧ Ext w w1 ∧ Num 32 97 .u32 w1 nr A' n c' (wz a3 a2 a1 a0) (256) := by
 refine ct_run (n := 47) Tryz.func41 rfl Tryz.ntmps41 rfl ?_
 have E0 : Below w.heap.size w w := Below.refl _ _
 refine rk_seq <| rk_reg <| lw_e (oe_box (v := .agg #[qu a3, qu a2, qu a1, qu a0]) (cs := #[qu a3, qu a2, qu a1, qu a0]) (T rfl rfl) rfl ?_)
 intro b1 w2 n3
 have N4 : w.heap.size ≤ b1 := n3.eq ▸ E0.size
 have E5 := below_ext E0 E0.size n3.ext
 refine lw_e (oe_alloc ze51 ?_)
 intro b6 w7 n8
 have N9 : w.heap.size ≤ b6 := n8.eq ▸ E5.size
 have : b1 < b6 := n8.eq ▸ lt_of_blk n3.blk
 have E10 := below_ext E5 E5.size n8.ext
 refine qN <| lw_v (.pointer (some ⟨b1, 0, none⟩)) (dv_fieldAddr (a := ⟨b1, 0, none⟩) (a' := ⟨b1, 0, none⟩) fo33_0 (T rfl rfl) rfl) ?_
 have H11 := (n8.ext.blk n3.blk)
 refine lw_v (qu a3) (dv_load1 (b := b1) (o := 0) agt23 (T rfl rfl) H11 rfl) <| lw_v (qu (a3 / 9223372036854775808)) (dv_shr (a := a3) (b := 63) (z := a3 / 9223372036854775808) (T rfl rfl) C (by decide) (shr_c (n := 63) (by omega) (by decide))) <| lw_v (qd ((a3 / 9223372036854775808) = 1)) (dv_eql (a := a3 / 9223372036854775808) (b := 1) (T rfl rfl) C) <| lw_v (qd ((a3 / 9223372036854775808) = 1)) (dv_assign (T rfl rfl)) <| qN <| lw_v (.pointer (some ⟨b1, 3, none⟩)) (dv_fieldAddr (a := ⟨b1, 0, none⟩) (a' := ⟨b1, 3, none⟩) fo33_3 (T rfl rfl) rfl) <| lw_v (qu a0) (dv_load1 (b := b1) (o := 3) agt23 (T rfl rfl) H11 rfl) <| lw_v (.int .u32 ((a0) % 4294967296)) (dv_conv (a := a0) (z := (a0) % 4294967296) ui23 ui97 (T rfl rfl) (wr_u32 _)) <| lw_v (.pointer (some ⟨b1, 3, none⟩)) (dv_fieldAddr (a := ⟨b1, 0, none⟩) (a' := ⟨b1, 3, none⟩) fo33_3 (T rfl rfl) rfl) ?_
 refine lw_v (qu a0) (dv_load1 (b := b1) (o := 3) agt23 (T rfl rfl) H11 rfl) <| lw_v (qu (a0 / 4294967296)) (dv_shr (a := a0) (b := 32) (z := a0 / 4294967296) (T rfl rfl) C (by decide) (shr_c (n := 32) (by omega) (by decide))) <| lw_v (.int .u32 ((a0 / 4294967296) % 4294967296)) (dv_conv (a := a0 / 4294967296) (z := (a0 / 4294967296) % 4294967296) ui23 ui97 (T rfl rfl) (wr_u32 _)) <| lw_v (.pointer (some ⟨b1, 2, none⟩)) (dv_fieldAddr (a := ⟨b1, 0, none⟩) (a' := ⟨b1, 2, none⟩) fo33_2 (T rfl rfl) rfl) <| lw_v (qu a1) (dv_load1 (b := b1) (o := 2) agt23 (T rfl rfl) H11 rfl) <| lw_v (.int .u32 ((a1) % 4294967296)) (dv_conv (a := a1) (z := (a1) % 4294967296) ui23 ui97 (T rfl rfl) (wr_u32 _)) <| lw_v (.pointer (some ⟨b1, 2, none⟩)) (dv_fieldAddr (a := ⟨b1, 0, none⟩) (a' := ⟨b1, 2, none⟩) fo33_2 (T rfl rfl) rfl) <| lw_v (qu a1) (dv_load1 (b := b1) (o := 2) agt23 (T rfl rfl) H11 rfl) <| lw_v (qu (a1 / 4294967296)) (dv_shr (a := a1) (b := 32) (z := a1 / 4294967296) (T rfl rfl) C (by decide) (shr_c (n := 32) (by omega) (by decide))) <| lw_v (.int .u32 ((a1 / 4294967296) % 4294967296)) (dv_conv (a := a1 / 4294967296) (z := (a1 / 4294967296) % 4294967296) ui23 ui97 (T rfl rfl) (wr_u32 _)) <| lw_v (.pointer (some ⟨b1, 1, none⟩)) (dv_fieldAddr (a := ⟨b1, 0, none⟩) (a' := ⟨b1, 1, none⟩) fo33_1 (T rfl rfl) rfl) ?_
 refine lw_v (qu a2) (dv_load1 (b := b1) (o := 1) agt23 (T rfl rfl) H11 rfl) <| lw_v (.int .u32 ((a2) % 4294967296)) (dv_conv (a := a2) (z := (a2) % 4294967296) ui23 ui97 (T rfl rfl) (wr_u32 _)) <| lw_v (.pointer (some ⟨b1, 1, none⟩)) (dv_fieldAddr (a := ⟨b1, 0, none⟩) (a' := ⟨b1, 1, none⟩) fo33_1 (T rfl rfl) rfl) <| lw_v (qu a2) (dv_load1 (b := b1) (o := 1) agt23 (T rfl rfl) H11 rfl) <| lw_v (qu (a2 / 4294967296)) (dv_shr (a := a2) (b := 32) (z := a2 / 4294967296) (T rfl rfl) C (by decide) (shr_c (n := 32) (by omega) (by decide))) <| lw_v (.int .u32 ((a2 / 4294967296) % 4294967296)) (dv_conv (a := a2 / 4294967296) (z := (a2 / 4294967296) % 4294967296) ui23 ui97 (T rfl rfl) (wr_u32 _)) <| lw_v (.pointer (some ⟨b1, 0, none⟩)) (dv_fieldAddr (a := ⟨b1, 0, none⟩) (a' := ⟨b1, 0, none⟩) fo33_0 (T rfl rfl) rfl) <| lw_v (qu a3) (dv_load1 (b := b1) (o := 0) agt23 (T rfl rfl) H11 rfl) <| lw_v (.int .u32 ((a3) % 4294967296)) (dv_conv (a := a3) (z := (a3) % 4294967296) ui23 ui97 (T rfl rfl) (wr_u32 _)) <| lw_v (.pointer (some ⟨b1, 0, none⟩)) (dv_fieldAddr (a := ⟨b1, 0, none⟩) (a' := ⟨b1, 0, none⟩) fo33_0 (T rfl rfl) rfl) <| lw_v (qu a3) (dv_load1 (b := b1) (o := 0) agt23 (T rfl rfl) H11 rfl) ?_
 refine lw_v (qu (a3 / 4294967296)) (dv_shr (a := a3) (b := 32) (z := a3 / 4294967296) (T rfl rfl) C (by decide) (shr_c (n := 32) (by omega) (by decide))) <| lw_v (.int .u32 ((a3 / 4294967296) % 4294967296)) (dv_conv (a := a3 / 4294967296) (z := (a3 / 4294967296) % 4294967296) ui23 ui97 (T rfl rfl) (wr_u32 _)) <| lw_e (oe_buildSlice (pv := [(0, .int .u32 ((a0) % 4294967296)), (1, .int .u32 ((a0 / 4294967296) % 4294967296)), (2, .int .u32 ((a1) % 4294967296)), (3, .int .u32 ((a1 / 4294967296) % 4294967296)), (4, .int .u32 ((a2) % 4294967296)), (5, .int .u32 ((a2 / 4294967296) % 4294967296)), (6, .int .u32 ((a3) % 4294967296)), (7, .int .u32 ((a3 / 4294967296) % 4294967296))]) (init := [.int .u32 0, .int .u32 0, .int .u32 0, .int .u32 0, .int .u32 0, .int .u32 0, .int .u32 0, .int .u32 0]) (l := [.int .u32 ((a0) % 4294967296), .int .u32 ((a0 / 4294967296) % 4294967296), .int .u32 ((a1) % 4294967296), .int .u32 ((a1 / 4294967296) % 4294967296), .int .u32 ((a2) % 4294967296), .int .u32 ((a2 / 4294967296) % 4294967296), .int .u32 ((a3) % 4294967296), .int .u32 ((a3 / 4294967296) % 4294967296)]) us49 sz97 rfl rfl zc97 (by kernel_rfl) ⟨rfl, (T rfl rfl), ⟨rfl, (T rfl rfl), ⟨rfl, (T rfl rfl), ⟨rfl, (T rfl rfl), ⟨rfl, (T rfl rfl), ⟨rfl, (T rfl rfl), ⟨rfl, (T rfl rfl), ⟨rfl, (T rfl rfl), trivial⟩⟩⟩⟩⟩⟩⟩⟩ rfl ?_)
 intro b12 w13 n14
 have N15 : w.heap.size ≤ b12 := n14.eq ▸ E10.size
 have : b6 < b12 := n14.eq ▸ lt_of_blk n8.blk
 have E16 := below_ext E10 E10.size n14.ext
 refine lw_v (.slice (some ⟨b12, 0, none⟩) 8 8) (dv_assign (T rfl rfl)) <| lw_nil <| rk_seq <| rk_seq <| rk_reg <| lw_v (qd ((a3 / 9223372036854775808) = 1)) (dv_move (T rfl rfl)) <| lw_v (qd (¬ ((a3 / 9223372036854775808) = 1))) (dv_notd (p := (a3 / 9223372036854775808) = 1) (T rfl rfl)) <| lw_nil ?_
 by_cases hb17 : (a3 / 9223372036854775808) = 1
 · refine rk_cf (T rfl (congrArg Value.bool (decide_eq_false (not_not_intro hb17)))) <| rk_skip <| rk_seq <| rk_reg <| lw_e (oe_buildSlice (pv := [(0, .int .u32 1)]) (init := [.int .u32 0]) (l := [.int .u32 1]) us49 sz97 rfl rfl zc97 (by kernel_rfl) ⟨rfl, C, trivial⟩ rfl ?_)
   intro b18 w19 n20
   have N21 : w.heap.size ≤ b18 := n20.eq ▸ E16.size
   have : b12 < b18 := n20.eq ▸ lt_of_blk n14.blk
   have E22 := below_ext E16 E16.size n20.ext
   refine lw_e (oe_callf (vs := [.slice (some ⟨b18, 0, none⟩) 1 1, qi 256]) co65 (ar2 (T rfl rfl) C) (l1Left_ws (N := 256) (j := 256) (⟨[1], rfl, Nat.le_refl _, Wd.ownW n20.blk, (okW_lit (by simp <;> omega)), rfl⟩ : Ws _ _ _ _ _ _ _ _) (by first | omega | (simp; done) | (simp; omega)) (by first | omega | (simp; done) | (simp; omega)) (valB_sz (m := 32) (xs := [1]) (n := 1) (okW_lit (by simp <;> omega)) rfl) (by omega)) ?_)
   rintro _ w27 ⟨A23, n24, c25, rfl, e28, h26⟩
   have E29 := below_ext E22 E22.size e28
   have lh26 := Wc.len (by decide) h26 (left_sz (m := 256) (s := 32) rfl (valB_sz (m := 32) (xs := [1]) (n := 1) (okW_lit (by simp <;> omega)) rfl))
   refine lw_v (.slice (some ⟨b12, 0, none⟩) 8 8) (dv_move (T rfl rfl)) ?_
   have H30 := (e28.blk (n20.ext.blk n14.blk))
   refine lw_e (oe_callf (vs := [.slice A23 n24 c25, .slice (some ⟨b12, 0, none⟩) 8 8]) co64 (ar2 (T rfl rfl) (T rfl rfl)) (l1SubAbs_ws h26.ws (⟨[(a0) % 4294967296, (a0 / 4294967296) % 4294967296, (a1) % 4294967296, (a1 / 4294967296) % 4294967296, (a2) % 4294967296, (a2 / 4294967296) % 4294967296, (a3) % 4294967296, (a3 / 4294967296) % 4294967296], rfl, Nat.le_refl _, Wd.ownW H30, (okW_lit (by simp <;> omega)), rfl⟩ : Ws _ _ _ _ _ _ _ _) (by first | omega | (simp; done) | (simp; omega)) (by first | omega | (simp; done) | (simp; omega)) (by have q := Ws.lo (s := 256) h26.ws (by simp [valB]); omega) (by have q := (valB_sz (m := 32) (xs := [(a0) % 4294967296, (a0 / 4294967296) % 4294967296, (a1) % 4294967296, (a1 / 4294967296) % 4294967296, (a2) % 4294967296, (a2 / 4294967296) % 4294967296, (a3) % 4294967296, (a3 / 4294967296) % 4294967296]) (n := 8) (okW_lit (by simp <;> omega)) rfl); have e : (2 : Int) ^ 256 * valB (2 ^ 32) [1] = 2 ^ 256 := (by simp [valB]); omega)) ?_)
   rintro _ w35 ⟨A31, n32, c33, rfl, e36, h34, hnh34⟩
   have E37 := below_ext E29 E29.size e36
   refine lw_e (oe_callf (vs := [.bool true, .slice A31 n32 c33]) co62 (ar2 C (T rfl rfl)) (l1Trim_num (s := 288) (neg := true) h34 (by first | omega | (simp; done) | (simp; omega)) (sz_sub (left_sz (m := 256) (s := 32) rfl (valB_sz (m := 32) (xs := [1]) (n := 1) (okW_lit (by simp <;> omega)) rfl)) (Ws.nonneg (⟨[(a0) % 4294967296, (a0 / 4294967296) % 4294967296, (a1) % 4294967296, (a1 / 4294967296) % 4294967296, (a2) % 4294967296, (a2 / 4294967296) % 4294967296, (a3) % 4294967296, (a3 / 4294967296) % 4294967296], rfl, Nat.le_refl _, Wd.ownW H30, (okW_lit (by simp <;> omega)), rfl⟩ : Ws _ _ _ _ _ _ _ _)))) ?_)
   rintro _ w43 ⟨nb38, A39, n40, c41, rfl, e44, hn42⟩
   have E45 := below_ext E37 E37.size e44
   have lhn42 := Num.len (by decide) hn42
   have H46 := (e44.blk (e36.blk (e28.blk (n20.ext.blk (n14.ext.blk n8.blk)))))
   refine lw_e (oe_store (v := .agg #[.bool nb38, .slice A39 n40 c41]) (vs := [.bool nb38, .slice A39 n40 c41]) (l := [.bool nb38, .slice A39 n40 c41]) (T rfl rfl) (T rfl rfl) sz51 rfl rfl rfl H46 rfl ?_)
   intro w47 s48 H49
   have E50 := below_st E45 N9 s48
   refine lw_nil <| rk_ret Tryz.func41 (v := .agg #[.bool nb38, .slice A39 n40 c41]) (res1 Tryz.results41 (rv_cells (l := [.bool nb38, .slice A39 n40 c41]) agt51 sz51 rfl rfl H49 rfl)) ⟨_, rfl, ?_⟩
   have h51 := (hn42.st s48 H46 (by decide))
   exact ⟨_, _, _, _, rfl, E50, h51.tight (wz_hi32 h3 h2 h1 h0 (by omega)) (wz_lt h3 h2 h1 h0)⟩
 · refine rk_ct (T rfl (qT hb17)) <| rk_seq <| rk_reg <| lw_v (.slice (some ⟨b12, 0, none⟩) 8 8) (dv_move (T rfl rfl)) <| lw_e (oe_callf (vs := [.bool false, .slice (some ⟨b12, 0, none⟩) 8 8]) co62 (ar2 C (T rfl rfl)) (l1Trim_num (s := 256) (neg := false) (⟨[(a0) % 4294967296, (a0 / 4294967296) % 4294967296, (a1) % 4294967296, (a1 / 4294967296) % 4294967296, (a2) % 4294967296, (a2 / 4294967296) % 4294967296, (a3) % 4294967296, (a3 / 4294967296) % 4294967296], rfl, Nat.le_refl _, Wd.ownW n14.blk, (okW_lit (by simp <;> omega)), rfl⟩ : Ws _ _ _ _ _ _ _ _) (by first | omega | (simp; done) | (simp; omega)) (valB_sz (m := 32) (xs := [(a0) % 4294967296, (a0 / 4294967296) % 4294967296, (a1) % 4294967296, (a1 / 4294967296) % 4294967296, (a2) % 4294967296, (a2 / 4294967296) % 4294967296, (a3) % 4294967296, (a3 / 4294967296) % 4294967296]) (n := 8) (okW_lit (by simp <;> omega)) rfl)) ?_)
   rintro _ w57 ⟨nb52, A53, n54, c55, rfl, e58, hn56⟩
   have E59 := below_ext E16 E16.size e58
   have lhn56 := Num.len (by decide) hn56
   have H60 := (e58.blk (n14.ext.blk n8.blk))
   refine lw_e (oe_store (v := .agg #[.bool nb52, .slice A53 n54 c55]) (vs := [.bool nb52, .slice A53 n54 c55]) (l := [.bool nb52, .slice A53 n54 c55]) (T rfl rfl) (T rfl rfl) sz51 rfl rfl rfl H60 rfl ?_)
   intro w61 s62 H63
   have E64 := below_st E59 N9 s62
   refine lw_nil <| rk_ret Tryz.func41 (v := .agg #[.bool nb52, .slice A53 n54 c55]) (res1 Tryz.results41 (rv_cells (l := [.bool nb52, .slice A53 n54 c55]) agt51 sz51 rfl rfl H63 rfl)) ⟨_, rfl, ?_⟩
   have h65 := (hn56.st s62 H60 (by decide))
   exact ⟨_, _, _, _, rfl, E64, h65.tight (wz_lo32 h3 h2 h1 h0 (by omega)) (wz_lt h3 h2 h1 h0)⟩
theorem l1Fromz_ok {w : World} {z : Int} (hz : fits z) : Ct Tryz.prog 41 [.agg #[.int .u64 (wv3 z), .int .u64 (wv2 z), .int .u64 (wv1 z), .int .u64 (wv0 z)]] w fun v w1 => ∃ nr A' n c', v = .agg #[.bool nr, .slice A' n c'] ∧ Ext w w1 ∧ Num 32 97 .u32 w1 nr A' n c' z 256 := by
 have h := l1From_ok (w := w) (w_rg z).1 (w_rg z).2.1 (w_rg z).2.2.1 (w_rg z).2.2.2
 rw [wz_w hz] at h
 exact h
end Go.Proofs.YtmbpomcbdopgnaaGreat.W
set_option linter.unusedVariables false
set_option linter.unusedSimpArgs false
namespace Go.Proofs.YtmbpomcbdopgnaaGreat.W
open Go Go.RowKit Go.Proofs.YtmbpomcbdopgnaaGreat.Fw
attribute [local irreducible] RunK LW AW DV OE Ct
theorem co105 : callOk Tryz.prog 105 = true := by kernel_rfl
theorem co34 : callOk Tryz.prog 34 = true := by kernel_rfl
theorem co60 : callOk Tryz.prog 60 = true := by kernel_rfl
theorem co87 : callOk Tryz.prog 87 = true := by kernel_rfl
theorem co88 : callOk Tryz.prog 88 = true := by kernel_rfl
theorem co89 : callOk Tryz.prog 89 = true := by kernel_rfl
set_option maxHeartbeats 1000000 in
theorem l1CmpAbs_ok {w : World} {A D : Option Addr} {c d : Nat} {xs ys : List Int} (hx : Wd w 97 .u32 A xs) (hy : Wd w 97 .u32 D ys) (ox : okW (2 ^ 32) xs) (oy : okW (2 ^ 32) ys) (cx : canon xs) (cy : canon ys) (lx : xs.length ≤ 1000000) (ly : ys.length ≤ 1000000) : Ct Tryz.prog 89 [.slice A (xs.length) c, .slice D (ys.length) d] w fun v w1 => ∃ r : Int, v = .int .i64 r ∧ Ext w w1 ∧ cmpR r (valB (2 ^ 32) xs) (valB (2 ^ 32) ys) := by
 refine ct_run (n := 41) Tryz.func89 rfl Tryz.ntmps89 rfl ?_
 have E0 : Below w.heap.size w w := Below.refl _ _
 refine rk_seq <| rk_reg <| lw_v (qi 0) (dv_assign C) <| lw_nil <| rk_seq <| rk_seq <| rk_reg <| lw_v (.slice A (xs.length) c) (dv_move (T rfl rfl)) <| lw_v (qi (xs.length : Int)) (dv_len (ad := A) (l := xs.length) (c := c) us49 (T rfl rfl)) <| lw_v (.slice D (ys.length) d) (dv_move (T rfl rfl)) <| lw_v (qi (ys.length : Int)) (dv_len (ad := D) (l := ys.length) (c := d) us49 (T rfl rfl)) ?_
 refine lw_v (qd ((xs.length : Int) ≠ (ys.length : Int))) (dv_neq (a := (xs.length : Int)) (b := (ys.length : Int)) (T rfl rfl) (T rfl rfl)) <| lw_nil ?_
 by_cases hb1 : ((xs.length : Int)) ≠ ((ys.length : Int))
 · refine rk_ct (T rfl (qT hb1)) <| rk_seq <| rk_seq <| rk_reg <| lw_v (.slice A (xs.length) c) (dv_move (T rfl rfl)) <| lw_v (qi (xs.length : Int)) (dv_len (ad := A) (l := xs.length) (c := c) us49 (T rfl rfl)) <| lw_v (.slice D (ys.length) d) (dv_move (T rfl rfl)) <| lw_v (qi (ys.length : Int)) (dv_len (ad := D) (l := ys.length) (c := d) us49 (T rfl rfl)) <| lw_v (qd ((xs.length : Int) < (ys.length : Int))) (dv_lss (a := (xs.length : Int)) (b := (ys.length : Int)) (T rfl rfl) (T rfl rfl)) <| lw_nil ?_
   by_cases hb2 : ((xs.length : Int)) < ((ys.length : Int))
   · refine rk_ct (T rfl (qT hb2)) <| rk_seq <| rk_reg <| lw_v (qi (-1)) (dv_assign C) <| lw_nil <| rk_ret Tryz.func89 (v := qi (-1)) (res1 Tryz.results89 (rv_tmp rfl rfl)) ⟨_, rfl, ?_⟩
     exact ⟨_, rfl, E0, cmp_len32 ox oy cx cy (by omega) (by omega)⟩
   · refine rk_cf (T rfl (qF hb2)) <| rk_skip <| rk_seq <| rk_reg <| lw_v (qi 1) (dv_assign C) <| lw_nil <| rk_ret Tryz.func89 (v := qi 1) (res1 Tryz.results89 (rv_tmp rfl rfl)) ⟨_, rfl, ?_⟩
     exact ⟨_, rfl, E0, cmp_len32' ox oy cx cy (by omega)⟩
 · refine rk_cf (T rfl (qF hb1)) <| rk_skip <| rk_seq <| rk_seq <| rk_reg <| lw_v (.slice A (xs.length) c) (dv_move (T rfl rfl)) <| lw_v (qi (xs.length : Int)) (dv_len (ad := A) (l := xs.length) (c := c) us49 (T rfl rfl)) <| lw_v (qi ((xs.length : Int) - 1)) (dv_sub (a := (xs.length : Int)) (b := 1) (z := (xs.length : Int) - 1) (T rfl rfl) C (wr_i64 (by omega) (by omega))) <| lw_v (qi ((xs.length : Int) - 1)) (dv_assign (T rfl rfl)) <| lw_nil <| rk_block ?_
   refine rk_loop (fun dm_ fr wl => ∃ (n : Nat), dm_ = n ∧ fr 0 = .slice A (xs.length) c ∧ fr 1 = .slice D (ys.length) d ∧ fr 5 = qi ((n : Int) - 1) ∧ Below w.heap.size w wl ∧ (n ≤ xs.length) ∧ (xs.drop n = ys.drop n)) (xs.length) ⟨xs.length, rfl, rfl, rfl, (vi (by omega)), E0, (Nat.le_refl _), (by rw [List.drop_of_length_le (Nat.le_refl _), List.drop_of_length_le (by omega)])⟩ ?_
   intro d7 fr6 w3 hI4 ih5
   obtain ⟨n, hd12, f8, f9, f10, E11, hn, hd⟩ := hI4
   refine rk_seq <| rk_seq <| rk_reg <| lw_v (qi ((n : Int) - 1)) (dv_move (T rfl f10)) <| lw_v (qd (0 ≤ ((n : Int) - 1))) (dv_geq (a := (n : Int) - 1) (b := 0) (T rfl rfl) C) <| lw_nil ?_
   by_cases hb13 : 0 ≤ ((n : Int) - 1)
   · refine rk_ct (T rfl (qT hb13)) <| rk_skip <| rk_seq <| rk_block <| rk_seq <| rk_seq ?_
     have h14 := (hx.ext E11)
     have h15 := (hy.ext E11)
     refine rk_any (fun w => Wd w 97 .u32 A xs ∧ Wd w 97 .u32 D ys) [] mo ?_
     intro w16 d17
     have E18 := below_ext E11 E11.size d17.ext
     have h19 := (h14.ext d17.ext)
     have h20 := (h15.ext d17.ext)
     refine aw_pure 0 (.slice A (xs.length) c) rfl (by kernel_rfl) .none ⟨h19, h20⟩ (fun _ => dv_move (T rfl f8)) <| aw_pure 1 (qi ((n : Int) - 1)) rfl (by kernel_rfl) .none ⟨h19, h20⟩ (fun _ => dv_move (T rfl f10)) ?_
     obtain ⟨g21, o22, rfl⟩ := Wd.at h19 (by omega)
     refine aw_pure 2 (.pointer (some ⟨g21, o22 + (n - 1), none⟩)) rfl (by kernel_rfl) .none ⟨h19, h20⟩ (fun _ => dv_indexW (g := g21) (o := o22) (l := xs.length) (c := c) (i := (n - 1)) (j := (n : Int) - 1) us49 sz97 (T rfl rfl) (T rfl rfl) (by omega) (by omega)) <| aw_load 3 (.int .u32 (xs.getD (n - 1) 0)) rfl (by kernel_rfl) .none ⟨h19, h20⟩ (fun _ s => dv_load agt97 (T rfl rfl) (Wd.cell s.1 (by omega))) <| aw_pure 4 (.slice D (ys.length) d) rfl (by kernel_rfl) .none ⟨h19, h20⟩ (fun _ => dv_move (T rfl f9)) <| aw_pure 5 (qi ((n : Int) - 1)) rfl (by kernel_rfl) .none ⟨h19, h20⟩ (fun _ => dv_move (T rfl f10)) ?_
     obtain ⟨g23, o24, rfl⟩ := Wd.at h20 (by omega)
     refine aw_pure 6 (.pointer (some ⟨g23, o24 + (n - 1), none⟩)) rfl (by kernel_rfl) .none ⟨h19, h20⟩ (fun _ => dv_indexW (g := g23) (o := o24) (l := ys.length) (c := d) (i := (n - 1)) (j := (n : Int) - 1) us49 sz97 (T rfl rfl) (T rfl rfl) (by omega) (by omega)) <| aw_load 7 (.int .u32 (ys.getD (n - 1) 0)) rfl (by kernel_rfl) .none ⟨h19, h20⟩ (fun _ s => dv_load agt97 (T rfl rfl) (Wd.cell s.2 (by omega))) <| aw_pure 8 (qd ((xs.getD (n - 1) 0) < (ys.getD (n - 1) 0))) rfl (by kernel_rfl) .none ⟨h19, h20⟩ (fun _ => dv_lss (a := xs.getD (n - 1) 0) (b := ys.getD (n - 1) 0) (T rfl rfl) (T rfl rfl)) <| aw_done (by kernel_rfl) ?_
     by_cases hb25 : (xs.getD ((n - 1)) 0) < (ys.getD ((n - 1)) 0)
     · refine rk_ct (T rfl (qT hb25)) <| rk_seq <| rk_reg <| lw_v (qi (-1)) (dv_assign C) <| lw_nil <| rk_ret Tryz.func89 (v := qi (-1)) (res1 Tryz.results89 (rv_tmp rfl rfl)) ⟨_, rfl, ?_⟩
       exact ⟨_, rfl, E18, cmp_lt (cmp_word (by decide) ox oy n (by omega) (by omega) (by omega) hd (by assumption))⟩
     · refine rk_cf (T rfl (qF hb25)) <| rk_skip <| rk_seq <| rk_any (fun w => Wd w 97 .u32 (some ⟨g21, o22, none⟩) xs ∧ Wd w 97 .u32 (some ⟨g23, o24, none⟩) ys) [] mo ?_
       intro w26 d27
       have E28 := below_ext E18 E18.size d27.ext
       have h29 := (h19.ext d27.ext)
       have h30 := (h20.ext d27.ext)
       refine aw_pure 0 (.slice (some ⟨g21, o22, none⟩) (xs.length) c) rfl (by kernel_rfl) .none ⟨h29, h30⟩ (fun _ => dv_move (T rfl f8)) <| aw_pure 1 (qi ((n : Int) - 1)) rfl (by kernel_rfl) .none ⟨h29, h30⟩ (fun _ => dv_move (T rfl f10)) <| aw_pure 2 (.pointer (some ⟨g21, o22 + (n - 1), none⟩)) rfl (by kernel_rfl) .none ⟨h29, h30⟩ (fun _ => dv_indexW (g := g21) (o := o22) (l := xs.length) (c := c) (i := (n - 1)) (j := (n : Int) - 1) us49 sz97 (T rfl rfl) (T rfl rfl) (by omega) (by omega)) <| aw_load 3 (.int .u32 (xs.getD (n - 1) 0)) rfl (by kernel_rfl) .none ⟨h29, h30⟩ (fun _ s => dv_load agt97 (T rfl rfl) (Wd.cell s.1 (by omega))) <| aw_pure 4 (.slice (some ⟨g23, o24, none⟩) (ys.length) d) rfl (by kernel_rfl) .none ⟨h29, h30⟩ (fun _ => dv_move (T rfl f9)) <| aw_pure 5 (qi ((n : Int) - 1)) rfl (by kernel_rfl) .none ⟨h29, h30⟩ (fun _ => dv_move (T rfl f10)) <| aw_pure 6 (.pointer (some ⟨g23, o24 + (n - 1), none⟩)) rfl (by kernel_rfl) .none ⟨h29, h30⟩ (fun _ => dv_indexW (g := g23) (o := o24) (l := ys.length) (c := d) (i := (n - 1)) (j := (n : Int) - 1) us49 sz97 (T rfl rfl) (T rfl rfl) (by omega) (by omega)) <| aw_load 7 (.int .u32 (ys.getD (n - 1) 0)) rfl (by kernel_rfl) .none ⟨h29, h30⟩ (fun _ s => dv_load agt97 (T rfl rfl) (Wd.cell s.2 (by omega))) <| aw_pure 8 (qd ((ys.getD (n - 1) 0) < (xs.getD (n - 1) 0))) rfl (by kernel_rfl) .none ⟨h29, h30⟩ (fun _ => dv_gtr (a := xs.getD (n - 1) 0) (b := ys.getD (n - 1) 0) (T rfl rfl) (T rfl rfl)) <| aw_done (by kernel_rfl) ?_
       by_cases hb31 : (ys.getD ((n - 1)) 0) < (xs.getD ((n - 1)) 0)
       · refine rk_ct (T rfl (qT hb31)) <| rk_seq <| rk_reg <| lw_v (qi 1) (dv_assign C) <| lw_nil <| rk_ret Tryz.func89 (v := qi 1) (res1 Tryz.results89 (rv_tmp rfl rfl)) ⟨_, rfl, ?_⟩
         exact ⟨_, rfl, E28, cmp_gt (cmp_word (by decide) oy ox n (by omega) (by omega) (by omega) hd.symm (by assumption))⟩
       · refine rk_cf (T rfl (qF hb31)) <| rk_skip <| rk_inBlock <| rk_reg <| lw_v (qi ((n : Int) - 1)) (dv_move (T rfl f10)) <| lw_v (qi (((n : Int) - 1) - 1)) (dv_sub (a := (n : Int) - 1) (b := 1) (z := ((n : Int) - 1) - 1) (T rfl rfl) C (wr_i64 (by omega) (by omega))) <| lw_v (qi (((n : Int) - 1) - 1)) (dv_assign (T rfl rfl)) <| lw_nil ?_
         exact ih5 (n - 1) _ _ (by rw [hd12]; omega) ⟨(n - 1), rfl, f8, f9, (vi (by omega)), E28, (by omega), (drop_step xs ys n (by omega) (by omega) (by omega) hd (by omega))⟩
   · refine rk_cf (T rfl (qF hb13)) <| rk_exit rfl <| rk_seq <| rk_reg <| lw_v (qi 0) (dv_assign C) <| lw_nil <| rk_ret Tryz.func89 (v := qi 0) (res1 Tryz.results89 (rv_tmp rfl rfl)) ⟨_, rfl, ?_⟩
     exact ⟨_, rfl, E11, (cmp_same (by have hn0 : n = 0 := (by omega); subst hn0; simpa using hd))⟩
theorem l1CmpAbs_wc {w : World} {A D : Option Addr} {l c l' d : Nat} {x y : Int} (h : Wc 32 97 .u32 w A l c x) (h' : Wc 32 97 .u32 w D l' d y) (hl : l ≤ 1000000) (hl' : l' ≤ 1000000) : Ct Tryz.prog 89 [.slice A l c, .slice D l' d] w fun v w1 =>
 ∃ r : Int, v = .int .i64 r ∧ Ext w w1 ∧ cmpR r x y := by
 obtain ⟨xs, rfl, hc, hw, ho, hk, rfl⟩ := h
 obtain ⟨ys, rfl, hc', hw', ho', hk', rfl⟩ := h'
 exact l1CmpAbs_ok hw hw' ho ho' hk hk' hl hl'
set_option maxHeartbeats 1000000 in
theorem l1AddAbs_ok {w : World} {A D : Option Addr} {c d : Nat} {xs ys : List Int} (hx : Wd w 97 .u32 A xs) (hy : Wd w 97 .u32 D ys) (hc : xs.length ≤ c) (hd : ys.length ≤ d) (ox : okW (2 ^ 32) xs) (oy : okW (2 ^ 32) ys) (lx : xs.length ≤ 500000) (ly : ys.length ≤ 500000) : Ct Tryz.prog 105 [.slice A (xs.length) c, .slice D (ys.length) d] w fun v w1 => ∃ A' n c', v = .slice A' n c' ∧ Ext w w1 ∧ Ws 32 97 .u32 w1 A' n c' (valB (2 ^ 32) xs + valB (2 ^ 32) ys) ∧ n ≤ xs.length + ys.length + 1 := by
 refine ct_run (n := 58) Tryz.func105 rfl Tryz.ntmps105 rfl ?_
 have E0 : Below w.heap.size w w := Below.refl _ _
 refine rk_seq <| rk_reg <| lw_v (.slice none 0 0) (dv_assign C) <| lw_nil <| rk_seq <| rk_seq <| rk_reg <| lw_v (.slice A (xs.length) c) (dv_move (T rfl rfl)) <| lw_v (qi (xs.length : Int)) (dv_len (ad := A) (l := xs.length) (c := c) us49 (T rfl rfl)) <| lw_v (.slice D (ys.length) d) (dv_move (T rfl rfl)) <| lw_v (qi (ys.length : Int)) (dv_len (ad := D) (l := ys.length) (c := d) us49 (T rfl rfl)) ?_
 refine lw_v (qd ((xs.length : Int) < (ys.length : Int))) (dv_lss (a := (xs.length : Int)) (b := (ys.length : Int)) (T rfl rfl) (T rfl rfl)) <| lw_nil ?_
 by_cases hb1 : ((xs.length : Int)) < ((ys.length : Int))
 · refine rk_ct (T rfl (qT hb1)) <| rk_reg <| lw_v (.slice D (ys.length) d) (dv_move (T rfl rfl)) <| lw_v (.slice A (xs.length) c) (dv_move (T rfl rfl)) <| lw_v (.slice D (ys.length) d) (dv_assign (T rfl rfl)) <| lw_v (.slice A (xs.length) c) (dv_assign (T rfl rfl)) <| qN <| lw_v (.slice D (ys.length) d) (dv_move (T rfl rfl)) <| lw_v (qi (ys.length : Int)) (dv_len (ad := D) (l := ys.length) (c := d) us49 (T rfl rfl)) ?_
   refine lw_v (qi ((ys.length : Int) + 1)) (dv_add (a := (ys.length : Int)) (b := 1) (z := (ys.length : Int) + 1) (T rfl rfl) C (wr_i64 (by omega) (by omega))) <| lw_e (oe_makeCapW (c := ((ys.length) + 1)) (j := (ys.length : Int) + 1) us49 in97 C (T rfl rfl) (by omega) (by first | omega | (simp; done) | (simp; omega)) (by first | omega | (simp; done) | (simp; omega)) ?_)
   intro b2 w3 n4 hO5
   have N6 : w.heap.size ≤ b2 := n4.eq ▸ E0.size
   have E7 := below_ext E0 E0.size n4.ext
   refine lw_v (.slice (some ⟨b2, 0, none⟩) (([] : List Int).length) (((ys.length) + 1))) (dv_assign (T rfl rfl)) <| qN <| lw_v (qu 0) (dv_assign C) <| lw_nil <| rk_seq <| rk_seq <| rk_reg <| lw_v (qi 0) (dv_assign C) <| lw_nil ?_
   refine rk_block <| rk_loop (fun dm_ fr wl => ∃ (i : Nat) (L : List Int) (Ad : Option Addr) (cp : Nat) (cy : Int), dm_ = ys.length - i ∧ fr 0 = .slice D (ys.length) d ∧ fr 1 = .slice A (xs.length) c ∧ fr 4 = .slice none 0 0 ∧ fr 5 = .slice Ad (L.length) cp ∧ fr 6 = qu cy ∧ fr 7 = qi (i : Int) ∧ Below w.heap.size w wl ∧ Ow wl b2 97 .u32 Ad cp L ∧ (i ≤ ys.length) ∧ (L.length = i) ∧ (okW (2 ^ 32) L) ∧ (0 ≤ cy ∧ cy ≤ 1) ∧ (valB (2 ^ 32) L + cy * (2 ^ 32) ^ i = valB (2 ^ 32) (ys.take i) + valB (2 ^ 32) (xs.take i))) (ys.length - 0) ⟨0, ([] : List Int), (some ⟨b2, 0, none⟩), (((ys.length) + 1)), 0, rfl, rfl, rfl, rfl, rfl, rfl, (vi (by omega)), E7, hO5, (Nat.zero_le _), rfl, okW.nil, (by decide), (by simp [valB])⟩ ?_
   intro d12 fr11 w8 hI9 ih10
   obtain ⟨i, L, Ad, cp, cy, hd21, f13, f14, f15, f16, f17, f18, E19, h20, hi, hl, hok, hcy, hv⟩ := hI9
   have bxs := okW.getD ox (by decide) i
   have gxs := getD_ge xs i
   have bys := okW.getD oy (by decide) i
   have gys := getD_ge ys i
   refine rk_seq <| rk_seq <| rk_reg <| lw_v (qi (i : Int)) (dv_move (T rfl f18)) <| lw_v (.slice D (ys.length) d) (dv_move (T rfl f13)) <| lw_v (qi (ys.length : Int)) (dv_len (ad := D) (l := ys.length) (c := d) us49 (T rfl rfl)) <| lw_v (qd ((i : Int) < (ys.length : Int))) (dv_lss (a := (i : Int)) (b := (ys.length : Int)) (T rfl rfl) (T rfl rfl)) <| lw_nil ?_
   by_cases hb22 : ((i : Int)) < ((ys.length : Int))
   · refine rk_ct (T rfl (qT hb22)) <| rk_skip <| rk_seq <| rk_block <| rk_seq <| rk_reg <| lw_v (qu cy) (dv_move (T rfl f17)) <| lw_v (.slice D (ys.length) d) (dv_move (T rfl f13)) <| lw_v (qi (i : Int)) (dv_move (T rfl f18)) ?_
     have h23 := (hy.ext E19)
     obtain ⟨g24, o25, rfl⟩ := Wd.at h23 (by first | omega | (simp; done) | (simp; omega))
     refine lw_v (.pointer (some ⟨g24, o25 + i, none⟩)) (dv_indexW (g := g24) (o := o25) (l := ys.length) (c := d) (i := i) (j := (i : Int)) us49 sz97 (T rfl rfl) (T rfl rfl) (by omega) (by first | omega | (simp; done) | (simp; omega))) <| lw_v (.int .u32 (ys.getD i 0)) (dv_load agt97 (T rfl rfl) (Wd.cell h23 (by first | omega | (simp; done) | (simp; omega)))) <| lw_v (qu (ys.getD i 0)) (dv_conv (a := ys.getD i 0) (z := ys.getD i 0) ui97 ui23 (T rfl rfl) (wn_u64 (by omega) (by omega))) <| lw_v (qu (cy + (ys.getD i 0))) (dv_add (a := cy) (b := ys.getD i 0) (z := cy + (ys.getD i 0)) (T rfl rfl) (T rfl rfl) (wn_u64 (by omega) (by omega))) <| lw_v (qu (cy + (ys.getD i 0))) (dv_assign (T rfl rfl)) <| lw_nil <| rk_seq <| rk_seq <| rk_reg <| lw_v (qi (i : Int)) (dv_move (T rfl f18)) <| lw_v (.slice A (xs.length) c) (dv_move (T rfl f14)) ?_
     refine lw_v (qi (xs.length : Int)) (dv_len (ad := A) (l := xs.length) (c := c) us49 (T rfl rfl)) <| lw_v (qd ((i : Int) < (xs.length : Int))) (dv_lss (a := (i : Int)) (b := (xs.length : Int)) (T rfl rfl) (T rfl rfl)) <| lw_nil ?_
     by_cases hb26 : ((i : Int)) < ((xs.length : Int))
     · refine rk_ct (T rfl (qT hb26)) <| rk_reg <| lw_v (qu (cy + (ys.getD i 0))) (dv_move (T rfl rfl)) <| lw_v (.slice A (xs.length) c) (dv_move (T rfl f14)) <| lw_v (qi (i : Int)) (dv_move (T rfl f18)) ?_
       have h27 := (hx.ext E19)
       obtain ⟨g28, o29, rfl⟩ := Wd.at h27 (by first | omega | (simp; done) | (simp; omega))
       refine lw_v (.pointer (some ⟨g28, o29 + i, none⟩)) (dv_indexW (g := g28) (o := o29) (l := xs.length) (c := c) (i := i) (j := (i : Int)) us49 sz97 (T rfl rfl) (T rfl rfl) (by omega) (by first | omega | (simp; done) | (simp; omega))) <| lw_v (.int .u32 (xs.getD i 0)) (dv_load agt97 (T rfl rfl) (Wd.cell h27 (by first | omega | (simp; done) | (simp; omega)))) <| lw_v (qu (xs.getD i 0)) (dv_conv (a := xs.getD i 0) (z := xs.getD i 0) ui97 ui23 (T rfl rfl) (wn_u64 (by omega) (by omega))) <| lw_v (qu ((cy + (ys.getD i 0)) + (xs.getD i 0))) (dv_add (a := cy + (ys.getD i 0)) (b := xs.getD i 0) (z := (cy + (ys.getD i 0)) + (xs.getD i 0)) (T rfl rfl) (T rfl rfl) (wn_u64 (by omega) (by omega))) <| lw_v (qu ((cy + (ys.getD i 0)) + (xs.getD i 0))) (dv_assign (T rfl rfl)) <| qN <| lw_v (.slice Ad (L.length) cp) (dv_move (T rfl f16)) <| lw_v (qu ((cy + (ys.getD i 0)) + (xs.getD i 0))) (dv_move (T rfl rfl)) <| lw_v (.int .u32 (((cy + (ys.getD i 0)) + (xs.getD i 0)) % 4294967296)) (dv_conv (a := (cy + (ys.getD i 0)) + (xs.getD i 0)) (z := ((cy + (ys.getD i 0)) + (xs.getD i 0)) % 4294967296) ui23 ui97 (T rfl rfl) (wr_u32 _)) ?_
       refine lw_e (oe_buildSlice (pv := [(0, .int .u32 (((cy + (ys.getD i 0)) + (xs.getD i 0)) % 4294967296))]) (init := [.int .u32 0]) (l := [.int .u32 (((cy + (ys.getD i 0)) + (xs.getD i 0)) % 4294967296)]) us49 sz97 rfl rfl zc97 (by kernel_rfl) ⟨rfl, (T rfl rfl), trivial⟩ rfl ?_)
       intro b30 w31 n32
       have N33 : w.heap.size ≤ b30 := n32.eq ▸ E19.size
       have E34 := below_ext E19 E19.size n32.ext
       have h35 := (h20.ext n32.ext)
       refine lw_e (oe_appendW (base := b2) (L := L) (M := [((cy + (ys.getD i 0)) + (xs.getD i 0)) % 4294967296]) (m := 1) us49 in97 (T rfl rfl) (T rfl rfl) h35 (Wd.ownW (xs := [((cy + (ys.getD i 0)) + (xs.getD i 0)) % 4294967296]) n32.blk) rfl (by first | omega | (simp; done) | (simp; omega)) (by first | omega | (simp; done) | (simp; omega)) ?_)
       intro Ad36 c37 w38 hO39 x40
       have E41 := below_bl E34 N6 x40
       refine lw_v (.slice Ad36 ((L ++ [((cy + (ys.getD i 0)) + (xs.getD i 0)) % 4294967296]).length) c37) (dv_assign (T rfl rfl)) <| lw_nil <| rk_reg <| lw_v (qu ((cy + (ys.getD i 0)) + (xs.getD i 0))) (dv_move (T rfl rfl)) <| lw_v (qu (((cy + (ys.getD i 0)) + (xs.getD i 0)) / 4294967296)) (dv_shr (a := (cy + (ys.getD i 0)) + (xs.getD i 0)) (b := 32) (z := ((cy + (ys.getD i 0)) + (xs.getD i 0)) / 4294967296) (T rfl rfl) C (by decide) (shr_c (n := 32) (by omega) (by decide))) <| lw_v (qu (((cy + (ys.getD i 0)) + (xs.getD i 0)) / 4294967296)) (dv_assign (T rfl rfl)) <| lw_nil <| rk_inBlock <| rk_reg <| lw_v (qi (i : Int)) (dv_move (T rfl f18)) <| lw_v (qi ((i : Int) + 1)) (dv_add (a := (i : Int)) (b := 1) (z := (i : Int) + 1) (T rfl rfl) C (wr_i64 (by omega) (by omega))) ?_
       refine lw_v (qi ((i : Int) + 1)) (dv_assign (T rfl rfl)) <| lw_nil ?_
       exact ih10 (ys.length - (i + 1)) _ _ (by rw [hd21]; omega) ⟨(i + 1), (L ++ [((cy + (ys.getD i 0)) + (xs.getD i 0)) % 4294967296]), Ad36, c37, (((cy + (ys.getD i 0)) + (xs.getD i 0)) / 4294967296), rfl, f13, f14, f15, rfl, rfl, (vi (by omega)), E41, hO39, (by omega), (by simp [hl]), (okW.snoc hok (by omega) (by omega)), (by omega), (add_app hl hv (by omega))⟩
     · refine rk_cf (T rfl (qF hb26)) <| rk_skip <| rk_seq <| rk_reg <| lw_v (.slice Ad (L.length) cp) (dv_move (T rfl f16)) <| lw_v (qu (cy + (ys.getD i 0))) (dv_move (T rfl rfl)) <| lw_v (.int .u32 ((cy + (ys.getD i 0)) % 4294967296)) (dv_conv (a := cy + (ys.getD i 0)) (z := (cy + (ys.getD i 0)) % 4294967296) ui23 ui97 (T rfl rfl) (wr_u32 _)) <| lw_e (oe_buildSlice (pv := [(0, .int .u32 ((cy + (ys.getD i 0)) % 4294967296))]) (init := [.int .u32 0]) (l := [.int .u32 ((cy + (ys.getD i 0)) % 4294967296)]) us49 sz97 rfl rfl zc97 (by kernel_rfl) ⟨rfl, (T rfl rfl), trivial⟩ rfl ?_)
       intro b42 w43 n44
       have N45 : w.heap.size ≤ b42 := n44.eq ▸ E19.size
       have E46 := below_ext E19 E19.size n44.ext
       have h47 := (h20.ext n44.ext)
       refine lw_e (oe_appendW (base := b2) (L := L) (M := [(cy + (ys.getD i 0)) % 4294967296]) (m := 1) us49 in97 (T rfl rfl) (T rfl rfl) h47 (Wd.ownW (xs := [(cy + (ys.getD i 0)) % 4294967296]) n44.blk) rfl (by first | omega | (simp; done) | (simp; omega)) (by first | omega | (simp; done) | (simp; omega)) ?_)
       intro Ad48 c49 w50 hO51 x52
       have E53 := below_bl E46 N6 x52
       refine lw_v (.slice Ad48 ((L ++ [(cy + (ys.getD i 0)) % 4294967296]).length) c49) (dv_assign (T rfl rfl)) <| lw_nil <| rk_reg <| lw_v (qu (cy + (ys.getD i 0))) (dv_move (T rfl rfl)) <| lw_v (qu ((cy + (ys.getD i 0)) / 4294967296)) (dv_shr (a := cy + (ys.getD i 0)) (b := 32) (z := (cy + (ys.getD i 0)) / 4294967296) (T rfl rfl) C (by decide) (shr_c (n := 32) (by omega) (by decide))) <| lw_v (qu ((cy + (ys.getD i 0)) / 4294967296)) (dv_assign (T rfl rfl)) <| lw_nil <| rk_inBlock <| rk_reg <| lw_v (qi (i : Int)) (dv_move (T rfl f18)) <| lw_v (qi ((i : Int) + 1)) (dv_add (a := (i : Int)) (b := 1) (z := (i : Int) + 1) (T rfl rfl) C (wr_i64 (by omega) (by omega))) ?_
       refine lw_v (qi ((i : Int) + 1)) (dv_assign (T rfl rfl)) <| lw_nil ?_
       exact ih10 (ys.length - (i + 1)) _ _ (by rw [hd21]; omega) ⟨(i + 1), (L ++ [(cy + (ys.getD i 0)) % 4294967296]), Ad48, c49, ((cy + (ys.getD i 0)) / 4294967296), rfl, f13, f14, f15, rfl, rfl, (vi (by omega)), E53, hO51, (by omega), (by simp [hl]), (okW.snoc hok (by omega) (by omega)), (by omega), (add_app hl hv (by omega))⟩
   · refine rk_cf (T rfl (qF hb22)) <| rk_exit rfl <| rk_seq <| rk_seq <| rk_reg <| lw_v (qu cy) (dv_move (T rfl f17)) <| lw_v (qd (0 < cy)) (dv_gtr (a := cy) (b := 0) (T rfl rfl) C) <| lw_nil ?_
     by_cases hb54 : 0 < cy
     · refine rk_ct (T rfl (qT hb54)) <| rk_reg <| lw_v (.slice Ad (L.length) cp) (dv_move (T rfl f16)) <| lw_v (qu cy) (dv_move (T rfl f17)) <| lw_v (.int .u32 ((cy) % 4294967296)) (dv_conv (a := cy) (z := (cy) % 4294967296) ui23 ui97 (T rfl rfl) (wr_u32 _)) <| lw_e (oe_buildSlice (pv := [(0, .int .u32 ((cy) % 4294967296))]) (init := [.int .u32 0]) (l := [.int .u32 ((cy) % 4294967296)]) us49 sz97 rfl rfl zc97 (by kernel_rfl) ⟨rfl, (T rfl rfl), trivial⟩ rfl ?_)
       intro b55 w56 n57
       have N58 : w.heap.size ≤ b55 := n57.eq ▸ E19.size
       have E59 := below_ext E19 E19.size n57.ext
       have h60 := (h20.ext n57.ext)
       refine lw_e (oe_appendW (base := b2) (L := L) (M := [(cy) % 4294967296]) (m := 1) us49 in97 (T rfl rfl) (T rfl rfl) h60 (Wd.ownW (xs := [(cy) % 4294967296]) n57.blk) rfl (by first | omega | (simp; done) | (simp; omega)) (by first | omega | (simp; done) | (simp; omega)) ?_)
       intro Ad61 c62 w63 hO64 x65
       have E66 := below_bl E59 N6 x65
       refine lw_v (.slice Ad61 ((L ++ [(cy) % 4294967296]).length) c62) (dv_assign (T rfl rfl)) <| qN <| lw_v (.slice Ad61 ((L ++ [(cy) % 4294967296]).length) c62) (dv_move (T rfl rfl)) <| lw_v (.slice Ad61 ((L ++ [(cy) % 4294967296]).length) c62) (dv_assign (T rfl rfl)) <| lw_nil <| rk_ret Tryz.func105 (v := .slice Ad61 ((L ++ [(cy) % 4294967296]).length) c62) (res1 Tryz.results105 (rv_tmp rfl rfl)) ⟨_, rfl, ?_⟩
       exact ⟨_, _, _, rfl, E66, ⟨(L ++ [(cy) % 4294967296]), rfl, hO64.cap, hO64.wd, okW.snoc hok (by omega) (by omega), (by rw [show cy % 4294967296 = cy by omega]; first | exact (add_app_fin hl (by omega) (by omega) hv).1.symm | exact (Int.add_comm _ _).trans (add_app_fin hl (by omega) (by omega) hv).1.symm)⟩, by first | omega | (simp; omega)⟩
     · refine rk_cf (T rfl (qF hb54)) <| rk_skip <| rk_seq <| rk_reg <| lw_v (.slice Ad (L.length) cp) (dv_move (T rfl f16)) <| lw_v (.slice Ad (L.length) cp) (dv_assign (T rfl rfl)) <| lw_nil <| rk_ret Tryz.func105 (v := .slice Ad (L.length) cp) (res1 Tryz.results105 (rv_tmp rfl rfl)) ⟨_, rfl, ?_⟩
       exact ⟨_, _, _, rfl, E19, ⟨L, rfl, h20.cap, h20.wd, hok, (by first | exact ((add_app_fin hl (by omega) (by omega) hv).2 (by omega)).symm | exact (Int.add_comm _ _).trans ((add_app_fin hl (by omega) (by omega) hv).2 (by omega)).symm)⟩, by first | omega | (simp; omega)⟩
 · refine rk_cf (T rfl (qF hb1)) <| rk_skip <| rk_seq <| rk_reg <| lw_v (.slice A (xs.length) c) (dv_move (T rfl rfl)) <| lw_v (qi (xs.length : Int)) (dv_len (ad := A) (l := xs.length) (c := c) us49 (T rfl rfl)) <| lw_v (qi ((xs.length : Int) + 1)) (dv_add (a := (xs.length : Int)) (b := 1) (z := (xs.length : Int) + 1) (T rfl rfl) C (wr_i64 (by omega) (by omega))) <| lw_e (oe_makeCapW (c := ((xs.length) + 1)) (j := (xs.length : Int) + 1) us49 in97 C (T rfl rfl) (by omega) (by first | omega | (simp; done) | (simp; omega)) (by first | omega | (simp; done) | (simp; omega)) ?_)
   intro b67 w68 n69 hO70
   have N71 : w.heap.size ≤ b67 := n69.eq ▸ E0.size
   have E72 := below_ext E0 E0.size n69.ext
   refine lw_v (.slice (some ⟨b67, 0, none⟩) (([] : List Int).length) (((xs.length) + 1))) (dv_assign (T rfl rfl)) <| qN <| lw_v (qu 0) (dv_assign C) <| lw_nil <| rk_seq <| rk_seq <| rk_reg <| lw_v (qi 0) (dv_assign C) <| lw_nil ?_
   refine rk_block <| rk_loop (fun dm_ fr wl => ∃ (i : Nat) (L : List Int) (Ad : Option Addr) (cp : Nat) (cy : Int), dm_ = xs.length - i ∧ fr 0 = .slice A (xs.length) c ∧ fr 1 = .slice D (ys.length) d ∧ fr 4 = .slice none 0 0 ∧ fr 5 = .slice Ad (L.length) cp ∧ fr 6 = qu cy ∧ fr 7 = qi (i : Int) ∧ Below w.heap.size w wl ∧ Ow wl b67 97 .u32 Ad cp L ∧ (i ≤ xs.length) ∧ (L.length = i) ∧ (okW (2 ^ 32) L) ∧ (0 ≤ cy ∧ cy ≤ 1) ∧ (valB (2 ^ 32) L + cy * (2 ^ 32) ^ i = valB (2 ^ 32) (xs.take i) + valB (2 ^ 32) (ys.take i))) (xs.length - 0) ⟨0, ([] : List Int), (some ⟨b67, 0, none⟩), (((xs.length) + 1)), 0, rfl, rfl, rfl, rfl, rfl, rfl, (vi (by omega)), E72, hO70, (Nat.zero_le _), rfl, okW.nil, (by decide), (by simp [valB])⟩ ?_
   intro d77 fr76 w73 hI74 ih75
   obtain ⟨i, L, Ad, cp, cy, hd86, f78, f79, f80, f81, f82, f83, E84, h85, hi, hl, hok, hcy, hv⟩ := hI74
   have bxs := okW.getD ox (by decide) i
   have gxs := getD_ge xs i
   have bys := okW.getD oy (by decide) i
   have gys := getD_ge ys i
   refine rk_seq <| rk_seq <| rk_reg <| lw_v (qi (i : Int)) (dv_move (T rfl f83)) <| lw_v (.slice A (xs.length) c) (dv_move (T rfl f78)) <| lw_v (qi (xs.length : Int)) (dv_len (ad := A) (l := xs.length) (c := c) us49 (T rfl rfl)) <| lw_v (qd ((i : Int) < (xs.length : Int))) (dv_lss (a := (i : Int)) (b := (xs.length : Int)) (T rfl rfl) (T rfl rfl)) <| lw_nil ?_
   by_cases hb87 : ((i : Int)) < ((xs.length : Int))
   · refine rk_ct (T rfl (qT hb87)) <| rk_skip <| rk_seq <| rk_block <| rk_seq <| rk_reg <| lw_v (qu cy) (dv_move (T rfl f82)) <| lw_v (.slice A (xs.length) c) (dv_move (T rfl f78)) <| lw_v (qi (i : Int)) (dv_move (T rfl f83)) ?_
     have h88 := (hx.ext E84)
     obtain ⟨g89, o90, rfl⟩ := Wd.at h88 (by first | omega | (simp; done) | (simp; omega))
     refine lw_v (.pointer (some ⟨g89, o90 + i, none⟩)) (dv_indexW (g := g89) (o := o90) (l := xs.length) (c := c) (i := i) (j := (i : Int)) us49 sz97 (T rfl rfl) (T rfl rfl) (by omega) (by first | omega | (simp; done) | (simp; omega))) <| lw_v (.int .u32 (xs.getD i 0)) (dv_load agt97 (T rfl rfl) (Wd.cell h88 (by first | omega | (simp; done) | (simp; omega)))) <| lw_v (qu (xs.getD i 0)) (dv_conv (a := xs.getD i 0) (z := xs.getD i 0) ui97 ui23 (T rfl rfl) (wn_u64 (by omega) (by omega))) <| lw_v (qu (cy + (xs.getD i 0))) (dv_add (a := cy) (b := xs.getD i 0) (z := cy + (xs.getD i 0)) (T rfl rfl) (T rfl rfl) (wn_u64 (by omega) (by omega))) <| lw_v (qu (cy + (xs.getD i 0))) (dv_assign (T rfl rfl)) <| lw_nil <| rk_seq <| rk_seq <| rk_reg <| lw_v (qi (i : Int)) (dv_move (T rfl f83)) <| lw_v (.slice D (ys.length) d) (dv_move (T rfl f79)) ?_
     refine lw_v (qi (ys.length : Int)) (dv_len (ad := D) (l := ys.length) (c := d) us49 (T rfl rfl)) <| lw_v (qd ((i : Int) < (ys.length : Int))) (dv_lss (a := (i : Int)) (b := (ys.length : Int)) (T rfl rfl) (T rfl rfl)) <| lw_nil ?_
     by_cases hb91 : ((i : Int)) < ((ys.length : Int))
     · refine rk_ct (T rfl (qT hb91)) <| rk_reg <| lw_v (qu (cy + (xs.getD i 0))) (dv_move (T rfl rfl)) <| lw_v (.slice D (ys.length) d) (dv_move (T rfl f79)) <| lw_v (qi (i : Int)) (dv_move (T rfl f83)) ?_
       have h92 := (hy.ext E84)
       obtain ⟨g93, o94, rfl⟩ := Wd.at h92 (by first | omega | (simp; done) | (simp; omega))
       refine lw_v (.pointer (some ⟨g93, o94 + i, none⟩)) (dv_indexW (g := g93) (o := o94) (l := ys.length) (c := d) (i := i) (j := (i : Int)) us49 sz97 (T rfl rfl) (T rfl rfl) (by omega) (by first | omega | (simp; done) | (simp; omega))) <| lw_v (.int .u32 (ys.getD i 0)) (dv_load agt97 (T rfl rfl) (Wd.cell h92 (by first | omega | (simp; done) | (simp; omega)))) <| lw_v (qu (ys.getD i 0)) (dv_conv (a := ys.getD i 0) (z := ys.getD i 0) ui97 ui23 (T rfl rfl) (wn_u64 (by omega) (by omega))) <| lw_v (qu ((cy + (xs.getD i 0)) + (ys.getD i 0))) (dv_add (a := cy + (xs.getD i 0)) (b := ys.getD i 0) (z := (cy + (xs.getD i 0)) + (ys.getD i 0)) (T rfl rfl) (T rfl rfl) (wn_u64 (by omega) (by omega))) <| lw_v (qu ((cy + (xs.getD i 0)) + (ys.getD i 0))) (dv_assign (T rfl rfl)) <| qN <| lw_v (.slice Ad (L.length) cp) (dv_move (T rfl f81)) <| lw_v (qu ((cy + (xs.getD i 0)) + (ys.getD i 0))) (dv_move (T rfl rfl)) <| lw_v (.int .u32 (((cy + (xs.getD i 0)) + (ys.getD i 0)) % 4294967296)) (dv_conv (a := (cy + (xs.getD i 0)) + (ys.getD i 0)) (z := ((cy + (xs.getD i 0)) + (ys.getD i 0)) % 4294967296) ui23 ui97 (T rfl rfl) (wr_u32 _)) ?_
       refine lw_e (oe_buildSlice (pv := [(0, .int .u32 (((cy + (xs.getD i 0)) + (ys.getD i 0)) % 4294967296))]) (init := [.int .u32 0]) (l := [.int .u32 (((cy + (xs.getD i 0)) + (ys.getD i 0)) % 4294967296)]) us49 sz97 rfl rfl zc97 (by kernel_rfl) ⟨rfl, (T rfl rfl), trivial⟩ rfl ?_)
       intro b95 w96 n97
       have N98 : w.heap.size ≤ b95 := n97.eq ▸ E84.size
       have E99 := below_ext E84 E84.size n97.ext
       have h100 := (h85.ext n97.ext)
       refine lw_e (oe_appendW (base := b67) (L := L) (M := [((cy + (xs.getD i 0)) + (ys.getD i 0)) % 4294967296]) (m := 1) us49 in97 (T rfl rfl) (T rfl rfl) h100 (Wd.ownW (xs := [((cy + (xs.getD i 0)) + (ys.getD i 0)) % 4294967296]) n97.blk) rfl (by first | omega | (simp; done) | (simp; omega)) (by first | omega | (simp; done) | (simp; omega)) ?_)
       intro Ad101 c102 w103 hO104 x105
       have E106 := below_bl E99 N71 x105
       refine lw_v (.slice Ad101 ((L ++ [((cy + (xs.getD i 0)) + (ys.getD i 0)) % 4294967296]).length) c102) (dv_assign (T rfl rfl)) <| lw_nil <| rk_reg <| lw_v (qu ((cy + (xs.getD i 0)) + (ys.getD i 0))) (dv_move (T rfl rfl)) <| lw_v (qu (((cy + (xs.getD i 0)) + (ys.getD i 0)) / 4294967296)) (dv_shr (a := (cy + (xs.getD i 0)) + (ys.getD i 0)) (b := 32) (z := ((cy + (xs.getD i 0)) + (ys.getD i 0)) / 4294967296) (T rfl rfl) C (by decide) (shr_c (n := 32) (by omega) (by decide))) <| lw_v (qu (((cy + (xs.getD i 0)) + (ys.getD i 0)) / 4294967296)) (dv_assign (T rfl rfl)) <| lw_nil <| rk_inBlock <| rk_reg <| lw_v (qi (i : Int)) (dv_move (T rfl f83)) <| lw_v (qi ((i : Int) + 1)) (dv_add (a := (i : Int)) (b := 1) (z := (i : Int) + 1) (T rfl rfl) C (wr_i64 (by omega) (by omega))) ?_
       refine lw_v (qi ((i : Int) + 1)) (dv_assign (T rfl rfl)) <| lw_nil ?_
       exact ih75 (xs.length - (i + 1)) _ _ (by rw [hd86]; omega) ⟨(i + 1), (L ++ [((cy + (xs.getD i 0)) + (ys.getD i 0)) % 4294967296]), Ad101, c102, (((cy + (xs.getD i 0)) + (ys.getD i 0)) / 4294967296), rfl, f78, f79, f80, rfl, rfl, (vi (by omega)), E106, hO104, (by omega), (by simp [hl]), (okW.snoc hok (by omega) (by omega)), (by omega), (add_app hl hv (by omega))⟩
     · refine rk_cf (T rfl (qF hb91)) <| rk_skip <| rk_seq <| rk_reg <| lw_v (.slice Ad (L.length) cp) (dv_move (T rfl f81)) <| lw_v (qu (cy + (xs.getD i 0))) (dv_move (T rfl rfl)) <| lw_v (.int .u32 ((cy + (xs.getD i 0)) % 4294967296)) (dv_conv (a := cy + (xs.getD i 0)) (z := (cy + (xs.getD i 0)) % 4294967296) ui23 ui97 (T rfl rfl) (wr_u32 _)) <| lw_e (oe_buildSlice (pv := [(0, .int .u32 ((cy + (xs.getD i 0)) % 4294967296))]) (init := [.int .u32 0]) (l := [.int .u32 ((cy + (xs.getD i 0)) % 4294967296)]) us49 sz97 rfl rfl zc97 (by kernel_rfl) ⟨rfl, (T rfl rfl), trivial⟩ rfl ?_)
       intro b107 w108 n109
       have N110 : w.heap.size ≤ b107 := n109.eq ▸ E84.size
       have E111 := below_ext E84 E84.size n109.ext
       have h112 := (h85.ext n109.ext)
       refine lw_e (oe_appendW (base := b67) (L := L) (M := [(cy + (xs.getD i 0)) % 4294967296]) (m := 1) us49 in97 (T rfl rfl) (T rfl rfl) h112 (Wd.ownW (xs := [(cy + (xs.getD i 0)) % 4294967296]) n109.blk) rfl (by first | omega | (simp; done) | (simp; omega)) (by first | omega | (simp; done) | (simp; omega)) ?_)
       intro Ad113 c114 w115 hO116 x117
       have E118 := below_bl E111 N71 x117
       refine lw_v (.slice Ad113 ((L ++ [(cy + (xs.getD i 0)) % 4294967296]).length) c114) (dv_assign (T rfl rfl)) <| lw_nil <| rk_reg <| lw_v (qu (cy + (xs.getD i 0))) (dv_move (T rfl rfl)) <| lw_v (qu ((cy + (xs.getD i 0)) / 4294967296)) (dv_shr (a := cy + (xs.getD i 0)) (b := 32) (z := (cy + (xs.getD i 0)) / 4294967296) (T rfl rfl) C (by decide) (shr_c (n := 32) (by omega) (by decide))) <| lw_v (qu ((cy + (xs.getD i 0)) / 4294967296)) (dv_assign (T rfl rfl)) <| lw_nil <| rk_inBlock <| rk_reg <| lw_v (qi (i : Int)) (dv_move (T rfl f83)) <| lw_v (qi ((i : Int) + 1)) (dv_add (a := (i : Int)) (b := 1) (z := (i : Int) + 1) (T rfl rfl) C (wr_i64 (by omega) (by omega))) ?_
       refine lw_v (qi ((i : Int) + 1)) (dv_assign (T rfl rfl)) <| lw_nil ?_
       exact ih75 (xs.length - (i + 1)) _ _ (by rw [hd86]; omega) ⟨(i + 1), (L ++ [(cy + (xs.getD i 0)) % 4294967296]), Ad113, c114, ((cy + (xs.getD i 0)) / 4294967296), rfl, f78, f79, f80, rfl, rfl, (vi (by omega)), E118, hO116, (by omega), (by simp [hl]), (okW.snoc hok (by omega) (by omega)), (by omega), (add_app hl hv (by omega))⟩
   · refine rk_cf (T rfl (qF hb87)) <| rk_exit rfl <| rk_seq <| rk_seq <| rk_reg <| lw_v (qu cy) (dv_move (T rfl f82)) <| lw_v (qd (0 < cy)) (dv_gtr (a := cy) (b := 0) (T rfl rfl) C) <| lw_nil ?_
     by_cases hb119 : 0 < cy
     · refine rk_ct (T rfl (qT hb119)) <| rk_reg <| lw_v (.slice Ad (L.length) cp) (dv_move (T rfl f81)) <| lw_v (qu cy) (dv_move (T rfl f82)) <| lw_v (.int .u32 ((cy) % 4294967296)) (dv_conv (a := cy) (z := (cy) % 4294967296) ui23 ui97 (T rfl rfl) (wr_u32 _)) <| lw_e (oe_buildSlice (pv := [(0, .int .u32 ((cy) % 4294967296))]) (init := [.int .u32 0]) (l := [.int .u32 ((cy) % 4294967296)]) us49 sz97 rfl rfl zc97 (by kernel_rfl) ⟨rfl, (T rfl rfl), trivial⟩ rfl ?_)
       intro b120 w121 n122
       have N123 : w.heap.size ≤ b120 := n122.eq ▸ E84.size
       have E124 := below_ext E84 E84.size n122.ext
       have h125 := (h85.ext n122.ext)
       refine lw_e (oe_appendW (base := b67) (L := L) (M := [(cy) % 4294967296]) (m := 1) us49 in97 (T rfl rfl) (T rfl rfl) h125 (Wd.ownW (xs := [(cy) % 4294967296]) n122.blk) rfl (by first | omega | (simp; done) | (simp; omega)) (by first | omega | (simp; done) | (simp; omega)) ?_)
       intro Ad126 c127 w128 hO129 x130
       have E131 := below_bl E124 N71 x130
       refine lw_v (.slice Ad126 ((L ++ [(cy) % 4294967296]).length) c127) (dv_assign (T rfl rfl)) <| qN <| lw_v (.slice Ad126 ((L ++ [(cy) % 4294967296]).length) c127) (dv_move (T rfl rfl)) <| lw_v (.slice Ad126 ((L ++ [(cy) % 4294967296]).length) c127) (dv_assign (T rfl rfl)) <| lw_nil <| rk_ret Tryz.func105 (v := .slice Ad126 ((L ++ [(cy) % 4294967296]).length) c127) (res1 Tryz.results105 (rv_tmp rfl rfl)) ⟨_, rfl, ?_⟩
       exact ⟨_, _, _, rfl, E131, ⟨(L ++ [(cy) % 4294967296]), rfl, hO129.cap, hO129.wd, okW.snoc hok (by omega) (by omega), (by rw [show cy % 4294967296 = cy by omega]; first | exact (add_app_fin hl (by omega) (by omega) hv).1.symm | exact (Int.add_comm _ _).trans (add_app_fin hl (by omega) (by omega) hv).1.symm)⟩, by first | omega | (simp; omega)⟩
     · refine rk_cf (T rfl (qF hb119)) <| rk_skip <| rk_seq <| rk_reg <| lw_v (.slice Ad (L.length) cp) (dv_move (T rfl f81)) <| lw_v (.slice Ad (L.length) cp) (dv_assign (T rfl rfl)) <| lw_nil <| rk_ret Tryz.func105 (v := .slice Ad (L.length) cp) (res1 Tryz.results105 (rv_tmp rfl rfl)) ⟨_, rfl, ?_⟩
       exact ⟨_, _, _, rfl, E84, ⟨L, rfl, h85.cap, h85.wd, hok, (by first | exact ((add_app_fin hl (by omega) (by omega) hv).2 (by omega)).symm | exact (Int.add_comm _ _).trans ((add_app_fin hl (by omega) (by omega) hv).2 (by omega)).symm)⟩, by first | omega | (simp; omega)⟩
theorem l1AddAbs_ws {w : World} {A D : Option Addr} {l c l' d : Nat} {x y : Int} (h : Ws 32 97 .u32 w A l c x) (h' : Ws 32 97 .u32 w D l' d y) (hl : l ≤ 500000) (hl' : l' ≤ 500000) : Ct Tryz.prog 105 [.slice A l c, .slice D l' d] w fun v w1 =>
 ∃ A' n c', v = .slice A' n c' ∧ Ext w w1 ∧ Ws 32 97 .u32 w1 A' n c' (x + y) ∧ n ≤ l + l' + 1 := by
 obtain ⟨xs, rfl, hc, hw, ho, hv⟩ := h
 obtain ⟨ys, rfl, hc', hw', ho', hv'⟩ := h'
 subst hv; subst hv'
 exact l1AddAbs_ok hw hw' hc hc' ho ho' hl hl'
set_option maxHeartbeats 1000000 in
theorem l1Neg_ok {w : World} {na : Bool} {Aa : Option Addr} {la ca : Nat} {x : Int} {sx : Nat} (ha : Num 32 97 .u32 w na Aa la ca x sx) : Ct Tryz.prog 88 [.agg #[.bool na, .slice Aa la ca]] w fun v w1 => ∃ nr A' n c', v = .agg #[.bool nr, .slice A' n c'] ∧ Ext w w1 ∧ Num 32 97 .u32 w1 nr A' n c' (-x) (sx) := by
 refine ct_run (n := 14) Tryz.func88 rfl Tryz.ntmps88 rfl ?_
 have E0 : Below w.heap.size w w := Below.refl _ _
 refine rk_seq <| rk_reg <| lw_e (oe_box (v := .agg #[.bool na, .slice Aa la ca]) (cs := #[.bool na, .slice Aa la ca]) (T rfl rfl) rfl ?_)
 intro b1 w2 n3
 have N4 : w.heap.size ≤ b1 := n3.eq ▸ E0.size
 have E5 := below_ext E0 E0.size n3.ext
 refine lw_e (oe_alloc ze51 ?_)
 intro b6 w7 n8
 have N9 : w.heap.size ≤ b6 := n8.eq ▸ E5.size
 have : b1 < b6 := n8.eq ▸ lt_of_blk n3.blk
 have E10 := below_ext E5 E5.size n8.ext
 refine lw_nil <| rk_seq <| rk_seq <| rk_reg <| lw_v (.pointer (some ⟨b1, 1, none⟩)) (dv_fieldAddr (a := ⟨b1, 0, none⟩) (a' := ⟨b1, 1, none⟩) fo51_1 (T rfl rfl) rfl) ?_
 have H11 := (n8.ext.blk n3.blk)
 refine lw_v (.slice Aa la ca) (dv_load1 (b := b1) (o := 1) agt49 (T rfl rfl) H11 rfl) <| lw_v (qi (la : Int)) (dv_len (ad := Aa) (l := la) (c := ca) us49 (T rfl rfl)) <| lw_v (qd ((la : Int) = 0)) (dv_eql (a := (la : Int)) (b := 0) (T rfl rfl) C) <| lw_nil ?_
 by_cases hb12 : ((la : Int)) = 0
 · refine rk_ct (T rfl (qT hb12)) <| rk_seq <| rk_reg <| lw_v (.agg #[.bool na, .slice Aa la ca]) (dv_loads (l := [.bool na, .slice Aa la ca]) agt51 sz51 (T rfl rfl) H11 rfl) <| lw_e (oe_store (v := .agg #[.bool na, .slice Aa la ca]) (vs := [.bool na, .slice Aa la ca]) (l := [.bool na, .slice Aa la ca]) (T rfl rfl) (T rfl rfl) sz51 rfl rfl rfl n8.blk rfl ?_)
   intro w13 s14 H15
   have E16 := below_st E10 N9 s14
   refine lw_nil <| rk_ret Tryz.func88 (v := .agg #[.bool na, .slice Aa la ca]) (res1 Tryz.results88 (rv_cells (l := [.bool na, .slice Aa la ca]) agt51 sz51 rfl rfl H15 rfl)) ⟨_, rfl, ?_⟩
   have h17 := ha.ext E16
   exact ⟨_, _, _, _, rfl, E16, h17.to (by have := ha.pos_iff; omega) (Nat.le_refl _)⟩
 · refine rk_cf (T rfl (qF hb12)) <| rk_skip <| rk_seq <| rk_reg <| lw_v (.pointer (some ⟨b1, 0, none⟩)) (dv_fieldAddr (a := ⟨b1, 0, none⟩) (a' := ⟨b1, 0, none⟩) fo51_0 (T rfl rfl) rfl) <| lw_v (.bool na) (dv_load1 (b := b1) (o := 0) agt4 (T rfl rfl) H11 rfl) <| lw_v (.bool (!na)) (dv_not (T rfl rfl)) <| lw_v (.pointer (some ⟨b1, 1, none⟩)) (dv_fieldAddr (a := ⟨b1, 0, none⟩) (a' := ⟨b1, 1, none⟩) fo51_1 (T rfl rfl) rfl) <| lw_v (.slice Aa la ca) (dv_load1 (b := b1) (o := 1) agt49 (T rfl rfl) H11 rfl) <| lw_v (.agg #[.bool (!na), .slice Aa la ca]) (dv_build (pv := [(0, .bool (!na)), (1, .slice Aa la ca)]) (l := [.bool (!na), .slice Aa la ca]) zc51 pl51 ⟨rfl, (T rfl rfl), ⟨rfl, (T rfl rfl), trivial⟩⟩ rfl) <| lw_e (oe_store (v := .agg #[.bool (!na), .slice Aa la ca]) (vs := [.bool (!na), .slice Aa la ca]) (l := [.bool (!na), .slice Aa la ca]) (T rfl rfl) (T rfl rfl) sz51 rfl rfl rfl n8.blk rfl ?_)
   intro w18 s19 H20
   have E21 := below_st E10 N9 s19
   refine lw_nil <| rk_ret Tryz.func88 (v := .agg #[.bool (!na), .slice Aa la ca]) (res1 Tryz.results88 (rv_cells (l := [.bool (!na), .slice Aa la ca]) agt51 sz51 rfl rfl H20 rfl)) ⟨_, rfl, ?_⟩
   have h22 := ha.ext E21
   exact ⟨_, _, _, _, rfl, E21, Wc.num h22.wc (fun _ => by have := ha.pos_iff; omega) (sg_not ha.neg_iff).symm ha.ltI⟩
set_option maxHeartbeats 1000000 in
theorem l1Add_ok {w : World} {na : Bool} {Aa : Option Addr} {la ca : Nat} {x : Int} {sx : Nat} (ha : Num 32 97 .u32 w na Aa la ca x sx) {nb : Bool} {Ab : Option Addr} {lb cb : Nat} {y : Int} {sy : Nat} (hb : Num 32 97 .u32 w nb Ab lb cb y sy) (hs : sx ≤ 400000) (hs2 : sy ≤ 400000) : Ct Tryz.prog 87 [.agg #[.bool na, .slice Aa la ca], .agg #[.bool nb, .slice Ab lb cb]] w fun v w1 => ∃ nr A' n c', v = .agg #[.bool nr, .slice A' n c'] ∧ Ext w w1 ∧ Num 32 97 .u32 w1 nr A' n c' (x + y) (max sx sy + 1) := by
 refine ct_run (n := 40) Tryz.func87 rfl Tryz.ntmps87 rfl ?_
 have E0 : Below w.heap.size w w := Below.refl _ _
 have lha := Num.len (by decide) ha
 have lhb := Num.len (by decide) hb
 refine rk_seq <| rk_reg <| lw_e (oe_box (v := .agg #[.bool na, .slice Aa la ca]) (cs := #[.bool na, .slice Aa la ca]) (T rfl rfl) rfl ?_)
 intro b1 w2 n3
 have N4 : w.heap.size ≤ b1 := n3.eq ▸ E0.size
 have E5 := below_ext E0 E0.size n3.ext
 refine lw_e (oe_box (v := .agg #[.bool nb, .slice Ab lb cb]) (cs := #[.bool nb, .slice Ab lb cb]) (T rfl rfl) rfl ?_)
 intro b6 w7 n8
 have N9 : w.heap.size ≤ b6 := n8.eq ▸ E5.size
 have : b1 < b6 := n8.eq ▸ lt_of_blk n3.blk
 have E10 := below_ext E5 E5.size n8.ext
 refine lw_e (oe_alloc ze51 ?_)
 intro b11 w12 n13
 have N14 : w.heap.size ≤ b11 := n13.eq ▸ E10.size
 have : b6 < b11 := n13.eq ▸ lt_of_blk n8.blk
 have E15 := below_ext E10 E10.size n13.ext
 refine lw_nil <| rk_seq <| rk_seq <| rk_reg <| lw_v (.pointer (some ⟨b1, 0, none⟩)) (dv_fieldAddr (a := ⟨b1, 0, none⟩) (a' := ⟨b1, 0, none⟩) fo51_0 (T rfl rfl) rfl) ?_
 have H16 := (n13.ext.blk (n8.ext.blk n3.blk))
 refine lw_v (.bool na) (dv_load1 (b := b1) (o := 0) agt4 (T rfl rfl) H16 rfl) <| lw_v (.pointer (some ⟨b6, 0, none⟩)) (dv_fieldAddr (a := ⟨b6, 0, none⟩) (a' := ⟨b6, 0, none⟩) fo51_0 (T rfl rfl) rfl) ?_
 have H17 := (n13.ext.blk n8.blk)
 refine lw_v (.bool nb) (dv_load1 (b := b6) (o := 0) agt4 (T rfl rfl) H17 rfl) <| lw_v (.bool (na == nb)) (dv_eqlb (a := na) (b := nb) ub4 (T rfl rfl) (T rfl rfl)) <| lw_nil ?_
 rcases Bool.eq_false_or_eq_true (na == nb) with hb18 | hb18
 · refine rk_ct (T rfl (congrArg Value.bool hb18)) <| rk_seq <| rk_any (fun w => w.heap[b1]? = some (.cells #[.bool na, .slice Aa la ca] 51) ∧ w.heap[b6]? = some (.cells #[.bool nb, .slice Ab lb cb] 51)) [8] mo ?_
   intro w19 d20
   have E21 := below_ext E15 E15.size d20.ext
   have H22 := (d20.ext.blk H16)
   have H23 := (d20.ext.blk H17)
   refine aw_pure 0 (.pointer (some ⟨b1, 0, none⟩)) rfl (by kernel_rfl) .none ⟨H22, H23⟩ (fun _ => dv_fieldAddr (a := ⟨b1, 0, none⟩) (a' := ⟨b1, 0, none⟩) fo51_0 (T rfl rfl) rfl) <| aw_load 1 (.bool na) rfl (by kernel_rfl) .none ⟨H22, H23⟩ (fun _ s => dv_load1 (b := b1) (o := 0) agt4 (T rfl rfl) s.1 rfl) <| aw_pure 2 (.pointer (some ⟨b1, 1, none⟩)) rfl (by kernel_rfl) .none ⟨H22, H23⟩ (fun _ => dv_fieldAddr (a := ⟨b1, 0, none⟩) (a' := ⟨b1, 1, none⟩) fo51_1 (T rfl rfl) rfl) <| aw_load 3 (.slice Aa la ca) rfl (by kernel_rfl) .none ⟨H22, H23⟩ (fun _ s => dv_load1 (b := b1) (o := 1) agt49 (T rfl rfl) s.1 rfl) <| aw_pure 4 (.pointer (some ⟨b6, 1, none⟩)) rfl (by kernel_rfl) .none ⟨H22, H23⟩ (fun _ => dv_fieldAddr (a := ⟨b6, 0, none⟩) (a' := ⟨b6, 1, none⟩) fo51_1 (T rfl rfl) rfl) <| aw_load 5 (.slice Ab lb cb) rfl (by kernel_rfl) .none ⟨H22, H23⟩ (fun _ s => dv_load1 (b := b6) (o := 1) agt49 (T rfl rfl) s.2 rfl) ?_
   have h24 := ((((ha.ext n3.ext).ext n8.ext).ext n13.ext).ext d20.ext)
   have h25 := ((((hb.ext n3.ext).ext n8.ext).ext n13.ext).ext d20.ext)
   refine aw_one 6 rfl (by kernel_rfl) .none (oe_callf (vs := [.slice Aa la ca, .slice Ab lb cb]) co105 (ar2 (T rfl rfl) (T rfl rfl)) (l1AddAbs_ws h24.wc.ws h25.wc.ws (by omega) (by omega)) ?_)
   rintro _ w30 ⟨A26, n27, c28, rfl, e31, h29, hnh29⟩
   have E32 := below_ext E21 E21.size e31
   have H33 := (e31.blk H22)
   have H34 := (e31.blk H23)
   refine ⟨.inr ⟨H33, H34⟩, ?_⟩
   refine aw_one 7 rfl (by kernel_rfl) .none (oe_callf (vs := [.bool na, .slice A26 n27 c28]) co62 (ar2 (T rfl rfl) (T rfl rfl)) (l1Trim_num (s := (max sx sy + 1)) (neg := na) h29 (by omega) (sz_add h24.ltI h25.ltI)) ?_)
   rintro _ w40 ⟨nb35, A36, n37, c38, rfl, e41, hn39⟩
   have E42 := below_ext E32 E32.size e41
   have lhn39 := Num.len (by decide) hn39
   have H43 := (e41.blk H33)
   have H44 := (e41.blk H34)
   refine ⟨.inr ⟨H43, H44⟩, ?_⟩
   have H45 := (e41.blk (e31.blk (d20.ext.blk n13.blk)))
   refine aw_one 8 rfl (by kernel_rfl) .none (oe_store (v := .agg #[.bool nb35, .slice A36 n37 c38]) (vs := [.bool nb35, .slice A36 n37 c38]) (l := [.bool nb35, .slice A36 n37 c38]) (T rfl rfl) (T rfl rfl) sz51 rfl rfl rfl H45 rfl ?_)
   intro w46 s47 H48
   have E49 := below_st E42 N14 s47
   refine ⟨.inl rfl, ?_⟩
   refine aw_done (by kernel_rfl) <| rk_ret Tryz.func87 (v := .agg #[.bool nb35, .slice A36 n37 c38]) (res1 Tryz.results87 (rv_cells (l := [.bool nb35, .slice A36 n37 c38]) agt51 sz51 rfl rfl H48 rfl)) ⟨_, rfl, ?_⟩
   have h50 := (hn39.st s47 H45 (by decide))
   exact ⟨_, _, _, _, rfl, E49, h50.to (sg_add ha.neg_iff hb.neg_iff (by assumption)) (Nat.le_refl _)⟩
 · refine rk_cf (T rfl (congrArg Value.bool hb18)) <| rk_skip <| rk_seq <| rk_seq <| rk_reg <| lw_v (.pointer (some ⟨b1, 1, none⟩)) (dv_fieldAddr (a := ⟨b1, 0, none⟩) (a' := ⟨b1, 1, none⟩) fo51_1 (T rfl rfl) rfl) <| lw_v (.slice Aa la ca) (dv_load1 (b := b1) (o := 1) agt49 (T rfl rfl) H16 rfl) <| lw_v (.pointer (some ⟨b6, 1, none⟩)) (dv_fieldAddr (a := ⟨b6, 0, none⟩) (a' := ⟨b6, 1, none⟩) fo51_1 (T rfl rfl) rfl) <| lw_v (.slice Ab lb cb) (dv_load1 (b := b6) (o := 1) agt49 (T rfl rfl) H17 rfl) ?_
   have h51 := (((ha.ext n3.ext).ext n8.ext).ext n13.ext)
   have h52 := (((hb.ext n3.ext).ext n8.ext).ext n13.ext)
   refine lw_e (oe_callf (vs := [.slice Aa la ca, .slice Ab lb cb]) co89 (ar2 (T rfl rfl) (T rfl rfl)) (l1CmpAbs_wc h51.wc h52.wc (by omega) (by omega)) ?_)
   rintro _ w55 ⟨r53, rfl, e56, hr54⟩
   have E57 := below_ext E15 E15.size e56
   have qhr54 := cmpR.ge hr54
   have phr54 := cmpR.eq hr54
   have ohr54 := cmpR.gt hr54
   refine lw_v (qd (0 ≤ r53)) (dv_geq (a := r53) (b := 0) (T rfl rfl) C) <| lw_nil ?_
   by_cases hb58 : 0 ≤ r53
   · refine rk_ct (T rfl (qT hb58)) <| rk_seq <| rk_any (fun w => w.heap[b1]? = some (.cells #[.bool na, .slice Aa la ca] 51) ∧ w.heap[b6]? = some (.cells #[.bool nb, .slice Ab lb cb] 51)) [8] mo ?_
     intro w59 d60
     have E61 := below_ext E57 E57.size d60.ext
     have H62 := (d60.ext.blk (e56.blk H16))
     have H63 := (d60.ext.blk (e56.blk H17))
     refine aw_pure 0 (.pointer (some ⟨b1, 0, none⟩)) rfl (by kernel_rfl) .none ⟨H62, H63⟩ (fun _ => dv_fieldAddr (a := ⟨b1, 0, none⟩) (a' := ⟨b1, 0, none⟩) fo51_0 (T rfl rfl) rfl) <| aw_load 1 (.bool na) rfl (by kernel_rfl) .none ⟨H62, H63⟩ (fun _ s => dv_load1 (b := b1) (o := 0) agt4 (T rfl rfl) s.1 rfl) <| aw_pure 2 (.pointer (some ⟨b1, 1, none⟩)) rfl (by kernel_rfl) .none ⟨H62, H63⟩ (fun _ => dv_fieldAddr (a := ⟨b1, 0, none⟩) (a' := ⟨b1, 1, none⟩) fo51_1 (T rfl rfl) rfl) <| aw_load 3 (.slice Aa la ca) rfl (by kernel_rfl) .none ⟨H62, H63⟩ (fun _ s => dv_load1 (b := b1) (o := 1) agt49 (T rfl rfl) s.1 rfl) <| aw_pure 4 (.pointer (some ⟨b6, 1, none⟩)) rfl (by kernel_rfl) .none ⟨H62, H63⟩ (fun _ => dv_fieldAddr (a := ⟨b6, 0, none⟩) (a' := ⟨b6, 1, none⟩) fo51_1 (T rfl rfl) rfl) <| aw_load 5 (.slice Ab lb cb) rfl (by kernel_rfl) .none ⟨H62, H63⟩ (fun _ s => dv_load1 (b := b6) (o := 1) agt49 (T rfl rfl) s.2 rfl) ?_
     have h64 := ((h51.ext e56).ext d60.ext)
     have h65 := ((h52.ext e56).ext d60.ext)
     refine aw_one 6 rfl (by kernel_rfl) .none (oe_callf (vs := [.slice Aa la ca, .slice Ab lb cb]) co64 (ar2 (T rfl rfl) (T rfl rfl)) (l1SubAbs_ws h64.wc.ws h65.wc.ws (by omega) (by omega) (by exact len_le32 h64.wc h65.wc (by omega)) (by omega)) ?_)
     rintro _ w70 ⟨A66, n67, c68, rfl, e71, h69, hnh69⟩
     have E72 := below_ext E61 E61.size e71
     have H73 := (e71.blk H62)
     have H74 := (e71.blk H63)
     refine ⟨.inr ⟨H73, H74⟩, ?_⟩
     refine aw_one 7 rfl (by kernel_rfl) .none (oe_callf (vs := [.bool na, .slice A66 n67 c68]) co62 (ar2 (T rfl rfl) (T rfl rfl)) (l1Trim_num (s := sx) (neg := na) h69 (by omega) (sz_sub h64.ltI (Wc.nonneg h65.wc))) ?_)
     rintro _ w80 ⟨nb75, A76, n77, c78, rfl, e81, hn79⟩
     have E82 := below_ext E72 E72.size e81
     have lhn79 := Num.len (by decide) hn79
     have H83 := (e81.blk H73)
     have H84 := (e81.blk H74)
     refine ⟨.inr ⟨H83, H84⟩, ?_⟩
     have H85 := (e81.blk (e71.blk (d60.ext.blk (e56.blk n13.blk))))
     refine aw_one 8 rfl (by kernel_rfl) .none (oe_store (v := .agg #[.bool nb75, .slice A76 n77 c78]) (vs := [.bool nb75, .slice A76 n77 c78]) (l := [.bool nb75, .slice A76 n77 c78]) (T rfl rfl) (T rfl rfl) sz51 rfl rfl rfl H85 rfl ?_)
     intro w86 s87 H88
     have E89 := below_st E82 N14 s87
     refine ⟨.inl rfl, ?_⟩
     refine aw_done (by kernel_rfl) <| rk_ret Tryz.func87 (v := .agg #[.bool nb75, .slice A76 n77 c78]) (res1 Tryz.results87 (rv_cells (l := [.bool nb75, .slice A76 n77 c78]) agt51 sz51 rfl rfl H88 rfl)) ⟨_, rfl, ?_⟩
     have h90 := (hn79.st s87 H85 (by decide))
     exact ⟨_, _, _, _, rfl, E89, h90.to (sg_sub ha.neg_iff hb.neg_iff (by assumption)) (by omega)⟩
   · refine rk_cf (T rfl (qF hb58)) <| rk_skip <| rk_seq <| rk_any (fun w => w.heap[b6]? = some (.cells #[.bool nb, .slice Ab lb cb] 51) ∧ w.heap[b1]? = some (.cells #[.bool na, .slice Aa la ca] 51)) [8] mo ?_
     intro w91 d92
     have E93 := below_ext E57 E57.size d92.ext
     have H94 := (d92.ext.blk (e56.blk H17))
     have H95 := (d92.ext.blk (e56.blk H16))
     refine aw_pure 0 (.pointer (some ⟨b6, 0, none⟩)) rfl (by kernel_rfl) .none ⟨H94, H95⟩ (fun _ => dv_fieldAddr (a := ⟨b6, 0, none⟩) (a' := ⟨b6, 0, none⟩) fo51_0 (T rfl rfl) rfl) <| aw_load 1 (.bool nb) rfl (by kernel_rfl) .none ⟨H94, H95⟩ (fun _ s => dv_load1 (b := b6) (o := 0) agt4 (T rfl rfl) s.1 rfl) <| aw_pure 2 (.pointer (some ⟨b6, 1, none⟩)) rfl (by kernel_rfl) .none ⟨H94, H95⟩ (fun _ => dv_fieldAddr (a := ⟨b6, 0, none⟩) (a' := ⟨b6, 1, none⟩) fo51_1 (T rfl rfl) rfl) <| aw_load 3 (.slice Ab lb cb) rfl (by kernel_rfl) .none ⟨H94, H95⟩ (fun _ s => dv_load1 (b := b6) (o := 1) agt49 (T rfl rfl) s.1 rfl) <| aw_pure 4 (.pointer (some ⟨b1, 1, none⟩)) rfl (by kernel_rfl) .none ⟨H94, H95⟩ (fun _ => dv_fieldAddr (a := ⟨b1, 0, none⟩) (a' := ⟨b1, 1, none⟩) fo51_1 (T rfl rfl) rfl) <| aw_load 5 (.slice Aa la ca) rfl (by kernel_rfl) .none ⟨H94, H95⟩ (fun _ s => dv_load1 (b := b1) (o := 1) agt49 (T rfl rfl) s.2 rfl) ?_
     have h96 := ((h52.ext e56).ext d92.ext)
     have h97 := ((h51.ext e56).ext d92.ext)
     refine aw_one 6 rfl (by kernel_rfl) .none (oe_callf (vs := [.slice Ab lb cb, .slice Aa la ca]) co64 (ar2 (T rfl rfl) (T rfl rfl)) (l1SubAbs_ws h96.wc.ws h97.wc.ws (by omega) (by omega) (by exact len_le32 h96.wc h97.wc (by omega)) (by omega)) ?_)
     rintro _ w102 ⟨A98, n99, c100, rfl, e103, h101, hnh101⟩
     have E104 := below_ext E93 E93.size e103
     have H105 := (e103.blk H94)
     have H106 := (e103.blk H95)
     refine ⟨.inr ⟨H105, H106⟩, ?_⟩
     refine aw_one 7 rfl (by kernel_rfl) .none (oe_callf (vs := [.bool nb, .slice A98 n99 c100]) co62 (ar2 (T rfl rfl) (T rfl rfl)) (l1Trim_num (s := sy) (neg := nb) h101 (by omega) (sz_sub h96.ltI (Wc.nonneg h97.wc))) ?_)
     rintro _ w112 ⟨nb107, A108, n109, c110, rfl, e113, hn111⟩
     have E114 := below_ext E104 E104.size e113
     have lhn111 := Num.len (by decide) hn111
     have H115 := (e113.blk H105)
     have H116 := (e113.blk H106)
     refine ⟨.inr ⟨H115, H116⟩, ?_⟩
     have H117 := (e113.blk (e103.blk (d92.ext.blk (e56.blk n13.blk))))
     refine aw_one 8 rfl (by kernel_rfl) .none (oe_store (v := .agg #[.bool nb107, .slice A108 n109 c110]) (vs := [.bool nb107, .slice A108 n109 c110]) (l := [.bool nb107, .slice A108 n109 c110]) (T rfl rfl) (T rfl rfl) sz51 rfl rfl rfl H117 rfl ?_)
     intro w118 s119 H120
     have E121 := below_st E114 N14 s119
     refine ⟨.inl rfl, ?_⟩
     refine aw_done (by kernel_rfl) <| rk_ret Tryz.func87 (v := .agg #[.bool nb107, .slice A108 n109 c110]) (res1 Tryz.results87 (rv_cells (l := [.bool nb107, .slice A108 n109 c110]) agt51 sz51 rfl rfl H120 rfl)) ⟨_, rfl, ?_⟩
     have h122 := (hn111.st s119 H117 (by decide))
     exact ⟨_, _, _, _, rfl, E121, h122.to (sg_sub' ha.neg_iff hb.neg_iff (by assumption)) (by omega)⟩
set_option maxHeartbeats 1000000 in
theorem l1Sub_ok {w : World} {na : Bool} {Aa : Option Addr} {la ca : Nat} {x : Int} {sx : Nat} (ha : Num 32 97 .u32 w na Aa la ca x sx) {nb : Bool} {Ab : Option Addr} {lb cb : Nat} {y : Int} {sy : Nat} (hb : Num 32 97 .u32 w nb Ab lb cb y sy) (hs : sx ≤ 400000) (hs2 : sy ≤ 400000) : Ct Tryz.prog 60 [.agg #[.bool na, .slice Aa la ca], .agg #[.bool nb, .slice Ab lb cb]] w fun v w1 => ∃ nr A' n c', v = .agg #[.bool nr, .slice A' n c'] ∧ Ext w w1 ∧ Num 32 97 .u32 w1 nr A' n c' (x - y) (max sx sy + 1) := by
 refine ct_run (n := 9) Tryz.func60 rfl Tryz.ntmps60 rfl ?_
 have E0 : Below w.heap.size w w := Below.refl _ _
 refine rk_seq <| rk_reg <| lw_e (oe_box (v := .agg #[.bool na, .slice Aa la ca]) (cs := #[.bool na, .slice Aa la ca]) (T rfl rfl) rfl ?_)
 intro b1 w2 n3
 have N4 : w.heap.size ≤ b1 := n3.eq ▸ E0.size
 have E5 := below_ext E0 E0.size n3.ext
 refine lw_e (oe_box (v := .agg #[.bool nb, .slice Ab lb cb]) (cs := #[.bool nb, .slice Ab lb cb]) (T rfl rfl) rfl ?_)
 intro b6 w7 n8
 have N9 : w.heap.size ≤ b6 := n8.eq ▸ E5.size
 have : b1 < b6 := n8.eq ▸ lt_of_blk n3.blk
 have E10 := below_ext E5 E5.size n8.ext
 refine lw_e (oe_alloc ze51 ?_)
 intro b11 w12 n13
 have N14 : w.heap.size ≤ b11 := n13.eq ▸ E10.size
 have : b6 < b11 := n13.eq ▸ lt_of_blk n8.blk
 have E15 := below_ext E10 E10.size n13.ext
 refine lw_nil <| rk_seq <| rk_any (fun w => w.heap[b1]? = some (.cells #[.bool na, .slice Aa la ca] 51) ∧ w.heap[b6]? = some (.cells #[.bool nb, .slice Ab lb cb] 51)) [4] mo ?_
 intro w16 d17
 have E18 := below_ext E15 E15.size d17.ext
 have H19 := (d17.ext.blk (n13.ext.blk (n8.ext.blk n3.blk)))
 have H20 := (d17.ext.blk (n13.ext.blk n8.blk))
 refine aw_load 0 (.agg #[.bool na, .slice Aa la ca]) rfl (by kernel_rfl) .none ⟨H19, H20⟩ (fun _ s => dv_loads (l := [.bool na, .slice Aa la ca]) agt51 sz51 (T rfl rfl) s.1 rfl) <| aw_load 1 (.agg #[.bool nb, .slice Ab lb cb]) rfl (by kernel_rfl) .none ⟨H19, H20⟩ (fun _ s => dv_loads (l := [.bool nb, .slice Ab lb cb]) agt51 sz51 (T rfl rfl) s.2 rfl) ?_
 have h21 := ((((hb.ext n3.ext).ext n8.ext).ext n13.ext).ext d17.ext)
 refine aw_one 2 rfl (by kernel_rfl) .none (oe_callf (vs := [.agg #[.bool nb, .slice Ab lb cb]]) co88 (ar1 (T rfl rfl)) (l1Neg_ok h21 ) ?_)
 rintro _ w27 ⟨nr22, A23, n24, c25, rfl, e28, h26⟩
 have E29 := below_ext E18 E18.size e28
 have lh26 := Num.len (by decide) h26
 have H30 := (e28.blk H19)
 have H31 := (e28.blk H20)
 refine ⟨.inr ⟨H30, H31⟩, ?_⟩
 have h32 := (((((ha.ext n3.ext).ext n8.ext).ext n13.ext).ext d17.ext).ext e28)
 refine aw_one 3 rfl (by kernel_rfl) .none (oe_callf (vs := [.agg #[.bool na, .slice Aa la ca], .agg #[.bool nr22, .slice A23 n24 c25]]) co87 (ar2 (T rfl rfl) (T rfl rfl)) (l1Add_ok h32 h26 (by first | decide | omega) (by first | decide | omega)) ?_)
 rintro _ w38 ⟨nr33, A34, n35, c36, rfl, e39, h37⟩
 have E40 := below_ext E29 E29.size e39
 have lh37 := Num.len (by decide) h37
 have H41 := (e39.blk H30)
 have H42 := (e39.blk H31)
 refine ⟨.inr ⟨H41, H42⟩, ?_⟩
 have H43 := (e39.blk (e28.blk (d17.ext.blk n13.blk)))
 refine aw_one 4 rfl (by kernel_rfl) .none (oe_store (v := .agg #[.bool nr33, .slice A34 n35 c36]) (vs := [.bool nr33, .slice A34 n35 c36]) (l := [.bool nr33, .slice A34 n35 c36]) (T rfl rfl) (T rfl rfl) sz51 rfl rfl rfl H43 rfl ?_)
 intro w44 s45 H46
 have E47 := below_st E40 N14 s45
 refine ⟨.inl rfl, ?_⟩
 refine aw_done (by kernel_rfl) <| rk_ret Tryz.func60 (v := .agg #[.bool nr33, .slice A34 n35 c36]) (res1 Tryz.results60 (rv_cells (l := [.bool nr33, .slice A34 n35 c36]) agt51 sz51 rfl rfl H46 rfl)) ⟨_, rfl, ?_⟩
 have h48 := (h37.st s45 H43 (by decide))
 exact ⟨_, _, _, _, rfl, E47, h48.to (by omega) (by omega)⟩
set_option maxHeartbeats 1000000 in
theorem l1Cmp_ok {w : World} {na : Bool} {Aa : Option Addr} {la ca : Nat} {x : Int} {sx : Nat} (ha : Num 32 97 .u32 w na Aa la ca x sx) {nb : Bool} {Ab : Option Addr} {lb cb : Nat} {y : Int} {sy : Nat} (hb : Num 32 97 .u32 w nb Ab lb cb y sy) (hs : sx ≤ 400000) (hs2 : sy ≤ 400000) : Ct Tryz.prog 36 [.agg #[.bool na, .slice Aa la ca], .agg #[.bool nb, .slice Ab lb cb]] w fun v w1 => v = .int .i64 (sgnI (x - y)) ∧ Ext w w1 := by
 refine ct_run (n := 9) Tryz.func36 rfl Tryz.ntmps36 rfl ?_
 have E0 : Below w.heap.size w w := Below.refl _ _
 refine rk_seq <| rk_reg <| lw_e (oe_box (v := .agg #[.bool na, .slice Aa la ca]) (cs := #[.bool na, .slice Aa la ca]) (T rfl rfl) rfl ?_)
 intro b1 w2 n3
 have N4 : w.heap.size ≤ b1 := n3.eq ▸ E0.size
 have E5 := below_ext E0 E0.size n3.ext
 refine lw_e (oe_box (v := .agg #[.bool nb, .slice Ab lb cb]) (cs := #[.bool nb, .slice Ab lb cb]) (T rfl rfl) rfl ?_)
 intro b6 w7 n8
 have N9 : w.heap.size ≤ b6 := n8.eq ▸ E5.size
 have : b1 < b6 := n8.eq ▸ lt_of_blk n3.blk
 have E10 := below_ext E5 E5.size n8.ext
 refine lw_v (qi 0) (dv_assign C) <| qN ?_
 have H11 := (n8.ext.blk n3.blk)
 refine lw_v (.agg #[.bool na, .slice Aa la ca]) (dv_loads (l := [.bool na, .slice Aa la ca]) agt51 sz51 (T rfl rfl) H11 rfl) <| lw_v (.agg #[.bool nb, .slice Ab lb cb]) (dv_loads (l := [.bool nb, .slice Ab lb cb]) agt51 sz51 (T rfl rfl) n8.blk rfl) ?_
 have h12 := ((ha.ext n3.ext).ext n8.ext)
 have h13 := ((hb.ext n3.ext).ext n8.ext)
 refine lw_e (oe_callf (vs := [.agg #[.bool na, .slice Aa la ca], .agg #[.bool nb, .slice Ab lb cb]]) co60 (ar2 (T rfl rfl) (T rfl rfl)) (l1Sub_ok h12 h13 (by first | decide | omega) (by first | decide | omega)) ?_)
 rintro _ w19 ⟨nr14, A15, n16, c17, rfl, e20, h18⟩
 have E21 := below_ext E10 E10.size e20
 have lh18 := Num.len (by decide) h18
 refine lw_e (oe_callf (vs := [.agg #[.bool nr14, .slice A15 n16 c17]]) co34 (ar1 (T rfl rfl)) (l1Sign_ok h18 ) ?_)
 rintro _ w22 ⟨rfl, e23⟩
 have E24 := below_ext E21 E21.size e23
 refine lw_v (qi (sgnI (x - y))) (dv_assign (T rfl rfl)) <| lw_nil <| rk_ret Tryz.func36 (v := qi (sgnI (x - y))) (res1 Tryz.results36 (rv_tmp rfl rfl)) ⟨_, rfl, ?_⟩
 exact ⟨rfl, E24⟩
set_option maxHeartbeats 1000000 in
theorem l1Bits_ok {w : World} {A : Option Addr} {c : Nat} {xs : List Int} (hx : Wd w 97 .u32 A xs) (hc : xs.length ≤ c) (ox : okW (2 ^ 32) xs) (cx : canon xs) (lx : xs.length ≤ 1000000) : Ct Tryz.prog 59 [.slice A (xs.length) c] w fun v w1 => v = .int .i64 (nbits (valB (2 ^ 32) xs).toNat : Int) ∧ Ext w w1 := by
 refine ct_run (n := 25) Tryz.func59 rfl Tryz.ntmps59 rfl ?_
 have E0 : Below w.heap.size w w := Below.refl _ _
 have bt := fun h => canon_top ox cx h
 have bn := fun h => nbits_top ox h (canon_top ox cx h)
 have bg := okW.getD ox (by decide) (xs.length - 1)
 have bv : valB (2 ^ 32) xs < 2 ^ (32 * xs.length) := valB_sz ox rfl
 have bl : nbits (valB (2 ^ 32) xs).toNat ≤ 32 * xs.length := nbits_len ox
 refine rk_seq <| rk_reg <| lw_v (qi 0) (dv_assign C) <| lw_nil <| rk_seq <| rk_seq <| rk_reg <| lw_v (.slice A (xs.length) c) (dv_move (T rfl rfl)) <| lw_v (qi (xs.length : Int)) (dv_len (ad := A) (l := xs.length) (c := c) us49 (T rfl rfl)) <| lw_v (qd ((xs.length : Int) = 0)) (dv_eql (a := (xs.length : Int)) (b := 0) (T rfl rfl) C) <| lw_nil ?_
 by_cases hb1 : ((xs.length : Int)) = 0
 · refine rk_ct (T rfl (qT hb1)) <| rk_seq <| rk_reg <| lw_v (qi 0) (dv_assign C) <| lw_nil <| rk_ret Tryz.func59 (v := qi 0) (res1 Tryz.results59 (rv_tmp rfl rfl)) ⟨_, rfl, ?_⟩
   exact ⟨vi (by have h0 : xs = [] := List.eq_nil_of_length_eq_zero (by omega); simp [h0, valB, nbits]), E0⟩
 · refine rk_cf (T rfl (qF hb1)) <| rk_skip <| rk_seq <| rk_reg <| lw_v (.slice A (xs.length) c) (dv_move (T rfl rfl)) <| lw_v (qi (xs.length : Int)) (dv_len (ad := A) (l := xs.length) (c := c) us49 (T rfl rfl)) <| lw_v (qi ((xs.length : Int) - 1)) (dv_sub (a := (xs.length : Int)) (b := 1) (z := (xs.length : Int) - 1) (T rfl rfl) C (wr_i64 (by omega) (by omega))) <| lw_v (qi (((xs.length : Int) - 1) * 32)) (dv_mul (a := (xs.length : Int) - 1) (b := 32) (z := ((xs.length : Int) - 1) * 32) (T rfl rfl) C (wr_i64 (by omega) (by omega))) <| lw_v (qi (((xs.length : Int) - 1) * 32)) (dv_assign (T rfl rfl)) <| lw_nil <| rk_seq ?_
   refine rk_reg <| lw_v (.slice A (xs.length) c) (dv_move (T rfl rfl)) <| lw_v (.slice A (xs.length) c) (dv_move (T rfl rfl)) <| lw_v (qi (xs.length : Int)) (dv_len (ad := A) (l := xs.length) (c := c) us49 (T rfl rfl)) <| lw_v (qi ((xs.length : Int) - 1)) (dv_sub (a := (xs.length : Int)) (b := 1) (z := (xs.length : Int) - 1) (T rfl rfl) C (wr_i64 (by omega) (by omega))) ?_
   obtain ⟨g2, o3, rfl⟩ := Wd.at hx (by first | omega | (simp; done) | (simp; omega))
   refine lw_v (.pointer (some ⟨g2, o3 + ((xs.length) - 1), none⟩)) (dv_indexW (g := g2) (o := o3) (l := xs.length) (c := c) (i := ((xs.length) - 1)) (j := (xs.length : Int) - 1) us49 sz97 (T rfl rfl) (T rfl rfl) (by omega) (by first | omega | (simp; done) | (simp; omega))) <| lw_v (.int .u32 (xs.getD (((xs.length) - 1)) 0)) (dv_load agt97 (T rfl rfl) (Wd.cell hx (by first | omega | (simp; done) | (simp; omega)))) <| lw_v (.int .u32 (xs.getD (((xs.length) - 1)) 0)) (dv_assign (T rfl rfl)) <| lw_nil <| rk_seq <| rk_block <| rk_loop (fun dm_ fr wl => ∃ (x q : Int), dm_ = x.toNat ∧ fr 2 = qi 0 ∧ fr 3 = qi q ∧ fr 4 = .int .u32 x ∧ Below w.heap.size w wl ∧ (0 ≤ x ∧ x < 4294967296) ∧ (0 ≤ q ∧ q + (nbits x.toNat : Int) = (nbits (valB (2 ^ 32) xs).toNat : Int)) ∧ (nbits x.toNat ≤ 32)) ((xs.getD (((xs.length) - 1)) 0).toNat) ⟨xs.getD (((xs.length) - 1)) 0, ((xs.length : Int) - 1) * 32, rfl, rfl, rfl, rfl, E0, (by omega), (by omega), (nbits_le_iff.2 (by omega))⟩ ?_
   intro d8 fr7 w4 hI5 ih6
   obtain ⟨x, q, hd13, f9, f10, f11, E12, hx0, hq, hnb⟩ := hI5
   have hh : 0 < x → nbits x.toNat = nbits (x / 2).toNat + 1 := fun h => by rw [nbits_half (by omega), show (x / 2).toNat = x.toNat / 2 by omega]
   refine rk_seq <| rk_seq <| rk_reg <| lw_v (.int .u32 x) (dv_move (T rfl f11)) <| lw_v (qd (0 < x)) (dv_gtr (a := x) (b := 0) (T rfl rfl) C) <| lw_nil ?_
   by_cases hb14 : 0 < x
   · refine rk_ct (T rfl (qT hb14)) <| rk_skip <| rk_block <| rk_seq <| rk_reg <| lw_v (qi q) (dv_move (T rfl f10)) <| lw_v (qi (q + 1)) (dv_add (a := q) (b := 1) (z := q + 1) (T rfl rfl) C (wr_i64 (by omega) (by omega))) <| lw_v (qi (q + 1)) (dv_assign (T rfl rfl)) <| lw_nil <| rk_reg <| lw_v (.int .u32 x) (dv_move (T rfl f11)) ?_
     refine lw_v (.int .u32 (x / 2)) (dv_shr (a := x) (b := 1) (z := x / 2) (T rfl rfl) C (by decide) (shr_c (n := 1) (by omega) (by decide))) <| lw_v (.int .u32 (x / 2)) (dv_assign (T rfl rfl)) <| lw_nil <| rk_inBlock ?_
     exact ih6 ((x / 2).toNat) _ _ (by rw [hd13]; omega) ⟨x / 2, q + 1, rfl, f9, rfl, rfl, E12, (by omega), (by omega), (by omega)⟩
   · refine rk_cf (T rfl (qF hb14)) <| rk_exit rfl <| rk_seq <| rk_reg <| lw_v (qi q) (dv_move (T rfl f10)) <| lw_v (qi q) (dv_assign (T rfl rfl)) <| lw_nil <| rk_ret Tryz.func59 (v := qi q) (res1 Tryz.results59 (rv_tmp rfl rfl)) ⟨_, rfl, ?_⟩
     exact ⟨vi (by have h0 : nbits x.toNat = 0 := (congrArg nbits (show x.toNat = 0 by omega)).trans nbits_zero; omega), E12⟩
theorem l1Bits_wc {w : World} {A : Option Addr} {l c : Nat} {x : Int} (h : Wc 32 97 .u32 w A l c x) (hl : l ≤ 1000000) : Ct Tryz.prog 59 [.slice A l c] w fun v w1 => v = .int .i64 (nbits x.toNat : Int) ∧ Ext w w1 := by
 obtain ⟨xs, rfl, hc, hw, ho, hk, rfl⟩ := h
 exact l1Bits_ok hw hc ho hk hl
end Go.Proofs.YtmbpomcbdopgnaaGreat.W
namespace Go.Proofs
open Go.Shelf
def Tryz.lays134_ren : Go.Shelf.Ren := ⟨fun | 134 => 67 | 129 => 85 | n => n, fun | 53 => 23 | 3 => 3 | 4 => 4 | 46 => 90 | 5 => 5 | 9 => 9 | n => n, fun | n => n⟩
theorem Tryz.lays134 : Go.Proofs.Lays.n134 Tryz.prog Tryz.lays134_ren := {
 mixed := by kernel_rfl
 f129 := Tryz.func85.trans (congrArg some (by kernel_rfl))
 f134 := Tryz.func67.trans (congrArg some (by kernel_rfl))
 t3 := Tryz.underlying3
 a3 := Tryz.isAgg3
 z3 := Tryz.sizeOf3
 v3 := Tryz.zeroValue3
 t4 := Tryz.underlying4
 a4 := Tryz.isAgg4
 z4 := Tryz.sizeOf4
 v4 := Tryz.zeroValue4
 t5 := Tryz.underlying5
 a5 := Tryz.isAgg5
 z5 := Tryz.sizeOf5
 v5 := Tryz.zeroValue5
 t9 := Tryz.underlying9
 a9 := Tryz.isAgg9
 z9 := Tryz.sizeOf9
 v9 := Tryz.zeroValue9
 t46 := Tryz.underlying90
 a46 := Tryz.isAgg90
 z46 := Tryz.sizeOf90
 v46 := Tryz.zeroValue90
 t53 := Tryz.underlying23
 a53 := Tryz.isAgg23
 z53 := Tryz.sizeOf23
 v53 := Tryz.zeroValue23 }
theorem Tryz.bits_LeadingZeros64 (x : Int) (w : World) (h0 : 0 ≤ x) (h1 : x ≤ 18446744073709551615) :
 Calls Tryz.prog 67 #[.int .u64 x] w fun e w' => e = .returned (.int .i64 (64 - (Lib.bitLen x.toNat : Int))) ∧ w' = w := Any.bits_LeadingZeros64 Tryz.lays134 x w h0 h1
def Tryz.lays264_ren : Go.Shelf.Ren := ⟨fun | 264 => 72 | n => n, fun | 53 => 23 | 46 => 90 | n => n, fun | n => n⟩
theorem Tryz.lays264 : Go.Proofs.Lays.n264 Tryz.prog Tryz.lays264_ren := {
 mixed := by kernel_rfl
 f264 := Tryz.func72.trans (congrArg some (by kernel_rfl))
 t46 := Tryz.underlying90
 a46 := Tryz.isAgg90
 z46 := Tryz.sizeOf90
 v46 := Tryz.zeroValue90
 t53 := Tryz.underlying23
 a53 := Tryz.isAgg23
 z53 := Tryz.sizeOf23
 v53 := Tryz.zeroValue23 }
open Go.RowKit Go.Lib in
theorem Tryz.bits_Mul64 (x y : Nat) (hx : x < 18446744073709551616) (hy : y < 18446744073709551616) (w : World) :
 Calls Tryz.prog 72 #[.int .u64 x, .int .u64 y] w fun e w' => e = .returned (.tuple #[.int .u64 ((x * y / 18446744073709551616 : Nat) : Int), .int .u64 ((x * y % 18446744073709551616 : Nat) : Int)]) ∧ w' = w := Any.bits_Mul64 Tryz.lays264 x y hx hy w
def Tryz.laysSlN31_f28_ren : Go.Shelf.Ren := ⟨fun | 31 => 28 | 29 => 54 | n => n, fun | 22 => 41 | 23 => 2 | 4 => 4 | 3 => 3 | 0 => 0 | n => n, fun | n => n⟩
theorem Tryz.laysSlN31_f28 : Go.Proofs.SlLaysN.n31 Tryz.prog Tryz.laysSlN31_f28_ren := {
 mixed := by kernel_rfl
 f29 := ⟨Tryz.f54.name, by decide, Tryz.func54.trans (congrArg some (by kernel_rfl))⟩
 f31 := ⟨Tryz.f28.name, by decide, Tryz.func28.trans (congrArg some (by kernel_rfl))⟩
 t0 := Tryz.underlying0
 a0 := Tryz.isAgg0
 z0 := Tryz.sizeOf0
 v0 := Tryz.zeroValue0
 t3 := Tryz.underlying3
 a3 := Tryz.isAgg3
 z3 := Tryz.sizeOf3
 v3 := Tryz.zeroValue3
 t4 := Tryz.underlying4
 a4 := Tryz.isAgg4
 z4 := Tryz.sizeOf4
 v4 := Tryz.zeroValue4
 t22 := Tryz.underlying41
 a22 := Tryz.isAgg41
 z22 := Tryz.sizeOf41
 v22 := Tryz.zeroValue41
 t23 := Tryz.underlying2
 a23 := Tryz.isAgg2
 z23 := Tryz.sizeOf2
 v23 := Tryz.zeroValue2 }
open Go.Lib in
theorem Tryz.slices_Contains_int (b off n c : Nat) (zs : List Int) (x : Int) (w : World) (hz : n ≤ zs.length) (hbig : n ≤ 9223372036854775807) (hc : ∀ j, j < zs.length → w.cell? ⟨b, off + j, none⟩ = some (.int .i64 (zs.getD j 0))) :
 Calls Tryz.prog 28 #[.slice (some ⟨b, off, none⟩) n c, .int .i64 x] w fun e w' => e = .returned (.bool ((zs.take n).contains x)) ∧ w' = w := AnyG.slices_Contains_int Tryz.laysSlN31_f28 b off n c zs x w hz hbig hc
open Go.Lib in
theorem Tryz.slices_Contains_int_empty (a : Option Addr) (c : Nat) (x : Int) (w : World) :
 Calls Tryz.prog 28 #[.slice a 0 c, .int .i64 x] w fun e w' => e = .returned (.bool false) ∧ w' = w := AnyG.slices_Contains_int_empty Tryz.laysSlN31_f28 a c x w
def Tryz.laysSlE041_f50_ren : Go.Shelf.Ren := ⟨fun | 41 => 50 | n => n, fun | 22 => 41 | 23 => 2 | 4 => 4 | n => n, fun | n => n⟩
theorem Tryz.laysSlE041_f50 : Go.Proofs.SlLaysE0.n41 Tryz.prog Tryz.laysSlE041_f50_ren := {
 mixed := by kernel_rfl
 f41 := ⟨Tryz.f50.name, by decide, Tryz.func50.trans (congrArg some (by kernel_rfl))⟩
 t4 := Tryz.underlying4
 a4 := Tryz.isAgg4
 z4 := Tryz.sizeOf4
 v4 := Tryz.zeroValue4
 t22 := Tryz.underlying41
 a22 := Tryz.isAgg41
 z22 := Tryz.sizeOf41
 v22 := Tryz.zeroValue41 }
open Go.RowKit Go.Lib in
theorem Tryz.slices_Clone_f50 (i0 : TypeInfo) (z : Value) (size bytes : Nat) (hi : Tryz.prog.info? 2 = some i0) (hz0 : i0.zero = some z) (hz1 : i0.size = size) (hz2 : i0.bytes = bytes) (hzs : z.cells.size = size) (hsz : 0 < size) (z23 : ∀ w, (Go.sizeOf 2).run Tryz.prog w = .ok size w) (b off n c : Nat) (news : List Value) (w : World) (hl : news.length = n * size) (hn : n ≤ maxLen) (hbig : n * bytes ≤ 140737488355328) (hc : ∀ j u, news[j]? = some u → w.cell? ⟨b, off + j, none⟩ = some u) (h1 : ∀ u ∈ news, u.oneCell' = true) :
 Calls Tryz.prog 50 #[.slice (some ⟨b, off, none⟩) n c] w fun e w' => ∃ v', e = .returned v' ∧ w'.ownsRow w.heap.size 2 size v' n news ∧ v' ≠ .slice none 0 0 ∧ Below w.heap.size w w' := AnyE.slices_Clone Tryz.laysSlE041_f50 i0 z size bytes hi hz0 hz1 hz2 hzs hsz z23 b off n c news w hl hn hbig hc h1
def Tryz.laysSlE041_f69_ren : Go.Shelf.Ren := ⟨fun | 41 => 69 | n => n, fun | 22 => 75 | 23 => 23 | 4 => 4 | n => n, fun | n => n⟩
theorem Tryz.laysSlE041_f69 : Go.Proofs.SlLaysE0.n41 Tryz.prog Tryz.laysSlE041_f69_ren := {
 mixed := by kernel_rfl
 f41 := ⟨Tryz.f69.name, by decide, Tryz.func69.trans (congrArg some (by kernel_rfl))⟩
 t4 := Tryz.underlying4
 a4 := Tryz.isAgg4
 z4 := Tryz.sizeOf4
 v4 := Tryz.zeroValue4
 t22 := Tryz.underlying75
 a22 := Tryz.isAgg75
 z22 := Tryz.sizeOf75
 v22 := Tryz.zeroValue75 }
open Go.RowKit Go.Lib in
theorem Tryz.slices_Clone_f69 (i0 : TypeInfo) (z : Value) (size bytes : Nat) (hi : Tryz.prog.info? 23 = some i0) (hz0 : i0.zero = some z) (hz1 : i0.size = size) (hz2 : i0.bytes = bytes) (hzs : z.cells.size = size) (hsz : 0 < size) (z23 : ∀ w, (Go.sizeOf 23).run Tryz.prog w = .ok size w) (b off n c : Nat) (news : List Value) (w : World) (hl : news.length = n * size) (hn : n ≤ maxLen) (hbig : n * bytes ≤ 140737488355328) (hc : ∀ j u, news[j]? = some u → w.cell? ⟨b, off + j, none⟩ = some u) (h1 : ∀ u ∈ news, u.oneCell' = true) :
 Calls Tryz.prog 69 #[.slice (some ⟨b, off, none⟩) n c] w fun e w' => ∃ v', e = .returned v' ∧ w'.ownsRow w.heap.size 23 size v' n news ∧ v' ≠ .slice none 0 0 ∧ Below w.heap.size w w' := AnyE.slices_Clone Tryz.laysSlE041_f69 i0 z size bytes hi hz0 hz1 hz2 hzs hsz z23 b off n c news w hl hn hbig hc h1
open Go.RowKit Go.Lib in
theorem Tryz.slices_Clone_nil_f69 (n c : Nat) (w : World) :
 Calls Tryz.prog 69 #[.slice none n c] w fun e w' => e = .returned (.slice none 0 0) ∧ w' = w := AnyE.slices_Clone_nil Tryz.laysSlE041_f69 n c w
def Tryz.laysSort_ren : Go.Shelf.Ren := ⟨fun | 53 => 29 | 64 => 56 | 63 => 55 | 78 => 84 | 79 => 85 | 70 => 75 | 71 => 76 | 72 => 77 | 73 => 78 | 74 => 79 | 75 => 80 | 59 => 81 | 76 => 82 | 77 => 83 | 88 => 99 | 89 => 100 | 90 => 101 | 91 => 102 | 92 => 103 | 68 => 104 | 96 => 107 | n => n, fun | 22 => 41 | 23 => 2 | 3 => 3 | 51 => 90 | 0 => 0 | 67 => 97 | 69 => 23 | 4 => 4 | 61 => 112 | 60 => 111 | 44 => 117 | 5 => 5 | 9 => 9 | 75 => 127 | 79 => 131 | 83 => 136 | 84 => 137 | n => n, fun | n => n⟩
theorem Tryz.laysSort : Go.Proofs.SlLaysN.n53 Tryz.prog Tryz.laysSort_ren := {
 mixed := by kernel_rfl
 f53 := ⟨Tryz.f29.name, by decide, Tryz.func29.trans (congrArg some (by kernel_rfl))⟩
 f59 := ⟨Tryz.f81.name, by decide, Tryz.func81.trans (congrArg some (by kernel_rfl))⟩
 f63 := ⟨Tryz.f55.name, by decide, Tryz.func55.trans (congrArg some (by kernel_rfl))⟩
 f64 := Tryz.func56.trans (congrArg some (by kernel_rfl))
 f68 := ⟨Tryz.f104.name, by decide, Tryz.func104.trans (congrArg some (by kernel_rfl))⟩
 f70 := ⟨Tryz.f75.name, by decide, Tryz.func75.trans (congrArg some (by kernel_rfl))⟩
 f71 := ⟨Tryz.f76.name, by decide, Tryz.func76.trans (congrArg some (by kernel_rfl))⟩
 f72 := ⟨Tryz.f77.name, by decide, Tryz.func77.trans (congrArg some (by kernel_rfl))⟩
 f73 := ⟨Tryz.f78.name, by decide, Tryz.func78.trans (congrArg some (by kernel_rfl))⟩
 f74 := ⟨Tryz.f79.name, by decide, Tryz.func79.trans (congrArg some (by kernel_rfl))⟩
 f75 := ⟨Tryz.f80.name, by decide, Tryz.func80.trans (congrArg some (by kernel_rfl))⟩
 f76 := ⟨Tryz.f82.name, by decide, Tryz.func82.trans (congrArg some (by kernel_rfl))⟩
 f77 := ⟨Tryz.f83.name, by decide, Tryz.func83.trans (congrArg some (by kernel_rfl))⟩
 f78 := Tryz.func84.trans (congrArg some (by kernel_rfl))
 f79 := Tryz.func85.trans (congrArg some (by kernel_rfl))
 f88 := ⟨Tryz.f99.name, by decide, Tryz.func99.trans (congrArg some (by kernel_rfl))⟩
 f89 := Tryz.func100.trans (congrArg some (by kernel_rfl))
 f90 := Tryz.func101.trans (congrArg some (by kernel_rfl))
 f91 := ⟨Tryz.f102.name, by decide, Tryz.func102.trans (congrArg some (by kernel_rfl))⟩
 f92 := ⟨Tryz.f103.name, by decide, Tryz.func103.trans (congrArg some (by kernel_rfl))⟩
 f96 := ⟨Tryz.f107.name, by decide, Tryz.func107.trans (congrArg some (by kernel_rfl))⟩
 t0 := Tryz.underlying0
 a0 := Tryz.isAgg0
 z0 := Tryz.sizeOf0
 v0 := Tryz.zeroValue0
 t3 := Tryz.underlying3
 a3 := Tryz.isAgg3
 z3 := Tryz.sizeOf3
 v3 := Tryz.zeroValue3
 t4 := Tryz.underlying4
 a4 := Tryz.isAgg4
 z4 := Tryz.sizeOf4
 v4 := Tryz.zeroValue4
 t5 := Tryz.underlying5
 a5 := Tryz.isAgg5
 z5 := Tryz.sizeOf5
 v5 := Tryz.zeroValue5
 t9 := Tryz.underlying9
 a9 := Tryz.isAgg9
 z9 := Tryz.sizeOf9
 v9 := Tryz.zeroValue9
 t22 := Tryz.underlying41
 a22 := Tryz.isAgg41
 z22 := Tryz.sizeOf41
 v22 := Tryz.zeroValue41
 t23 := Tryz.underlying2
 a23 := Tryz.isAgg2
 z23 := Tryz.sizeOf2
 v23 := Tryz.zeroValue2
 t44 := Tryz.underlying117
 a44 := Tryz.isAgg117
 z44 := Tryz.sizeOf117
 v44 := Tryz.zeroValue117
 t51 := Tryz.underlying90
 a51 := Tryz.isAgg90
 z51 := Tryz.sizeOf90
 v51 := Tryz.zeroValue90
 t60 := Tryz.underlying111
 a60 := Tryz.isAgg111
 z60 := Tryz.sizeOf111
 v60 := Tryz.zeroValue111
 t61 := Tryz.underlying112
 a61 := Tryz.isAgg112
 z61 := Tryz.sizeOf112
 v61 := Tryz.zeroValue112
 t67 := Tryz.underlying97
 a67 := Tryz.isAgg97
 z67 := Tryz.sizeOf97
 v67 := Tryz.zeroValue97
 t69 := Tryz.underlying23
 a69 := Tryz.isAgg23
 z69 := Tryz.sizeOf23
 v69 := Tryz.zeroValue23
 t75 := Tryz.underlying127
 a75 := Tryz.isAgg127
 z75 := Tryz.sizeOf127
 v75 := Tryz.zeroValue127
 t79 := Tryz.underlying131
 a79 := Tryz.isAgg131
 z79 := Tryz.sizeOf131
 v79 := Tryz.zeroValue131
 t83 := Tryz.underlying136
 a83 := Tryz.isAgg136
 z83 := Tryz.sizeOf136
 v83 := Tryz.zeroValue136
 t84 := Tryz.underlying137
 a84 := Tryz.isAgg137
 z84 := Tryz.sizeOf137
 v84 := Tryz.zeroValue137 }
open Go.Lib Go.Sort Go.RowKit in
theorem Tryz.slices_Sort_int (blk off cap : Nat) (zs : List Int) (w : World) (hH : Holds (Value.int .i64) w blk off zs.toArray) (hblk : blk < w.heap.size) (hsz : zs.length < 4611686018427387904) :
 Calls Tryz.prog 29 #[.slice (some ⟨blk, off, none⟩) zs.length cap] w fun e w' => e = .returned (.tuple #[]) ∧ ∃ n os, w' = grow (putRow (Value.int .i64) (Sort.ahead w n) blk off (zs.mergeSort fun x y => decide (x ≤ y)).toArray) os := AnyG.slices_Sort_int Tryz.laysSort blk off cap zs w hH hblk hsz
end Go.Proofs
set_option linter.unusedVariables false
set_option linter.unusedSimpArgs false
namespace Go.Proofs.YtmbpomcbdopgnaaGreat.W
open Go Go.RowKit Go.Proofs.YtmbpomcbdopgnaaGreat.Fw
attribute [local irreducible] RunK LW AW DV OE Ct
theorem co67 : callOk Tryz.prog 67 = true := by kernel_rfl
theorem lz_ok {w : World} {x : Int} (h : 0 ≤ x ∧ x < 18446744073709551616) : Ct Tryz.prog 67 [.int .u64 x] w fun v w1 => v = .int .i64 (64 - (nbits x.toNat : Int)) ∧ Ext w w1 := by
 unfold Ct
 exact Calls.mono (Tryz.bits_LeadingZeros64 x w h.1 (by omega)) fun e w' ⟨he, hw⟩ => ⟨_, he, by rw [nbits_bitLen (by omega)], by subst hw; exact Below.refl _ _⟩
set_option maxHeartbeats 1000000 in
theorem nsize_ok {w : World} {neg : Bool} {A : Option Addr} {c : Nat} {xs : List Int} (hx : Wd w 23 .u64 A xs) (hc : xs.length ≤ c) (ox : okW (2 ^ 64) xs) (cx : canon xs) (lx : xs.length ≤ 1000000) : Ct Tryz.prog 46 [.agg #[.bool neg, .slice A (xs.length) c]] w fun v w1 => v = .int .i64 (nbits (valB (2 ^ 64) xs).toNat : Int) ∧ Ext w w1 := by
 refine ct_run (n := 19) Tryz.func46 rfl Tryz.ntmps46 rfl ?_
 have E0 : Below w.heap.size w w := Below.refl _ _
 have bn := fun h => nbits_top ox h (canon_top ox cx h)
 have bg := okW.getD ox (by decide) (xs.length - 1)
 have bl := nbits_len ox
 have bm : nbits (xs.getD (xs.length - 1) 0).toNat ≤ 64 := nbits_le_iff.2 (by omega)
 refine rk_seq <| rk_reg <| lw_e (oe_box (v := .agg #[.bool neg, .slice A (xs.length) c]) (cs := #[.bool neg, .slice A (xs.length) c]) (T rfl rfl) rfl ?_)
 intro b1 w2 n3
 have N4 : w.heap.size ≤ b1 := n3.eq ▸ E0.size
 have E5 := below_ext E0 E0.size n3.ext
 refine lw_v (qi 0) (dv_assign C) <| qN <| lw_v (.pointer (some ⟨b1, 1, none⟩)) (dv_fieldAddr (a := ⟨b1, 0, none⟩) (a' := ⟨b1, 1, none⟩) fo77_1 (T rfl rfl) rfl) <| lw_v (.slice A (xs.length) c) (dv_load1 (b := b1) (o := 1) agt75 (T rfl rfl) n3.blk rfl) <| lw_v (qi (xs.length : Int)) (dv_len (ad := A) (l := xs.length) (c := c) us75 (T rfl rfl)) <| lw_v (qi (xs.length : Int)) (dv_assign (T rfl rfl)) <| lw_nil <| rk_seq <| rk_seq ?_
 refine rk_reg <| lw_v (qi (xs.length : Int)) (dv_move (T rfl rfl)) <| lw_v (qd ((xs.length : Int) = 0)) (dv_eql (a := (xs.length : Int)) (b := 0) (T rfl rfl) C) <| lw_nil ?_
 by_cases hb6 : ((xs.length : Int)) = 0
 · refine rk_ct (T rfl (qT hb6)) <| rk_seq <| rk_reg <| lw_v (qi 0) (dv_assign C) <| lw_nil <| rk_ret Tryz.func46 (v := qi 0) (res1 Tryz.results46 (rv_tmp rfl rfl)) ⟨_, rfl, ?_⟩
   exact ⟨vi (by have h0 : xs = [] := List.eq_nil_of_length_eq_zero (by omega); simp [h0, valB, nbits]), E5⟩
 · refine rk_cf (T rfl (qF hb6)) <| rk_skip <| rk_seq <| rk_reg <| lw_v (qi (xs.length : Int)) (dv_move (T rfl rfl)) <| lw_v (qi (64 * (xs.length : Int))) (dv_mul (a := 64) (b := (xs.length : Int)) (z := 64 * (xs.length : Int)) C (T rfl rfl) (wr_i64 (by omega) (by omega))) <| lw_v (.pointer (some ⟨b1, 1, none⟩)) (dv_fieldAddr (a := ⟨b1, 0, none⟩) (a' := ⟨b1, 1, none⟩) fo77_1 (T rfl rfl) rfl) <| lw_v (.slice A (xs.length) c) (dv_load1 (b := b1) (o := 1) agt75 (T rfl rfl) n3.blk rfl) <| lw_v (qi (xs.length : Int)) (dv_move (T rfl rfl)) <| lw_v (qi ((xs.length : Int) - 1)) (dv_sub (a := (xs.length : Int)) (b := 1) (z := (xs.length : Int) - 1) (T rfl rfl) C (wr_i64 (by omega) (by omega))) ?_
   have h7 := (hx.ext n3.ext)
   obtain ⟨g8, o9, rfl⟩ := Wd.at h7 (by first | omega | (simp; done) | (simp; omega))
   refine lw_v (.pointer (some ⟨g8, o9 + ((xs.length) - 1), none⟩)) (dv_indexW (g := g8) (o := o9) (l := xs.length) (c := c) (i := ((xs.length) - 1)) (j := (xs.length : Int) - 1) us75 sz23 (T rfl rfl) (T rfl rfl) (by omega) (by first | omega | (simp; done) | (simp; omega))) <| lw_v (qu (xs.getD (((xs.length) - 1)) 0)) (dv_load agt23 (T rfl rfl) (Wd.cell h7 (by first | omega | (simp; done) | (simp; omega)))) <| lw_e (oe_callf (vs := [qu (xs.getD (((xs.length) - 1)) 0)]) co67 (ar1 (T rfl rfl)) (lz_ok (by omega)) ?_)
   rintro _ w10 ⟨rfl, e11⟩
   have E12 := below_ext E5 E5.size e11
   refine lw_v (qi ((64 * (xs.length : Int)) - (64 - (nbits (xs.getD (((xs.length) - 1)) 0).toNat : Int)))) (dv_sub (a := 64 * (xs.length : Int)) (b := 64 - (nbits (xs.getD (((xs.length) - 1)) 0).toNat : Int)) (z := (64 * (xs.length : Int)) - (64 - (nbits (xs.getD (((xs.length) - 1)) 0).toNat : Int))) (T rfl rfl) (T rfl rfl) (wr_i64 (by omega) (by omega))) <| lw_v (qi ((64 * (xs.length : Int)) - (64 - (nbits (xs.getD (((xs.length) - 1)) 0).toNat : Int)))) (dv_assign (T rfl rfl)) <| lw_nil <| rk_ret Tryz.func46 (v := qi ((64 * (xs.length : Int)) - (64 - (nbits (xs.getD (((xs.length) - 1)) 0).toNat : Int)))) (res1 Tryz.results46 (rv_tmp rfl rfl)) ⟨_, rfl, ?_⟩
   exact ⟨vi (by have := bn (by omega); omega), E12⟩
theorem nsize_num {w : World} {neg : Bool} {A : Option Addr} {l c s : Nat} {z : Int} (h : Num 64 23 .u64 w neg A l c z s) (hl : l ≤ 1000000) : Ct Tryz.prog 46 [.agg #[.bool neg, .slice A l c]] w fun v w1 => v = .int .i64 (nbits z.natAbs : Int) ∧ Ext w w1 := by
 have e : (valB (2 ^ 64) []).toNat = 0 := rfl
 obtain ⟨xs, rfl, hc, hw, ho, hk, hv⟩ := h.wc
 have := nsize_ok (neg := neg) hw hc ho hk hl
 rw [← hv, Int.toNat_natCast] at this
 exact this
end Go.Proofs.YtmbpomcbdopgnaaGreat.W
set_option linter.unusedVariables false
set_option linter.unusedSimpArgs false
namespace Go.Proofs.YtmbpomcbdopgnaaGreat.W
open Go Go.RowKit Go.Proofs.YtmbpomcbdopgnaaGreat.Fw
attribute [local irreducible] RunK LW AW DV OE Ct
theorem clone_ok {w : World} {A : Option Addr} {l c : Nat} {xs : List Int} (hx : Wd w 23 .u64 A xs) (hl : xs.length = l) (hL : l ≤ 1000000) : Ct Tryz.prog 69 [.slice A l c] w fun v w1 => ∃ A' c', v = .slice A' xs.length c' ∧ Ext w w1 ∧ Ow w1 w.heap.size 23 .u64 A' c' xs := by
 unfold Ct
 rcases hx with ⟨rfl, rfl⟩ | ⟨g, o, cs, fz, rfl, hg, hc⟩
 · refine Calls.mono (Tryz.slices_Clone_nil_f69 l c w) fun e w' ⟨he, hw⟩ => ⟨_, he, none, 0, rfl, by subst hw; exact Below.refl _ _, ⟨⟨rfl, .inl ⟨rfl, rfl⟩⟩, by subst hw; exact Nat.le_refl _⟩⟩
 · obtain ⟨i0, hi0, hi⟩ : ∃ i0, Tryz.prog.info? 23 = some i0 ∧ (i0.zero, i0.size, i0.bytes) = (some (.int .u64 0), 1, 8) := by
    have h := in23
    cases hi : Tryz.prog.info? 23 with
    | none => rw [hi] at h; cases h
    | some i0 => rw [hi] at h; exact ⟨i0, rfl, by simpa using h⟩
   simp only [Prod.mk.injEq] at hi
   refine Calls.mono (Tryz.slices_Clone_f69 i0 _ 1 8 hi0 hi.1 hi.2.1 hi.2.2 rfl (by decide) (fun w => Fw.run_sizeOf sz23) g o l c (xs.map (Value.int .u64)) w (by simp [hl]) (by simp only [maxLen]; omega) (by omega) (fun j u hj => ?_) (ints_oneCell .u64 xs)) fun e w' ⟨v', he, ho, hne, hb⟩ => ?_
   · rw [List.getElem?_map] at hj
     cases hx : xs[j]? with
     | none => rw [hx] at hj; cases hj
     | some x =>
      rw [hx] at hj
      have := hc j x hx
      rw [cell_of_row w g (o + j) cs 23 fz hg, this]
      exact hj
   · subst hl
     obtain ⟨A', c', rfl⟩ := own_slice ho
     exact ⟨_, he, A', c', rfl, hb, ho, hb.size⟩
end Go.Proofs.YtmbpomcbdopgnaaGreat.W
