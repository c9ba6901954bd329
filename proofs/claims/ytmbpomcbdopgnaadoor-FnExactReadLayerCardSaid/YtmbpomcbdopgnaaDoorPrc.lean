/- Walks and plain mathematics, packed by a program of this session: declarations that the rows reach. -/
import Derived.Shelf.Strings.Builder1
import Derived.Shelf.Strings.Builder2
import Derived.Shelf.Strings.OnBuilder
import Derived.Shelf.Utf8.RuneCount
import Derived.Shelf.Strconv.Itoa0
import Derived.Shelf.Strconv.Itoa1
import Derived.Shelf.LaysM
import Derived.Shelf.Strconv.Itoa2
import Derived.Shelf.Strconv.Itoa3
import Derived.Shelf.Strconv.Itoa4
import Derived.Shelf.Strconv.ParseIntEmpty
import Derived.Shelf.Strconv.Clone
import Derived.Shelf.Strconv.SyntaxError
import Derived.Shelf.LaysC
import Derived.Shelf.Strconv.ToError
import Derived.Shelf.Strconv.Lower
import Derived.Shelf.Strconv.ParseUint10
import Derived.Shelf.Strconv.ParseUint10Empty
import Derived.Shelf.Strconv.ParseUint10Any
import Derived.Shelf.Strconv.ParseInt10
import Derived.Shelf.Strconv.RangeError
import Derived.Shelf.Strconv.ToErrorRange
import Derived.Shelf.Strconv.ParseUintEmpty
import Derived.Shelf.Strconv.ParseUint10b64
import Derived.Shelf.Strconv.ParseUint10b32
import Derived.Shelf.Strconv.ParseUint10b16
import Derived.Shelf.Strconv.ParseUint10b8
import Derived.Shelf.Strconv.ParseUint10At
import Derived.Shelf.Strconv.ParseInt10At64
import Derived.Shelf.Strconv.ParseInt10At32
import Derived.Shelf.Strconv.ParseInt10At16
import Derived.Shelf.Strconv.ParseInt10At8
import Derived.Shelf.Strconv.ParseInt10All
import Derived.Shelf.Strconv.ParseIntPublic10
import Derived.Shelf.Strconv.ErrVarParseInt
import Derived.Shelf.Strings.Search1
import Derived.Shelf.Strings.Search2
import Derived.Shelf.Strings.Search3
import Derived.Shelf.Strings.Count
import Derived.Shelf.Strings.Shaped
import Derived.Shelf.Strings.Split
import Derived.Shelf.Strings.SplitShaped
import Derived.Shelf.Unicode.Decode
import Derived.Shelf.Strings.RuneCount
import Derived.Shelf.Strings.Explode
import Derived.Shelf.Unicode.DecodeSlow
import Derived.Shelf.Unicode.DecodeAny
import Derived.Test.YtmbpomcbdopgnaaDoorProg
import Derived.Test.YtmbpomcbdopgnaaDoorPrb
set_option linter.unusedVariables false
set_option linter.unusedSimpArgs false
namespace Go.Proofs.YtmbpomcbdopgnaaDoor.W
open Go Go.RowKit Go.Proofs.YtmbpomcbdopgnaaDoor.Fw
attribute [local irreducible] RunK LW AW DV OE Ct
theorem agt58 : aggB Tryd.prog 58 = some true := by kernel_rfl
theorem agt61 : aggB Tryd.prog 61 = some false := by kernel_rfl
theorem in61 : (Tryd.prog.info? 61).map (fun i => (i.zero, i.size, i.bytes)) = some (some (.int .u32 0), 1, 4) := by kernel_rfl
theorem pl58 : placesB Tryd.prog 58 = some [(0, 1), (1, 1)] := by kernel_rfl
theorem sz58 : sizeB Tryd.prog 58 = some 2 := by kernel_rfl
theorem sz61 : sizeB Tryd.prog 61 = some 1 := by kernel_rfl
theorem ui61 : Tryd.prog.underlying 61 = some (.int .u32) := by kernel_rfl
theorem ui86 : Tryd.prog.underlying 86 = some (.int .u64) := by kernel_rfl
theorem us56 : Tryd.prog.underlying 56 = some (.slice 61) := by kernel_rfl
theorem zc58 : zcB Tryd.prog 58 = some [.bool false, .slice none 0 0] := by kernel_rfl
theorem zc61 : zcB Tryd.prog 61 = some [.int .u32 0] := by kernel_rfl
theorem ze58 : zeroB Tryd.prog 58 = some #[.bool false, .slice none 0 0] := by kernel_rfl
set_option maxHeartbeats 1000000 in
theorem l1Trim_ok {w : World} {neg : Bool} {A : Option Addr} {c : Nat} {xs : List Int} (hx : Wd w 61 .u32 A xs) (hc : xs.length ≤ c) (hL : xs.length ≤ 1000000) : Ct Tryd.prog 51 [.bool neg, .slice A (xs.length) c] w fun v w1 => v = (if (trimL xs).length = 0 then .agg #[.bool false, .slice none 0 0] else .agg #[.bool neg, .slice A (trimL xs).length c]) ∧ Ext w w1 := by
 refine ct_run (n := 28) Tryd.func51 rfl Tryd.ntmps51 rfl ?_
 have E0 : Below w.heap.size w w := Below.refl _ _
 refine rk_seq ?_
 refine rk_reg ?_
 refine lw_e (oe_alloc ze58 ?_)
 intro b1 w2 n3
 have N4 : w.heap.size ≤ b1 := n3.eq ▸ E0.size
 have E5 := below_ext E0 E0.size n3.ext
 refine lw_nil ?_
 refine rk_seq ?_
 refine rk_reg ?_
 refine lw_v (.slice A (xs.length) c) (dv_move (T rfl rfl)) ?_
 refine lw_v (.int .i64 ((xs.length : Int))) (dv_len (ad := A) (l := xs.length) (c := c) us56 (T rfl rfl)) ?_
 refine lw_v (.int .i64 ((xs.length : Int))) (dv_assign (T rfl rfl)) ?_
 refine lw_nil ?_
 refine rk_seq ?_
 refine rk_block ?_
 refine rk_loop (fun dm_ fr wl => ∃ (n : Nat), dm_ = n ∧ fr 0 = .bool neg ∧ fr 1 = .slice A (xs.length) c ∧ fr 4 = .pointer (some ⟨b1, 0, none⟩) ∧ fr 5 = .int .i64 ((n : Int)) ∧ Below w.heap.size w wl ∧ wl.heap[b1]? = some (.cells #[.bool false, .slice none 0 0] 58) ∧ (n ≤ xs.length) ∧ (trimL (xs.take n) = trimL xs)) (xs.length) ⟨xs.length, rfl, rfl, rfl, rfl, (vi (by omega)), E5, n3.blk, (Nat.le_refl _), (by rw [List.take_of_length_le (Nat.le_refl _)])⟩ ?_
 intro d10 fr9 w6 hI7 ih8
 obtain ⟨n, hd17, f11, f12, f13, f14, E15, H16, hn, ht⟩ := hI7
 refine rk_seq ?_
 refine rk_seq ?_
 refine rk_reg ?_
 refine lw_v (.int .i64 ((n : Int))) (dv_move (T rfl f14)) ?_
 refine lw_v (.bool (decide (0 < ((n : Int))))) (dv_gtr (a := (n : Int)) (b := 0) (T rfl rfl) C) ?_
 refine lw_v (.bool (decide (0 < ((n : Int))))) (dv_move (T rfl rfl)) ?_
 by_cases hb18 : 0 < ((n : Int))
 · refine lw_vy (.slice A (xs.length) c) (d := 10) rfl rfl (congrArg Value.bool (decide_eq_true hb18)) (dv_move (T rfl f12)) ?_
   refine lw_vy (.int .i64 ((n : Int))) (d := 10) rfl rfl (congrArg Value.bool (decide_eq_true hb18)) (dv_move (T rfl f14)) ?_
   refine lw_vy (.int .i64 (((n : Int)) - 1)) (d := 10) rfl rfl (congrArg Value.bool (decide_eq_true hb18)) (dv_sub (a := (n : Int)) (b := 1) (z := ((n : Int)) - 1) (T rfl rfl) C (wr_i64 (by omega) (by omega))) ?_
   have h19 := (hx.ext E15)
   obtain ⟨g20, o21, rfl⟩ := Wd.at h19 (by first | omega | (simp; done) | (simp; omega))
   refine lw_vy (.pointer (some ⟨g20, o21 + ((n) - 1), none⟩)) (d := 10) rfl rfl (congrArg Value.bool (decide_eq_true hb18)) (dv_indexW (g := g20) (o := o21) (l := xs.length) (c := c) (i := ((n) - 1)) (j := ((n : Int)) - 1) us56 sz61 (T rfl rfl) (T rfl rfl) (by omega) (by first | omega | (simp; done) | (simp; omega))) ?_
   refine lw_vy (.int .u32 (xs.getD (((n) - 1)) 0)) (d := 10) rfl rfl (congrArg Value.bool (decide_eq_true hb18)) (dv_load agt61 (T rfl rfl) (Wd.cell h19 (by first | omega | (simp; done) | (simp; omega)))) ?_
   refine lw_vy (.bool (decide ((xs.getD (((n) - 1)) 0) = 0))) (d := 10) rfl rfl (congrArg Value.bool (decide_eq_true hb18)) (dv_eql (a := xs.getD (((n) - 1)) 0) (b := 0) (T rfl rfl) C) ?_
   refine lw_v (.bool (decide ((xs.getD (((n) - 1)) 0) = 0))) (dv_pick_t (T rfl (congrArg Value.bool (decide_eq_true hb18))) (T rfl rfl)) ?_
   refine lw_nil ?_
   by_cases hb22 : (xs.getD (((n) - 1)) 0) = 0
   · refine rk_ct (T rfl (congrArg Value.bool (decide_eq_true hb22))) ?_
     refine rk_skip ?_
     refine rk_block ?_
     refine rk_reg ?_
     refine lw_v (.int .i64 ((n : Int))) (dv_move (T rfl f14)) ?_
     refine lw_v (.int .i64 (((n : Int)) - 1)) (dv_sub (a := (n : Int)) (b := 1) (z := ((n : Int)) - 1) (T rfl rfl) C (wr_i64 (by omega) (by omega))) ?_
     refine lw_v (.int .i64 (((n : Int)) - 1)) (dv_assign (T rfl rfl)) ?_
     refine lw_nil ?_
     refine rk_inBlock ?_
     exact ih8 (((n - 1))) _ _ (by rw [hd17]; omega) ⟨(n - 1), rfl, f11, f12, f13, (vi (by omega)), E15, H16, (by omega), (by rw [← ht, trim_less xs n (by omega) hn (by rw [getD_take _ _ _ (by omega)]; first | assumption | simpa using ‹_›)])⟩
   · refine rk_cf (T rfl (congrArg Value.bool (decide_eq_false hb22))) ?_
     refine rk_exit rfl ?_
     refine rk_seq ?_
     refine rk_seq ?_
     refine rk_reg ?_
     refine lw_v (.int .i64 ((n : Int))) (dv_move (T rfl f14)) ?_
     refine lw_v (.bool (decide (((n : Int)) = 0))) (dv_eql (a := (n : Int)) (b := 0) (T rfl rfl) C) ?_
     refine lw_nil ?_
     by_cases hb23 : ((n : Int)) = 0
     · refine rk_ct (T rfl (congrArg Value.bool (decide_eq_true hb23))) ?_
       refine rk_seq ?_
       refine rk_reg ?_
       refine lw_v (.agg #[.bool false, .slice none 0 0]) (dv_build (pv := []) (l := [.bool false, .slice none 0 0]) zc58 pl58 trivial rfl) ?_
       refine lw_e (oe_store (v := .agg #[.bool false, .slice none 0 0]) (vs := [.bool false, .slice none 0 0]) (l := [.bool false, .slice none 0 0]) (T rfl f13) (T rfl rfl) sz58 rfl rfl rfl H16 rfl ?_)
       intro w24 s25 H26
       have E27 := below_st E15 N4 s25
       refine lw_nil ?_
       refine rk_ret Tryd.func51 (v := .agg #[.bool false, .slice none 0 0]) (res1 Tryd.results51 (rv_cells (l := [.bool false, .slice none 0 0]) agt58 sz58 rfl f13 H26 rfl)) ⟨_, rfl, ?_⟩
       have hl := trim_done xs n hn ht (by rw [getD_take_or]; omega)
       exact ⟨by rw [hl]; rw [if_pos (by omega)], E27⟩
     · refine rk_cf (T rfl (congrArg Value.bool (decide_eq_false hb23))) ?_
       refine rk_skip ?_
       refine rk_seq ?_
       refine rk_reg ?_
       refine lw_v (.bool neg) (dv_move (T rfl f11)) ?_
       refine lw_v (.slice (some ⟨g20, o21, none⟩) (xs.length) c) (dv_move (T rfl f12)) ?_
       refine lw_v (.int .i64 ((n : Int))) (dv_move (T rfl f14)) ?_
       refine lw_v (.slice (some ⟨g20, o21, none⟩) n c) (dv_sliceH (ad := (some ⟨g20, o21, none⟩)) (l := xs.length) (c := c) (i := n) (j := (n : Int)) us56 sz61 (T rfl rfl) (T rfl rfl) (by omega) (by first | omega | (simp; done) | (simp; omega))) ?_
       refine lw_v (.agg #[.bool neg, .slice (some ⟨g20, o21, none⟩) n c]) (dv_build (pv := [(0, .bool neg), (1, .slice (some ⟨g20, o21, none⟩) n c)]) (l := [.bool neg, .slice (some ⟨g20, o21, none⟩) n c]) zc58 pl58 ⟨rfl, (T rfl rfl), ⟨rfl, (T rfl rfl), trivial⟩⟩ rfl) ?_
       refine lw_e (oe_store (v := .agg #[.bool neg, .slice (some ⟨g20, o21, none⟩) n c]) (vs := [.bool neg, .slice (some ⟨g20, o21, none⟩) n c]) (l := [.bool neg, .slice (some ⟨g20, o21, none⟩) n c]) (T rfl f13) (T rfl rfl) sz58 rfl rfl rfl H16 rfl ?_)
       intro w28 s29 H30
       have E31 := below_st E15 N4 s29
       refine lw_nil ?_
       refine rk_ret Tryd.func51 (v := .agg #[.bool neg, .slice (some ⟨g20, o21, none⟩) n c]) (res1 Tryd.results51 (rv_cells (l := [.bool neg, .slice (some ⟨g20, o21, none⟩) n c]) agt58 sz58 rfl f13 H30 rfl)) ⟨_, rfl, ?_⟩
       have hl := trim_done xs n hn ht (by rw [getD_take_or]; omega)
       exact ⟨by rw [hl]; rw [if_neg (by omega)], E31⟩
 · refine lw_no (d := 10) rfl rfl (congrArg Value.bool (decide_eq_false hb18)) ?_
   refine lw_no (d := 10) rfl rfl (congrArg Value.bool (decide_eq_false hb18)) ?_
   refine lw_no (d := 10) rfl rfl (congrArg Value.bool (decide_eq_false hb18)) ?_
   refine lw_no (d := 10) rfl rfl (congrArg Value.bool (decide_eq_false hb18)) ?_
   refine lw_no (d := 10) rfl rfl (congrArg Value.bool (decide_eq_false hb18)) ?_
   refine lw_no (d := 10) rfl rfl (congrArg Value.bool (decide_eq_false hb18)) ?_
   refine lw_v (.bool false) (dv_pick_f (T rfl (congrArg Value.bool (decide_eq_false hb18))) C) ?_
   refine lw_nil ?_
   refine rk_cf (T rfl rfl) ?_
   refine rk_exit rfl ?_
   refine rk_seq ?_
   refine rk_seq ?_
   refine rk_reg ?_
   refine lw_v (.int .i64 ((n : Int))) (dv_move (T rfl f14)) ?_
   refine lw_v (.bool (decide (((n : Int)) = 0))) (dv_eql (a := (n : Int)) (b := 0) (T rfl rfl) C) ?_
   refine lw_nil ?_
   by_cases hb32 : ((n : Int)) = 0
   · refine rk_ct (T rfl (congrArg Value.bool (decide_eq_true hb32))) ?_
     refine rk_seq ?_
     refine rk_reg ?_
     refine lw_v (.agg #[.bool false, .slice none 0 0]) (dv_build (pv := []) (l := [.bool false, .slice none 0 0]) zc58 pl58 trivial rfl) ?_
     refine lw_e (oe_store (v := .agg #[.bool false, .slice none 0 0]) (vs := [.bool false, .slice none 0 0]) (l := [.bool false, .slice none 0 0]) (T rfl f13) (T rfl rfl) sz58 rfl rfl rfl H16 rfl ?_)
     intro w33 s34 H35
     have E36 := below_st E15 N4 s34
     refine lw_nil ?_
     refine rk_ret Tryd.func51 (v := .agg #[.bool false, .slice none 0 0]) (res1 Tryd.results51 (rv_cells (l := [.bool false, .slice none 0 0]) agt58 sz58 rfl f13 H35 rfl)) ⟨_, rfl, ?_⟩
     have hl := trim_done xs n hn ht (by rw [getD_take_or]; omega)
     exact ⟨by rw [hl]; rw [if_pos (by omega)], E36⟩
   · refine rk_cf (T rfl (congrArg Value.bool (decide_eq_false hb32))) ?_
     refine rk_skip ?_
     refine rk_seq ?_
     refine rk_reg ?_
     refine lw_v (.bool neg) (dv_move (T rfl f11)) ?_
     refine lw_v (.slice A (xs.length) c) (dv_move (T rfl f12)) ?_
     refine lw_v (.int .i64 ((n : Int))) (dv_move (T rfl f14)) ?_
     refine lw_v (.slice A n c) (dv_sliceH (ad := A) (l := xs.length) (c := c) (i := n) (j := (n : Int)) us56 sz61 (T rfl rfl) (T rfl rfl) (by omega) (by first | omega | (simp; done) | (simp; omega))) ?_
     refine lw_v (.agg #[.bool neg, .slice A n c]) (dv_build (pv := [(0, .bool neg), (1, .slice A n c)]) (l := [.bool neg, .slice A n c]) zc58 pl58 ⟨rfl, (T rfl rfl), ⟨rfl, (T rfl rfl), trivial⟩⟩ rfl) ?_
     refine lw_e (oe_store (v := .agg #[.bool neg, .slice A n c]) (vs := [.bool neg, .slice A n c]) (l := [.bool neg, .slice A n c]) (T rfl f13) (T rfl rfl) sz58 rfl rfl rfl H16 rfl ?_)
     intro w37 s38 H39
     have E40 := below_st E15 N4 s38
     refine lw_nil ?_
     refine rk_ret Tryd.func51 (v := .agg #[.bool neg, .slice A n c]) (res1 Tryd.results51 (rv_cells (l := [.bool neg, .slice A n c]) agt58 sz58 rfl f13 H39 rfl)) ⟨_, rfl, ?_⟩
     have hl := trim_done xs n hn ht (by rw [getD_take_or]; omega)
     exact ⟨by rw [hl]; rw [if_neg (by omega)], E40⟩
theorem l1Trim_num {w : World} {neg : Bool} {A : Option Addr} {l c s : Nat} {x : Int} (h : Ws 32 61 .u32 w A l c x) (hl : l ≤ 1000000) (hs : x < 2 ^ s) : Ct Tryd.prog 51 [.bool neg, .slice A l c] w fun v w1 =>
 ∃ nb A' n c', v = .agg #[.bool nb, .slice A' n c'] ∧ Ext w w1 ∧ Num 32 61 .u32 w1 nb A' n c' (sg neg x) s := by
 obtain ⟨xs, rfl, hc, hw, ho, hv⟩ := h
 refine (l1Trim_ok (neg := neg) hw hc hl).mono fun v w1 ⟨h1, h2⟩ => ?_
 have hc' := trimL_canon xs
 have hcp := canon_pos (B := 2 ^ 32) (by decide) (trimL_ok ho) hc'
 rw [trimL_val, ← hv] at hcp
 have h0 := valB_nonneg (B := 2 ^ 32) (by decide) ho
 by_cases hz : (trimL xs).length = 0
 · rw [if_pos hz] at h1
   have hx0 : x = 0 := by omega
   subst hx0
   exact ⟨_, _, _, _, h1, h2, Num.zero.to (by cases neg <;> simp [sg]) (Nat.le_refl _)⟩
 · rw [if_neg hz] at h1
   exact ⟨_, _, _, _, h1, h2, Wc.num ⟨trimL xs, rfl, Nat.le_trans (trimL_len xs) hc, (hw.ext h2).trim, trimL_ok ho, hc', by rw [hv, trimL_val]⟩ (fun hn => by omega) rfl hs⟩
set_option maxHeartbeats 1000000 in
theorem l1SubAbs_ok {w : World} {A D : Option Addr} {c d : Nat} {xs ys : List Int} (hx : Wd w 61 .u32 A xs) (hy : Wd w 61 .u32 D ys) (hc : xs.length ≤ c) (hd : ys.length ≤ d) (ox : okW (2 ^ 32) xs) (oy : okW (2 ^ 32) ys) (lx : xs.length ≤ 500000) (ly : ys.length ≤ 500000) (hyx : ys.length ≤ xs.length) (hle : valB (2 ^ 32) ys ≤ valB (2 ^ 32) xs) : Ct Tryd.prog 61 [.slice A (xs.length) c, .slice D (ys.length) d] w fun v w1 => ∃ A' n c', v = .slice A' n c' ∧ Ext w w1 ∧ Ws 32 61 .u32 w1 A' n c' (valB (2 ^ 32) xs - valB (2 ^ 32) ys) ∧ n = xs.length ∧ ∀ g o, A' = some ⟨g, o, none⟩ → w.heap.size ≤ g := by
 refine ct_run (n := 49) Tryd.func61 rfl Tryd.ntmps61 rfl ?_
 have E0 : Below w.heap.size w w := Below.refl _ _
 refine rk_seq ?_
 refine rk_reg ?_
 refine lw_v (.slice none 0 0) (dv_assign C) ?_
 refine lw_nil ?_
 refine rk_seq ?_
 refine rk_reg ?_
 refine lw_v (.slice A (xs.length) c) (dv_move (T rfl rfl)) ?_
 refine lw_v (.int .i64 ((xs.length : Int))) (dv_len (ad := A) (l := xs.length) (c := c) us56 (T rfl rfl)) ?_
 refine lw_e (oe_makeCapW (c := xs.length) (j := (xs.length : Int)) us56 in61 C (T rfl rfl) (by omega) (by first | omega | (simp; done) | (simp; omega)) (by first | omega | (simp; done) | (simp; omega)) ?_)
 intro b1 w2 n3 hO4
 have N5 : w.heap.size ≤ b1 := n3.eq ▸ E0.size
 have E6 := below_ext E0 E0.size n3.ext
 refine lw_v (.slice (some ⟨b1, 0, none⟩) (([] : List Int).length) (xs.length)) (dv_assign (T rfl rfl)) ?_
 refine lw_nil ?_
 refine rk_seq ?_
 refine rk_reg ?_
 refine lw_v (.int .u64 0) (dv_assign C) ?_
 refine lw_nil ?_
 refine rk_seq ?_
 refine rk_seq ?_
 refine rk_reg ?_
 refine lw_v (.int .i64 0) (dv_assign C) ?_
 refine lw_nil ?_
 refine rk_block ?_
 refine rk_loop (fun dm_ fr wl => ∃ (i : Nat) (L : List Int) (Ad : Option Addr) (cp : Nat) (cy : Int), dm_ = xs.length - i ∧ fr 0 = .slice A (xs.length) c ∧ fr 1 = .slice D (ys.length) d ∧ fr 4 = .slice none 0 0 ∧ fr 5 = .slice Ad (L.length) cp ∧ fr 6 = .int .u64 cy ∧ fr 7 = .int .i64 ((i : Int)) ∧ Below w.heap.size w wl ∧ Ow wl b1 61 .u32 Ad cp L ∧ (i ≤ xs.length) ∧ (L.length = i) ∧ (okW (2 ^ 32) L) ∧ (0 ≤ cy ∧ cy ≤ 1) ∧ (valB (2 ^ 32) L - cy * (2 ^ 32) ^ i = valB (2 ^ 32) (xs.take i) - valB (2 ^ 32) (ys.take i))) (xs.length - 0) ⟨0, ([] : List Int), (some ⟨b1, 0, none⟩), xs.length, 0, rfl, rfl, rfl, rfl, rfl, rfl, (vi (by omega)), E6, hO4, (Nat.zero_le _), rfl, okW.nil, (by decide), (by simp [valB])⟩ ?_
 intro d11 fr10 w7 hI8 ih9
 obtain ⟨i, L, Ad, cp, cy, hd20, f12, f13, f14, f15, f16, f17, E18, h19, hi, hl, hok, hcy, hv⟩ := hI8
 have bxs := okW.getD ox (by decide) i
 have gxs := getD_ge xs i
 have bys := okW.getD oy (by decide) i
 have gys := getD_ge ys i
 refine rk_seq ?_
 refine rk_seq ?_
 refine rk_reg ?_
 refine lw_v (.int .i64 ((i : Int))) (dv_move (T rfl f17)) ?_
 refine lw_v (.slice A (xs.length) c) (dv_move (T rfl f12)) ?_
 refine lw_v (.int .i64 ((xs.length : Int))) (dv_len (ad := A) (l := xs.length) (c := c) us56 (T rfl rfl)) ?_
 refine lw_v (.bool (decide (((i : Int)) < ((xs.length : Int))))) (dv_lss (a := (i : Int)) (b := (xs.length : Int)) (T rfl rfl) (T rfl rfl)) ?_
 refine lw_nil ?_
 by_cases hb21 : ((i : Int)) < ((xs.length : Int))
 · refine rk_ct (T rfl (congrArg Value.bool (decide_eq_true hb21))) ?_
   refine rk_skip ?_
   refine rk_seq ?_
   refine rk_block ?_
   refine rk_seq ?_
   refine rk_reg ?_
   refine lw_v (.slice A (xs.length) c) (dv_move (T rfl f12)) ?_
   refine lw_v (.int .i64 ((i : Int))) (dv_move (T rfl f17)) ?_
   have h22 := (hx.ext E18)
   obtain ⟨g23, o24, rfl⟩ := Wd.at h22 (by first | omega | (simp; done) | (simp; omega))
   refine lw_v (.pointer (some ⟨g23, o24 + i, none⟩)) (dv_indexW (g := g23) (o := o24) (l := xs.length) (c := c) (i := i) (j := (i : Int)) us56 sz61 (T rfl rfl) (T rfl rfl) (by omega) (by first | omega | (simp; done) | (simp; omega))) ?_
   refine lw_v (.int .u32 (xs.getD i 0)) (dv_load agt61 (T rfl rfl) (Wd.cell h22 (by first | omega | (simp; done) | (simp; omega)))) ?_
   refine lw_v (.int .u64 (xs.getD i 0)) (dv_conv (a := xs.getD i 0) (z := xs.getD i 0) ui61 ui86 (T rfl rfl) (wn_u64 (by omega) (by omega))) ?_
   refine lw_v (.int .u64 (xs.getD i 0)) (dv_assign (T rfl rfl)) ?_
   refine lw_nil ?_
   refine rk_seq ?_
   refine rk_reg ?_
   refine lw_v (.int .u64 cy) (dv_move (T rfl f16)) ?_
   refine lw_v (.int .u64 cy) (dv_assign (T rfl rfl)) ?_
   refine lw_nil ?_
   refine rk_seq ?_
   refine rk_seq ?_
   refine rk_reg ?_
   refine lw_v (.int .i64 ((i : Int))) (dv_move (T rfl f17)) ?_
   refine lw_v (.slice D (ys.length) d) (dv_move (T rfl f13)) ?_
   refine lw_v (.int .i64 ((ys.length : Int))) (dv_len (ad := D) (l := ys.length) (c := d) us56 (T rfl rfl)) ?_
   refine lw_v (.bool (decide (((i : Int)) < ((ys.length : Int))))) (dv_lss (a := (i : Int)) (b := (ys.length : Int)) (T rfl rfl) (T rfl rfl)) ?_
   refine lw_nil ?_
   by_cases hb25 : ((i : Int)) < ((ys.length : Int))
   · refine rk_ct (T rfl (congrArg Value.bool (decide_eq_true hb25))) ?_
     refine rk_reg ?_
     refine lw_v (.int .u64 cy) (dv_move (T rfl rfl)) ?_
     refine lw_v (.slice D (ys.length) d) (dv_move (T rfl f13)) ?_
     refine lw_v (.int .i64 ((i : Int))) (dv_move (T rfl f17)) ?_
     have h26 := (hy.ext E18)
     obtain ⟨g27, o28, rfl⟩ := Wd.at h26 (by first | omega | (simp; done) | (simp; omega))
     refine lw_v (.pointer (some ⟨g27, o28 + i, none⟩)) (dv_indexW (g := g27) (o := o28) (l := ys.length) (c := d) (i := i) (j := (i : Int)) us56 sz61 (T rfl rfl) (T rfl rfl) (by omega) (by first | omega | (simp; done) | (simp; omega))) ?_
     refine lw_v (.int .u32 (ys.getD i 0)) (dv_load agt61 (T rfl rfl) (Wd.cell h26 (by first | omega | (simp; done) | (simp; omega)))) ?_
     refine lw_v (.int .u64 (ys.getD i 0)) (dv_conv (a := ys.getD i 0) (z := ys.getD i 0) ui61 ui86 (T rfl rfl) (wn_u64 (by omega) (by omega))) ?_
     refine lw_v (.int .u64 (cy + (ys.getD i 0))) (dv_add (a := cy) (b := ys.getD i 0) (z := cy + (ys.getD i 0)) (T rfl rfl) (T rfl rfl) (wn_u64 (by omega) (by omega))) ?_
     refine lw_v (.int .u64 (cy + (ys.getD i 0))) (dv_assign (T rfl rfl)) ?_
     refine lw_nil ?_
     refine rk_seq ?_
     refine rk_reg ?_
     refine lw_v (.int .u64 0) (dv_assign C) ?_
     refine lw_nil ?_
     refine rk_seq ?_
     refine rk_seq ?_
     refine rk_reg ?_
     refine lw_v (.int .u64 (xs.getD i 0)) (dv_move (T rfl rfl)) ?_
     refine lw_v (.int .u64 (cy + (ys.getD i 0))) (dv_move (T rfl rfl)) ?_
     refine lw_v (.bool (decide ((xs.getD i 0) < (cy + (ys.getD i 0))))) (dv_lss (a := xs.getD i 0) (b := cy + (ys.getD i 0)) (T rfl rfl) (T rfl rfl)) ?_
     refine lw_nil ?_
     by_cases hb29 : (xs.getD i 0) < (cy + (ys.getD i 0))
     · refine rk_ct (T rfl (congrArg Value.bool (decide_eq_true hb29))) ?_
       refine rk_seq ?_
       refine rk_reg ?_
       refine lw_v (.int .u64 (xs.getD i 0)) (dv_move (T rfl rfl)) ?_
       refine lw_v (.int .u64 ((xs.getD i 0) + 4294967296)) (dv_add (a := xs.getD i 0) (b := 4294967296) (z := (xs.getD i 0) + 4294967296) (T rfl rfl) C (wn_u64 (by omega) (by omega))) ?_
       refine lw_v (.int .u64 ((xs.getD i 0) + 4294967296)) (dv_assign (T rfl rfl)) ?_
       refine lw_nil ?_
       refine rk_reg ?_
       refine lw_v (.int .u64 1) (dv_assign C) ?_
       refine lw_nil ?_
       refine rk_reg ?_
       refine lw_v (.slice Ad (L.length) cp) (dv_move (T rfl f15)) ?_
       refine lw_v (.int .u64 ((xs.getD i 0) + 4294967296)) (dv_move (T rfl rfl)) ?_
       refine lw_v (.int .u64 (cy + (ys.getD i 0))) (dv_move (T rfl rfl)) ?_
       refine lw_v (.int .u64 (((xs.getD i 0) + 4294967296) - (cy + (ys.getD i 0)))) (dv_sub (a := (xs.getD i 0) + 4294967296) (b := cy + (ys.getD i 0)) (z := ((xs.getD i 0) + 4294967296) - (cy + (ys.getD i 0))) (T rfl rfl) (T rfl rfl) (wn_u64 (by omega) (by omega))) ?_
       refine lw_v (.int .u32 ((((xs.getD i 0) + 4294967296) - (cy + (ys.getD i 0))) % 4294967296)) (dv_conv (a := ((xs.getD i 0) + 4294967296) - (cy + (ys.getD i 0))) (z := (((xs.getD i 0) + 4294967296) - (cy + (ys.getD i 0))) % 4294967296) ui86 ui61 (T rfl rfl) (wr_u32 _)) ?_
       refine lw_e (oe_buildSlice (pv := [(0, .int .u32 ((((xs.getD i 0) + 4294967296) - (cy + (ys.getD i 0))) % 4294967296))]) (init := [.int .u32 0]) (l := [.int .u32 ((((xs.getD i 0) + 4294967296) - (cy + (ys.getD i 0))) % 4294967296)]) us56 sz61 rfl rfl zc61 (by kernel_rfl) ⟨rfl, (T rfl rfl), trivial⟩ rfl ?_)
       intro b30 w31 n32
       have N33 : w.heap.size ≤ b30 := n32.eq ▸ E18.size
       have E34 := below_ext E18 E18.size n32.ext
       have h35 := (h19.ext n32.ext)
       refine lw_e (oe_appendW (base := b1) (L := L) (M := [(((xs.getD i 0) + 4294967296) - (cy + (ys.getD i 0))) % 4294967296]) (m := 1) us56 in61 (T rfl rfl) (T rfl rfl) h35 (Wd.ownW (xs := [(((xs.getD i 0) + 4294967296) - (cy + (ys.getD i 0))) % 4294967296]) n32.blk) rfl (by first | omega | (simp; done) | (simp; omega)) (by first | omega | (simp; done) | (simp; omega)) ?_)
       intro Ad36 c37 w38 hO39 x40
       have E41 := below_bl E34 N5 x40
       refine lw_v (.slice Ad36 ((L ++ [(((xs.getD i 0) + 4294967296) - (cy + (ys.getD i 0))) % 4294967296]).length) c37) (dv_assign (T rfl rfl)) ?_
       refine lw_nil ?_
       refine rk_inBlock ?_
       refine rk_reg ?_
       refine lw_v (.int .i64 ((i : Int))) (dv_move (T rfl f17)) ?_
       refine lw_v (.int .i64 (((i : Int)) + 1)) (dv_add (a := (i : Int)) (b := 1) (z := ((i : Int)) + 1) (T rfl rfl) C (wr_i64 (by omega) (by omega))) ?_
       refine lw_v (.int .i64 (((i : Int)) + 1)) (dv_assign (T rfl rfl)) ?_
       refine lw_nil ?_
       exact ih9 (xs.length - ((i + 1))) _ _ (by rw [hd20]; omega) ⟨(i + 1), (L ++ [(((xs.getD i 0) + 4294967296) - (cy + (ys.getD i 0))) % 4294967296]), Ad36, c37, 1, rfl, f12, f13, f14, rfl, rfl, (vi (by omega)), E41, hO39, (by omega), (by simp [hl]), (okW.snoc hok (by omega) (by omega)), (by omega), (sub_app hl hv (by omega))⟩
     · refine rk_cf (T rfl (congrArg Value.bool (decide_eq_false hb29))) ?_
       refine rk_skip ?_
       refine rk_reg ?_
       refine lw_v (.slice Ad (L.length) cp) (dv_move (T rfl f15)) ?_
       refine lw_v (.int .u64 (xs.getD i 0)) (dv_move (T rfl rfl)) ?_
       refine lw_v (.int .u64 (cy + (ys.getD i 0))) (dv_move (T rfl rfl)) ?_
       refine lw_v (.int .u64 ((xs.getD i 0) - (cy + (ys.getD i 0)))) (dv_sub (a := xs.getD i 0) (b := cy + (ys.getD i 0)) (z := (xs.getD i 0) - (cy + (ys.getD i 0))) (T rfl rfl) (T rfl rfl) (wn_u64 (by omega) (by omega))) ?_
       refine lw_v (.int .u32 (((xs.getD i 0) - (cy + (ys.getD i 0))) % 4294967296)) (dv_conv (a := (xs.getD i 0) - (cy + (ys.getD i 0))) (z := ((xs.getD i 0) - (cy + (ys.getD i 0))) % 4294967296) ui86 ui61 (T rfl rfl) (wr_u32 _)) ?_
       refine lw_e (oe_buildSlice (pv := [(0, .int .u32 (((xs.getD i 0) - (cy + (ys.getD i 0))) % 4294967296))]) (init := [.int .u32 0]) (l := [.int .u32 (((xs.getD i 0) - (cy + (ys.getD i 0))) % 4294967296)]) us56 sz61 rfl rfl zc61 (by kernel_rfl) ⟨rfl, (T rfl rfl), trivial⟩ rfl ?_)
       intro b42 w43 n44
       have N45 : w.heap.size ≤ b42 := n44.eq ▸ E18.size
       have E46 := below_ext E18 E18.size n44.ext
       have h47 := (h19.ext n44.ext)
       refine lw_e (oe_appendW (base := b1) (L := L) (M := [((xs.getD i 0) - (cy + (ys.getD i 0))) % 4294967296]) (m := 1) us56 in61 (T rfl rfl) (T rfl rfl) h47 (Wd.ownW (xs := [((xs.getD i 0) - (cy + (ys.getD i 0))) % 4294967296]) n44.blk) rfl (by first | omega | (simp; done) | (simp; omega)) (by first | omega | (simp; done) | (simp; omega)) ?_)
       intro Ad48 c49 w50 hO51 x52
       have E53 := below_bl E46 N5 x52
       refine lw_v (.slice Ad48 ((L ++ [((xs.getD i 0) - (cy + (ys.getD i 0))) % 4294967296]).length) c49) (dv_assign (T rfl rfl)) ?_
       refine lw_nil ?_
       refine rk_inBlock ?_
       refine rk_reg ?_
       refine lw_v (.int .i64 ((i : Int))) (dv_move (T rfl f17)) ?_
       refine lw_v (.int .i64 (((i : Int)) + 1)) (dv_add (a := (i : Int)) (b := 1) (z := ((i : Int)) + 1) (T rfl rfl) C (wr_i64 (by omega) (by omega))) ?_
       refine lw_v (.int .i64 (((i : Int)) + 1)) (dv_assign (T rfl rfl)) ?_
       refine lw_nil ?_
       exact ih9 (xs.length - ((i + 1))) _ _ (by rw [hd20]; omega) ⟨(i + 1), (L ++ [((xs.getD i 0) - (cy + (ys.getD i 0))) % 4294967296]), Ad48, c49, 0, rfl, f12, f13, f14, rfl, rfl, (vi (by omega)), E53, hO51, (by omega), (by simp [hl]), (okW.snoc hok (by omega) (by omega)), (by omega), (sub_app hl hv (by omega))⟩
   · refine rk_cf (T rfl (congrArg Value.bool (decide_eq_false hb25))) ?_
     refine rk_skip ?_
     refine rk_seq ?_
     refine rk_reg ?_
     refine lw_v (.int .u64 0) (dv_assign C) ?_
     refine lw_nil ?_
     refine rk_seq ?_
     refine rk_seq ?_
     refine rk_reg ?_
     refine lw_v (.int .u64 (xs.getD i 0)) (dv_move (T rfl rfl)) ?_
     refine lw_v (.int .u64 cy) (dv_move (T rfl rfl)) ?_
     refine lw_v (.bool (decide ((xs.getD i 0) < cy))) (dv_lss (a := xs.getD i 0) (b := cy) (T rfl rfl) (T rfl rfl)) ?_
     refine lw_nil ?_
     by_cases hb54 : (xs.getD i 0) < cy
     · refine rk_ct (T rfl (congrArg Value.bool (decide_eq_true hb54))) ?_
       refine rk_seq ?_
       refine rk_reg ?_
       refine lw_v (.int .u64 (xs.getD i 0)) (dv_move (T rfl rfl)) ?_
       refine lw_v (.int .u64 ((xs.getD i 0) + 4294967296)) (dv_add (a := xs.getD i 0) (b := 4294967296) (z := (xs.getD i 0) + 4294967296) (T rfl rfl) C (wn_u64 (by omega) (by omega))) ?_
       refine lw_v (.int .u64 ((xs.getD i 0) + 4294967296)) (dv_assign (T rfl rfl)) ?_
       refine lw_nil ?_
       refine rk_reg ?_
       refine lw_v (.int .u64 1) (dv_assign C) ?_
       refine lw_nil ?_
       refine rk_reg ?_
       refine lw_v (.slice Ad (L.length) cp) (dv_move (T rfl f15)) ?_
       refine lw_v (.int .u64 ((xs.getD i 0) + 4294967296)) (dv_move (T rfl rfl)) ?_
       refine lw_v (.int .u64 cy) (dv_move (T rfl rfl)) ?_
       refine lw_v (.int .u64 (((xs.getD i 0) + 4294967296) - cy)) (dv_sub (a := (xs.getD i 0) + 4294967296) (b := cy) (z := ((xs.getD i 0) + 4294967296) - cy) (T rfl rfl) (T rfl rfl) (wn_u64 (by omega) (by omega))) ?_
       refine lw_v (.int .u32 ((((xs.getD i 0) + 4294967296) - cy) % 4294967296)) (dv_conv (a := ((xs.getD i 0) + 4294967296) - cy) (z := (((xs.getD i 0) + 4294967296) - cy) % 4294967296) ui86 ui61 (T rfl rfl) (wr_u32 _)) ?_
       refine lw_e (oe_buildSlice (pv := [(0, .int .u32 ((((xs.getD i 0) + 4294967296) - cy) % 4294967296))]) (init := [.int .u32 0]) (l := [.int .u32 ((((xs.getD i 0) + 4294967296) - cy) % 4294967296)]) us56 sz61 rfl rfl zc61 (by kernel_rfl) ⟨rfl, (T rfl rfl), trivial⟩ rfl ?_)
       intro b55 w56 n57
       have N58 : w.heap.size ≤ b55 := n57.eq ▸ E18.size
       have E59 := below_ext E18 E18.size n57.ext
       have h60 := (h19.ext n57.ext)
       refine lw_e (oe_appendW (base := b1) (L := L) (M := [(((xs.getD i 0) + 4294967296) - cy) % 4294967296]) (m := 1) us56 in61 (T rfl rfl) (T rfl rfl) h60 (Wd.ownW (xs := [(((xs.getD i 0) + 4294967296) - cy) % 4294967296]) n57.blk) rfl (by first | omega | (simp; done) | (simp; omega)) (by first | omega | (simp; done) | (simp; omega)) ?_)
       intro Ad61 c62 w63 hO64 x65
       have E66 := below_bl E59 N5 x65
       refine lw_v (.slice Ad61 ((L ++ [(((xs.getD i 0) + 4294967296) - cy) % 4294967296]).length) c62) (dv_assign (T rfl rfl)) ?_
       refine lw_nil ?_
       refine rk_inBlock ?_
       refine rk_reg ?_
       refine lw_v (.int .i64 ((i : Int))) (dv_move (T rfl f17)) ?_
       refine lw_v (.int .i64 (((i : Int)) + 1)) (dv_add (a := (i : Int)) (b := 1) (z := ((i : Int)) + 1) (T rfl rfl) C (wr_i64 (by omega) (by omega))) ?_
       refine lw_v (.int .i64 (((i : Int)) + 1)) (dv_assign (T rfl rfl)) ?_
       refine lw_nil ?_
       exact ih9 (xs.length - ((i + 1))) _ _ (by rw [hd20]; omega) ⟨(i + 1), (L ++ [(((xs.getD i 0) + 4294967296) - cy) % 4294967296]), Ad61, c62, 1, rfl, f12, f13, f14, rfl, rfl, (vi (by omega)), E66, hO64, (by omega), (by simp [hl]), (okW.snoc hok (by omega) (by omega)), (by omega), (sub_app hl hv (by omega))⟩
     · refine rk_cf (T rfl (congrArg Value.bool (decide_eq_false hb54))) ?_
       refine rk_skip ?_
       refine rk_reg ?_
       refine lw_v (.slice Ad (L.length) cp) (dv_move (T rfl f15)) ?_
       refine lw_v (.int .u64 (xs.getD i 0)) (dv_move (T rfl rfl)) ?_
       refine lw_v (.int .u64 cy) (dv_move (T rfl rfl)) ?_
       refine lw_v (.int .u64 ((xs.getD i 0) - cy)) (dv_sub (a := xs.getD i 0) (b := cy) (z := (xs.getD i 0) - cy) (T rfl rfl) (T rfl rfl) (wn_u64 (by omega) (by omega))) ?_
       refine lw_v (.int .u32 (((xs.getD i 0) - cy) % 4294967296)) (dv_conv (a := (xs.getD i 0) - cy) (z := ((xs.getD i 0) - cy) % 4294967296) ui86 ui61 (T rfl rfl) (wr_u32 _)) ?_
       refine lw_e (oe_buildSlice (pv := [(0, .int .u32 (((xs.getD i 0) - cy) % 4294967296))]) (init := [.int .u32 0]) (l := [.int .u32 (((xs.getD i 0) - cy) % 4294967296)]) us56 sz61 rfl rfl zc61 (by kernel_rfl) ⟨rfl, (T rfl rfl), trivial⟩ rfl ?_)
       intro b67 w68 n69
       have N70 : w.heap.size ≤ b67 := n69.eq ▸ E18.size
       have E71 := below_ext E18 E18.size n69.ext
       have h72 := (h19.ext n69.ext)
       refine lw_e (oe_appendW (base := b1) (L := L) (M := [((xs.getD i 0) - cy) % 4294967296]) (m := 1) us56 in61 (T rfl rfl) (T rfl rfl) h72 (Wd.ownW (xs := [((xs.getD i 0) - cy) % 4294967296]) n69.blk) rfl (by first | omega | (simp; done) | (simp; omega)) (by first | omega | (simp; done) | (simp; omega)) ?_)
       intro Ad73 c74 w75 hO76 x77
       have E78 := below_bl E71 N5 x77
       refine lw_v (.slice Ad73 ((L ++ [((xs.getD i 0) - cy) % 4294967296]).length) c74) (dv_assign (T rfl rfl)) ?_
       refine lw_nil ?_
       refine rk_inBlock ?_
       refine rk_reg ?_
       refine lw_v (.int .i64 ((i : Int))) (dv_move (T rfl f17)) ?_
       refine lw_v (.int .i64 (((i : Int)) + 1)) (dv_add (a := (i : Int)) (b := 1) (z := ((i : Int)) + 1) (T rfl rfl) C (wr_i64 (by omega) (by omega))) ?_
       refine lw_v (.int .i64 (((i : Int)) + 1)) (dv_assign (T rfl rfl)) ?_
       refine lw_nil ?_
       exact ih9 (xs.length - ((i + 1))) _ _ (by rw [hd20]; omega) ⟨(i + 1), (L ++ [((xs.getD i 0) - cy) % 4294967296]), Ad73, c74, 0, rfl, f12, f13, f14, rfl, rfl, (vi (by omega)), E78, hO76, (by omega), (by simp [hl]), (okW.snoc hok (by omega) (by omega)), (by omega), (sub_app hl hv (by omega))⟩
 · refine rk_cf (T rfl (congrArg Value.bool (decide_eq_false hb21))) ?_
   refine rk_exit rfl ?_
   refine rk_seq ?_
   refine rk_reg ?_
   refine lw_v (.slice Ad (L.length) cp) (dv_move (T rfl f15)) ?_
   refine lw_v (.slice Ad (L.length) cp) (dv_assign (T rfl rfl)) ?_
   refine lw_nil ?_
   refine rk_ret Tryd.func61 (v := .slice Ad (L.length) cp) (res1 Tryd.results61 (rv_tmp rfl rfl)) ⟨_, rfl, ?_⟩
   exact ⟨_, _, _, rfl, E18, ⟨L, rfl, h19.cap, h19.wd, hok, (sub_app_fin (by decide) hl (by omega) (by omega) hok hcy hle hv).symm⟩, by omega, fun q o hq => Nat.le_trans N5 (Ow.ge h19 hq)⟩
theorem l1SubAbs_ws {w : World} {A D : Option Addr} {l c l' d : Nat} {x y : Int} (h : Ws 32 61 .u32 w A l c x) (h' : Ws 32 61 .u32 w D l' d y) (hl : l ≤ 500000) (hl' : l' ≤ 500000) (hyx : l' ≤ l) (hle : y ≤ x) : Ct Tryd.prog 61 [.slice A l c, .slice D l' d] w fun v w1 =>
 ∃ A' n c', v = .slice A' n c' ∧ Ext w w1 ∧ Ws 32 61 .u32 w1 A' n c' (x - y) ∧ n = l ∧ ∀ g o, A' = some ⟨g, o, none⟩ → w.heap.size ≤ g := by
 obtain ⟨xs, rfl, hc, hw, ho, hv⟩ := h
 obtain ⟨ys, rfl, hc', hw', ho', hv'⟩ := h'
 subst hv; subst hv'
 exact l1SubAbs_ok hw hw' hc hc' ho ho' hl hl' hyx hle
end Go.Proofs.YtmbpomcbdopgnaaDoor.W
set_option linter.unusedVariables false
set_option linter.unusedSimpArgs false
namespace Go.Proofs.YtmbpomcbdopgnaaDoor.W
open Go Go.RowKit Go.Proofs.YtmbpomcbdopgnaaDoor.Fw
attribute [local irreducible] RunK LW AW DV OE Ct
theorem agt4 : aggB Tryd.prog 4 = some false := by kernel_rfl
theorem agt56 : aggB Tryd.prog 56 = some false := by kernel_rfl
theorem co51 : callOk Tryd.prog 51 = true := by kernel_rfl
theorem co59 : callOk Tryd.prog 59 = true := by kernel_rfl
theorem co60 : callOk Tryd.prog 60 = true := by kernel_rfl
theorem co61 : callOk Tryd.prog 61 = true := by kernel_rfl
theorem fo58_0 : fieldOffB Tryd.prog 58 0 = some 0 := by kernel_rfl
theorem fo58_1 : fieldOffB Tryd.prog 58 1 = some 1 := by kernel_rfl
theorem mo : Tryd.prog.follows .mixedOrders = true := by kernel_rfl
theorem ub4 : Tryd.prog.underlying 4 = some .bool := by kernel_rfl
set_option maxHeartbeats 1000000 in
theorem l1CmpAbs_ok {w : World} {A D : Option Addr} {c d : Nat} {xs ys : List Int} (hx : Wd w 61 .u32 A xs) (hy : Wd w 61 .u32 D ys) (ox : okW (2 ^ 32) xs) (oy : okW (2 ^ 32) ys) (cx : canon xs) (cy : canon ys) (lx : xs.length ≤ 1000000) (ly : ys.length ≤ 1000000) : Ct Tryd.prog 60 [.slice A (xs.length) c, .slice D (ys.length) d] w fun v w1 => ∃ r : Int, v = .int .i64 r ∧ Ext w w1 ∧ cmpR r (valB (2 ^ 32) xs) (valB (2 ^ 32) ys) := by
 refine ct_run (n := 41) Tryd.func60 rfl Tryd.ntmps60 rfl ?_
 have E0 : Below w.heap.size w w := Below.refl _ _
 refine rk_seq ?_
 refine rk_reg ?_
 refine lw_v (.int .i64 0) (dv_assign C) ?_
 refine lw_nil ?_
 refine rk_seq ?_
 refine rk_seq ?_
 refine rk_reg ?_
 refine lw_v (.slice A (xs.length) c) (dv_move (T rfl rfl)) ?_
 refine lw_v (.int .i64 ((xs.length : Int))) (dv_len (ad := A) (l := xs.length) (c := c) us56 (T rfl rfl)) ?_
 refine lw_v (.slice D (ys.length) d) (dv_move (T rfl rfl)) ?_
 refine lw_v (.int .i64 ((ys.length : Int))) (dv_len (ad := D) (l := ys.length) (c := d) us56 (T rfl rfl)) ?_
 refine lw_v (.bool (decide (((xs.length : Int)) ≠ ((ys.length : Int))))) (dv_neq (a := (xs.length : Int)) (b := (ys.length : Int)) (T rfl rfl) (T rfl rfl)) ?_
 refine lw_nil ?_
 by_cases hb1 : ((xs.length : Int)) ≠ ((ys.length : Int))
 · refine rk_ct (T rfl (congrArg Value.bool (decide_eq_true hb1))) ?_
   refine rk_seq ?_
   refine rk_seq ?_
   refine rk_reg ?_
   refine lw_v (.slice A (xs.length) c) (dv_move (T rfl rfl)) ?_
   refine lw_v (.int .i64 ((xs.length : Int))) (dv_len (ad := A) (l := xs.length) (c := c) us56 (T rfl rfl)) ?_
   refine lw_v (.slice D (ys.length) d) (dv_move (T rfl rfl)) ?_
   refine lw_v (.int .i64 ((ys.length : Int))) (dv_len (ad := D) (l := ys.length) (c := d) us56 (T rfl rfl)) ?_
   refine lw_v (.bool (decide (((xs.length : Int)) < ((ys.length : Int))))) (dv_lss (a := (xs.length : Int)) (b := (ys.length : Int)) (T rfl rfl) (T rfl rfl)) ?_
   refine lw_nil ?_
   by_cases hb2 : ((xs.length : Int)) < ((ys.length : Int))
   · refine rk_ct (T rfl (congrArg Value.bool (decide_eq_true hb2))) ?_
     refine rk_seq ?_
     refine rk_reg ?_
     refine lw_v (.int .i64 (-1)) (dv_assign C) ?_
     refine lw_nil ?_
     refine rk_ret Tryd.func60 (v := .int .i64 (-1)) (res1 Tryd.results60 (rv_tmp rfl rfl)) ⟨_, rfl, ?_⟩
     exact ⟨_, rfl, E0, cmp_len32 ox oy cx cy (by omega) (by omega)⟩
   · refine rk_cf (T rfl (congrArg Value.bool (decide_eq_false hb2))) ?_
     refine rk_skip ?_
     refine rk_seq ?_
     refine rk_reg ?_
     refine lw_v (.int .i64 1) (dv_assign C) ?_
     refine lw_nil ?_
     refine rk_ret Tryd.func60 (v := .int .i64 1) (res1 Tryd.results60 (rv_tmp rfl rfl)) ⟨_, rfl, ?_⟩
     exact ⟨_, rfl, E0, cmp_len32' ox oy cx cy (by omega)⟩
 · refine rk_cf (T rfl (congrArg Value.bool (decide_eq_false hb1))) ?_
   refine rk_skip ?_
   refine rk_seq ?_
   refine rk_seq ?_
   refine rk_reg ?_
   refine lw_v (.slice A (xs.length) c) (dv_move (T rfl rfl)) ?_
   refine lw_v (.int .i64 ((xs.length : Int))) (dv_len (ad := A) (l := xs.length) (c := c) us56 (T rfl rfl)) ?_
   refine lw_v (.int .i64 (((xs.length : Int)) - 1)) (dv_sub (a := (xs.length : Int)) (b := 1) (z := ((xs.length : Int)) - 1) (T rfl rfl) C (wr_i64 (by omega) (by omega))) ?_
   refine lw_v (.int .i64 (((xs.length : Int)) - 1)) (dv_assign (T rfl rfl)) ?_
   refine lw_nil ?_
   refine rk_block ?_
   refine rk_loop (fun dm_ fr wl => ∃ (n : Nat), dm_ = n ∧ fr 0 = .slice A (xs.length) c ∧ fr 1 = .slice D (ys.length) d ∧ fr 5 = .int .i64 ((n : Int) - 1) ∧ Below w.heap.size w wl ∧ (n ≤ xs.length) ∧ (xs.drop n = ys.drop n)) (xs.length) ⟨xs.length, rfl, rfl, rfl, (vi (by omega)), E0, (Nat.le_refl _), (by rw [List.drop_of_length_le (Nat.le_refl _), List.drop_of_length_le (by omega)])⟩ ?_
   intro d7 fr6 w3 hI4 ih5
   obtain ⟨n, hd12, f8, f9, f10, E11, hn, hd⟩ := hI4
   refine rk_seq ?_
   refine rk_seq ?_
   refine rk_reg ?_
   refine lw_v (.int .i64 ((n : Int) - 1)) (dv_move (T rfl f10)) ?_
   refine lw_v (.bool (decide (0 ≤ ((n : Int) - 1)))) (dv_geq (a := (n : Int) - 1) (b := 0) (T rfl rfl) C) ?_
   refine lw_nil ?_
   by_cases hb13 : 0 ≤ ((n : Int) - 1)
   · refine rk_ct (T rfl (congrArg Value.bool (decide_eq_true hb13))) ?_
     refine rk_skip ?_
     refine rk_seq ?_
     refine rk_block ?_
     refine rk_seq ?_
     refine rk_seq ?_
     have h14 := (hx.ext E11)
     have h15 := (hy.ext E11)
     refine rk_any (fun w => Wd w 61 .u32 A xs ∧ Wd w 61 .u32 D ys) [] mo ?_
     intro w16 d17
     have E18 := below_ext E11 E11.size d17.ext
     have h19 := (h14.ext d17.ext)
     have h20 := (h15.ext d17.ext)
     refine aw_pure 0 (.slice A (xs.length) c) rfl (by kernel_rfl) .none ⟨h19, h20⟩ (fun _ => dv_move (T rfl f8)) ?_
     refine aw_pure 1 (.int .i64 ((n : Int) - 1)) rfl (by kernel_rfl) .none ⟨h19, h20⟩ (fun _ => dv_move (T rfl f10)) ?_
     obtain ⟨g21, o22, rfl⟩ := Wd.at h19 (by omega)
     refine aw_pure 2 (.pointer (some ⟨g21, o22 + (n - 1), none⟩)) rfl (by kernel_rfl) .none ⟨h19, h20⟩ (fun _ => dv_indexW (g := g21) (o := o22) (l := xs.length) (c := c) (i := (n - 1)) (j := (n : Int) - 1) us56 sz61 (T rfl rfl) (T rfl rfl) (by omega) (by omega)) ?_
     refine aw_load 3 (.int .u32 (xs.getD ((n - 1)) 0)) rfl (by kernel_rfl) .none ⟨h19, h20⟩ (fun _ s => dv_load agt61 (T rfl rfl) (Wd.cell s.1 (by omega))) ?_
     refine aw_pure 4 (.slice D (ys.length) d) rfl (by kernel_rfl) .none ⟨h19, h20⟩ (fun _ => dv_move (T rfl f9)) ?_
     refine aw_pure 5 (.int .i64 ((n : Int) - 1)) rfl (by kernel_rfl) .none ⟨h19, h20⟩ (fun _ => dv_move (T rfl f10)) ?_
     obtain ⟨g23, o24, rfl⟩ := Wd.at h20 (by omega)
     refine aw_pure 6 (.pointer (some ⟨g23, o24 + (n - 1), none⟩)) rfl (by kernel_rfl) .none ⟨h19, h20⟩ (fun _ => dv_indexW (g := g23) (o := o24) (l := ys.length) (c := d) (i := (n - 1)) (j := (n : Int) - 1) us56 sz61 (T rfl rfl) (T rfl rfl) (by omega) (by omega)) ?_
     refine aw_load 7 (.int .u32 (ys.getD ((n - 1)) 0)) rfl (by kernel_rfl) .none ⟨h19, h20⟩ (fun _ s => dv_load agt61 (T rfl rfl) (Wd.cell s.2 (by omega))) ?_
     refine aw_pure 8 (.bool (decide ((xs.getD ((n - 1)) 0) < (ys.getD ((n - 1)) 0)))) rfl (by kernel_rfl) .none ⟨h19, h20⟩ (fun _ => dv_lss (a := xs.getD ((n - 1)) 0) (b := ys.getD ((n - 1)) 0) (T rfl rfl) (T rfl rfl)) ?_
     refine aw_done (by kernel_rfl) ?_
     by_cases hb25 : (xs.getD ((n - 1)) 0) < (ys.getD ((n - 1)) 0)
     · refine rk_ct (T rfl (congrArg Value.bool (decide_eq_true hb25))) ?_
       refine rk_seq ?_
       refine rk_reg ?_
       refine lw_v (.int .i64 (-1)) (dv_assign C) ?_
       refine lw_nil ?_
       refine rk_ret Tryd.func60 (v := .int .i64 (-1)) (res1 Tryd.results60 (rv_tmp rfl rfl)) ⟨_, rfl, ?_⟩
       exact ⟨_, rfl, E18, cmp_lt (cmp_word (by decide) ox oy n (by omega) (by omega) (by omega) hd (by assumption))⟩
     · refine rk_cf (T rfl (congrArg Value.bool (decide_eq_false hb25))) ?_
       refine rk_skip ?_
       refine rk_seq ?_
       refine rk_any (fun w => Wd w 61 .u32 (some ⟨g21, o22, none⟩) xs ∧ Wd w 61 .u32 (some ⟨g23, o24, none⟩) ys) [] mo ?_
       intro w26 d27
       have E28 := below_ext E18 E18.size d27.ext
       have h29 := (h19.ext d27.ext)
       have h30 := (h20.ext d27.ext)
       refine aw_pure 0 (.slice (some ⟨g21, o22, none⟩) (xs.length) c) rfl (by kernel_rfl) .none ⟨h29, h30⟩ (fun _ => dv_move (T rfl f8)) ?_
       refine aw_pure 1 (.int .i64 ((n : Int) - 1)) rfl (by kernel_rfl) .none ⟨h29, h30⟩ (fun _ => dv_move (T rfl f10)) ?_
       refine aw_pure 2 (.pointer (some ⟨g21, o22 + (n - 1), none⟩)) rfl (by kernel_rfl) .none ⟨h29, h30⟩ (fun _ => dv_indexW (g := g21) (o := o22) (l := xs.length) (c := c) (i := (n - 1)) (j := (n : Int) - 1) us56 sz61 (T rfl rfl) (T rfl rfl) (by omega) (by omega)) ?_
       refine aw_load 3 (.int .u32 (xs.getD ((n - 1)) 0)) rfl (by kernel_rfl) .none ⟨h29, h30⟩ (fun _ s => dv_load agt61 (T rfl rfl) (Wd.cell s.1 (by omega))) ?_
       refine aw_pure 4 (.slice (some ⟨g23, o24, none⟩) (ys.length) d) rfl (by kernel_rfl) .none ⟨h29, h30⟩ (fun _ => dv_move (T rfl f9)) ?_
       refine aw_pure 5 (.int .i64 ((n : Int) - 1)) rfl (by kernel_rfl) .none ⟨h29, h30⟩ (fun _ => dv_move (T rfl f10)) ?_
       refine aw_pure 6 (.pointer (some ⟨g23, o24 + (n - 1), none⟩)) rfl (by kernel_rfl) .none ⟨h29, h30⟩ (fun _ => dv_indexW (g := g23) (o := o24) (l := ys.length) (c := d) (i := (n - 1)) (j := (n : Int) - 1) us56 sz61 (T rfl rfl) (T rfl rfl) (by omega) (by omega)) ?_
       refine aw_load 7 (.int .u32 (ys.getD ((n - 1)) 0)) rfl (by kernel_rfl) .none ⟨h29, h30⟩ (fun _ s => dv_load agt61 (T rfl rfl) (Wd.cell s.2 (by omega))) ?_
       refine aw_pure 8 (.bool (decide ((ys.getD ((n - 1)) 0) < (xs.getD ((n - 1)) 0)))) rfl (by kernel_rfl) .none ⟨h29, h30⟩ (fun _ => dv_gtr (a := xs.getD ((n - 1)) 0) (b := ys.getD ((n - 1)) 0) (T rfl rfl) (T rfl rfl)) ?_
       refine aw_done (by kernel_rfl) ?_
       by_cases hb31 : (ys.getD ((n - 1)) 0) < (xs.getD ((n - 1)) 0)
       · refine rk_ct (T rfl (congrArg Value.bool (decide_eq_true hb31))) ?_
         refine rk_seq ?_
         refine rk_reg ?_
         refine lw_v (.int .i64 1) (dv_assign C) ?_
         refine lw_nil ?_
         refine rk_ret Tryd.func60 (v := .int .i64 1) (res1 Tryd.results60 (rv_tmp rfl rfl)) ⟨_, rfl, ?_⟩
         exact ⟨_, rfl, E28, cmp_gt (cmp_word (by decide) oy ox n (by omega) (by omega) (by omega) hd.symm (by assumption))⟩
       · refine rk_cf (T rfl (congrArg Value.bool (decide_eq_false hb31))) ?_
         refine rk_skip ?_
         refine rk_inBlock ?_
         refine rk_reg ?_
         refine lw_v (.int .i64 ((n : Int) - 1)) (dv_move (T rfl f10)) ?_
         refine lw_v (.int .i64 (((n : Int) - 1) - 1)) (dv_sub (a := (n : Int) - 1) (b := 1) (z := ((n : Int) - 1) - 1) (T rfl rfl) C (wr_i64 (by omega) (by omega))) ?_
         refine lw_v (.int .i64 (((n : Int) - 1) - 1)) (dv_assign (T rfl rfl)) ?_
         refine lw_nil ?_
         exact ih5 (((n - 1))) _ _ (by rw [hd12]; omega) ⟨(n - 1), rfl, f8, f9, (vi (by omega)), E28, (by omega), (drop_step xs ys n (by omega) (by omega) (by omega) hd (by omega))⟩
   · refine rk_cf (T rfl (congrArg Value.bool (decide_eq_false hb13))) ?_
     refine rk_exit rfl ?_
     refine rk_seq ?_
     refine rk_reg ?_
     refine lw_v (.int .i64 0) (dv_assign C) ?_
     refine lw_nil ?_
     refine rk_ret Tryd.func60 (v := .int .i64 0) (res1 Tryd.results60 (rv_tmp rfl rfl)) ⟨_, rfl, ?_⟩
     exact ⟨_, rfl, E11, (cmp_same (by have hn0 : n = 0 := (by omega); subst hn0; simpa using hd))⟩
theorem l1CmpAbs_wc {w : World} {A D : Option Addr} {l c l' d : Nat} {x y : Int} (h : Wc 32 61 .u32 w A l c x) (h' : Wc 32 61 .u32 w D l' d y) (hl : l ≤ 1000000) (hl' : l' ≤ 1000000) : Ct Tryd.prog 60 [.slice A l c, .slice D l' d] w fun v w1 =>
 ∃ r : Int, v = .int .i64 r ∧ Ext w w1 ∧ cmpR r x y := by
 obtain ⟨xs, rfl, hc, hw, ho, hk, rfl⟩ := h
 obtain ⟨ys, rfl, hc', hw', ho', hk', rfl⟩ := h'
 exact l1CmpAbs_ok hw hw' ho ho' hk hk' hl hl'
set_option maxHeartbeats 1000000 in
theorem l1AddAbs_ok {w : World} {A D : Option Addr} {c d : Nat} {xs ys : List Int} (hx : Wd w 61 .u32 A xs) (hy : Wd w 61 .u32 D ys) (hc : xs.length ≤ c) (hd : ys.length ≤ d) (ox : okW (2 ^ 32) xs) (oy : okW (2 ^ 32) ys) (lx : xs.length ≤ 500000) (ly : ys.length ≤ 500000) : Ct Tryd.prog 59 [.slice A (xs.length) c, .slice D (ys.length) d] w fun v w1 => ∃ A' n c', v = .slice A' n c' ∧ Ext w w1 ∧ Ws 32 61 .u32 w1 A' n c' (valB (2 ^ 32) xs + valB (2 ^ 32) ys) ∧ n ≤ xs.length + ys.length + 1 := by
 refine ct_run (n := 58) Tryd.func59 rfl Tryd.ntmps59 rfl ?_
 have E0 : Below w.heap.size w w := Below.refl _ _
 refine rk_seq ?_
 refine rk_reg ?_
 refine lw_v (.slice none 0 0) (dv_assign C) ?_
 refine lw_nil ?_
 refine rk_seq ?_
 refine rk_seq ?_
 refine rk_reg ?_
 refine lw_v (.slice A (xs.length) c) (dv_move (T rfl rfl)) ?_
 refine lw_v (.int .i64 ((xs.length : Int))) (dv_len (ad := A) (l := xs.length) (c := c) us56 (T rfl rfl)) ?_
 refine lw_v (.slice D (ys.length) d) (dv_move (T rfl rfl)) ?_
 refine lw_v (.int .i64 ((ys.length : Int))) (dv_len (ad := D) (l := ys.length) (c := d) us56 (T rfl rfl)) ?_
 refine lw_v (.bool (decide (((xs.length : Int)) < ((ys.length : Int))))) (dv_lss (a := (xs.length : Int)) (b := (ys.length : Int)) (T rfl rfl) (T rfl rfl)) ?_
 refine lw_nil ?_
 by_cases hb1 : ((xs.length : Int)) < ((ys.length : Int))
 · refine rk_ct (T rfl (congrArg Value.bool (decide_eq_true hb1))) ?_
   refine rk_reg ?_
   refine lw_v (.slice D (ys.length) d) (dv_move (T rfl rfl)) ?_
   refine lw_v (.slice A (xs.length) c) (dv_move (T rfl rfl)) ?_
   refine lw_v (.slice D (ys.length) d) (dv_assign (T rfl rfl)) ?_
   refine lw_v (.slice A (xs.length) c) (dv_assign (T rfl rfl)) ?_
   refine lw_nil ?_
   refine rk_seq ?_
   refine rk_reg ?_
   refine lw_v (.slice D (ys.length) d) (dv_move (T rfl rfl)) ?_
   refine lw_v (.int .i64 ((ys.length : Int))) (dv_len (ad := D) (l := ys.length) (c := d) us56 (T rfl rfl)) ?_
   refine lw_v (.int .i64 (((ys.length : Int)) + 1)) (dv_add (a := (ys.length : Int)) (b := 1) (z := ((ys.length : Int)) + 1) (T rfl rfl) C (wr_i64 (by omega) (by omega))) ?_
   refine lw_e (oe_makeCapW (c := ((ys.length) + 1)) (j := ((ys.length : Int)) + 1) us56 in61 C (T rfl rfl) (by omega) (by first | omega | (simp; done) | (simp; omega)) (by first | omega | (simp; done) | (simp; omega)) ?_)
   intro b2 w3 n4 hO5
   have N6 : w.heap.size ≤ b2 := n4.eq ▸ E0.size
   have E7 := below_ext E0 E0.size n4.ext
   refine lw_v (.slice (some ⟨b2, 0, none⟩) (([] : List Int).length) (((ys.length) + 1))) (dv_assign (T rfl rfl)) ?_
   refine lw_nil ?_
   refine rk_seq ?_
   refine rk_reg ?_
   refine lw_v (.int .u64 0) (dv_assign C) ?_
   refine lw_nil ?_
   refine rk_seq ?_
   refine rk_seq ?_
   refine rk_reg ?_
   refine lw_v (.int .i64 0) (dv_assign C) ?_
   refine lw_nil ?_
   refine rk_block ?_
   refine rk_loop (fun dm_ fr wl => ∃ (i : Nat) (L : List Int) (Ad : Option Addr) (cp : Nat) (cy : Int), dm_ = ys.length - i ∧ fr 0 = .slice D (ys.length) d ∧ fr 1 = .slice A (xs.length) c ∧ fr 4 = .slice none 0 0 ∧ fr 5 = .slice Ad (L.length) cp ∧ fr 6 = .int .u64 cy ∧ fr 7 = .int .i64 ((i : Int)) ∧ Below w.heap.size w wl ∧ Ow wl b2 61 .u32 Ad cp L ∧ (i ≤ ys.length) ∧ (L.length = i) ∧ (okW (2 ^ 32) L) ∧ (0 ≤ cy ∧ cy ≤ 1) ∧ (valB (2 ^ 32) L + cy * (2 ^ 32) ^ i = valB (2 ^ 32) (ys.take i) + valB (2 ^ 32) (xs.take i))) (ys.length - 0) ⟨0, ([] : List Int), (some ⟨b2, 0, none⟩), (((ys.length) + 1)), 0, rfl, rfl, rfl, rfl, rfl, rfl, (vi (by omega)), E7, hO5, (Nat.zero_le _), rfl, okW.nil, (by decide), (by simp [valB])⟩ ?_
   intro d12 fr11 w8 hI9 ih10
   obtain ⟨i, L, Ad, cp, cy, hd21, f13, f14, f15, f16, f17, f18, E19, h20, hi, hl, hok, hcy, hv⟩ := hI9
   have bxs := okW.getD ox (by decide) i
   have gxs := getD_ge xs i
   have bys := okW.getD oy (by decide) i
   have gys := getD_ge ys i
   refine rk_seq ?_
   refine rk_seq ?_
   refine rk_reg ?_
   refine lw_v (.int .i64 ((i : Int))) (dv_move (T rfl f18)) ?_
   refine lw_v (.slice D (ys.length) d) (dv_move (T rfl f13)) ?_
   refine lw_v (.int .i64 ((ys.length : Int))) (dv_len (ad := D) (l := ys.length) (c := d) us56 (T rfl rfl)) ?_
   refine lw_v (.bool (decide (((i : Int)) < ((ys.length : Int))))) (dv_lss (a := (i : Int)) (b := (ys.length : Int)) (T rfl rfl) (T rfl rfl)) ?_
   refine lw_nil ?_
   by_cases hb22 : ((i : Int)) < ((ys.length : Int))
   · refine rk_ct (T rfl (congrArg Value.bool (decide_eq_true hb22))) ?_
     refine rk_skip ?_
     refine rk_seq ?_
     refine rk_block ?_
     refine rk_seq ?_
     refine rk_reg ?_
     refine lw_v (.int .u64 cy) (dv_move (T rfl f17)) ?_
     refine lw_v (.slice D (ys.length) d) (dv_move (T rfl f13)) ?_
     refine lw_v (.int .i64 ((i : Int))) (dv_move (T rfl f18)) ?_
     have h23 := (hy.ext E19)
     obtain ⟨g24, o25, rfl⟩ := Wd.at h23 (by first | omega | (simp; done) | (simp; omega))
     refine lw_v (.pointer (some ⟨g24, o25 + i, none⟩)) (dv_indexW (g := g24) (o := o25) (l := ys.length) (c := d) (i := i) (j := (i : Int)) us56 sz61 (T rfl rfl) (T rfl rfl) (by omega) (by first | omega | (simp; done) | (simp; omega))) ?_
     refine lw_v (.int .u32 (ys.getD i 0)) (dv_load agt61 (T rfl rfl) (Wd.cell h23 (by first | omega | (simp; done) | (simp; omega)))) ?_
     refine lw_v (.int .u64 (ys.getD i 0)) (dv_conv (a := ys.getD i 0) (z := ys.getD i 0) ui61 ui86 (T rfl rfl) (wn_u64 (by omega) (by omega))) ?_
     refine lw_v (.int .u64 (cy + (ys.getD i 0))) (dv_add (a := cy) (b := ys.getD i 0) (z := cy + (ys.getD i 0)) (T rfl rfl) (T rfl rfl) (wn_u64 (by omega) (by omega))) ?_
     refine lw_v (.int .u64 (cy + (ys.getD i 0))) (dv_assign (T rfl rfl)) ?_
     refine lw_nil ?_
     refine rk_seq ?_
     refine rk_seq ?_
     refine rk_reg ?_
     refine lw_v (.int .i64 ((i : Int))) (dv_move (T rfl f18)) ?_
     refine lw_v (.slice A (xs.length) c) (dv_move (T rfl f14)) ?_
     refine lw_v (.int .i64 ((xs.length : Int))) (dv_len (ad := A) (l := xs.length) (c := c) us56 (T rfl rfl)) ?_
     refine lw_v (.bool (decide (((i : Int)) < ((xs.length : Int))))) (dv_lss (a := (i : Int)) (b := (xs.length : Int)) (T rfl rfl) (T rfl rfl)) ?_
     refine lw_nil ?_
     by_cases hb26 : ((i : Int)) < ((xs.length : Int))
     · refine rk_ct (T rfl (congrArg Value.bool (decide_eq_true hb26))) ?_
       refine rk_reg ?_
       refine lw_v (.int .u64 (cy + (ys.getD i 0))) (dv_move (T rfl rfl)) ?_
       refine lw_v (.slice A (xs.length) c) (dv_move (T rfl f14)) ?_
       refine lw_v (.int .i64 ((i : Int))) (dv_move (T rfl f18)) ?_
       have h27 := (hx.ext E19)
       obtain ⟨g28, o29, rfl⟩ := Wd.at h27 (by first | omega | (simp; done) | (simp; omega))
       refine lw_v (.pointer (some ⟨g28, o29 + i, none⟩)) (dv_indexW (g := g28) (o := o29) (l := xs.length) (c := c) (i := i) (j := (i : Int)) us56 sz61 (T rfl rfl) (T rfl rfl) (by omega) (by first | omega | (simp; done) | (simp; omega))) ?_
       refine lw_v (.int .u32 (xs.getD i 0)) (dv_load agt61 (T rfl rfl) (Wd.cell h27 (by first | omega | (simp; done) | (simp; omega)))) ?_
       refine lw_v (.int .u64 (xs.getD i 0)) (dv_conv (a := xs.getD i 0) (z := xs.getD i 0) ui61 ui86 (T rfl rfl) (wn_u64 (by omega) (by omega))) ?_
       refine lw_v (.int .u64 ((cy + (ys.getD i 0)) + (xs.getD i 0))) (dv_add (a := cy + (ys.getD i 0)) (b := xs.getD i 0) (z := (cy + (ys.getD i 0)) + (xs.getD i 0)) (T rfl rfl) (T rfl rfl) (wn_u64 (by omega) (by omega))) ?_
       refine lw_v (.int .u64 ((cy + (ys.getD i 0)) + (xs.getD i 0))) (dv_assign (T rfl rfl)) ?_
       refine lw_nil ?_
       refine rk_seq ?_
       refine rk_reg ?_
       refine lw_v (.slice Ad (L.length) cp) (dv_move (T rfl f16)) ?_
       refine lw_v (.int .u64 ((cy + (ys.getD i 0)) + (xs.getD i 0))) (dv_move (T rfl rfl)) ?_
       refine lw_v (.int .u32 (((cy + (ys.getD i 0)) + (xs.getD i 0)) % 4294967296)) (dv_conv (a := (cy + (ys.getD i 0)) + (xs.getD i 0)) (z := ((cy + (ys.getD i 0)) + (xs.getD i 0)) % 4294967296) ui86 ui61 (T rfl rfl) (wr_u32 _)) ?_
       refine lw_e (oe_buildSlice (pv := [(0, .int .u32 (((cy + (ys.getD i 0)) + (xs.getD i 0)) % 4294967296))]) (init := [.int .u32 0]) (l := [.int .u32 (((cy + (ys.getD i 0)) + (xs.getD i 0)) % 4294967296)]) us56 sz61 rfl rfl zc61 (by kernel_rfl) ⟨rfl, (T rfl rfl), trivial⟩ rfl ?_)
       intro b30 w31 n32
       have N33 : w.heap.size ≤ b30 := n32.eq ▸ E19.size
       have E34 := below_ext E19 E19.size n32.ext
       have h35 := (h20.ext n32.ext)
       refine lw_e (oe_appendW (base := b2) (L := L) (M := [((cy + (ys.getD i 0)) + (xs.getD i 0)) % 4294967296]) (m := 1) us56 in61 (T rfl rfl) (T rfl rfl) h35 (Wd.ownW (xs := [((cy + (ys.getD i 0)) + (xs.getD i 0)) % 4294967296]) n32.blk) rfl (by first | omega | (simp; done) | (simp; omega)) (by first | omega | (simp; done) | (simp; omega)) ?_)
       intro Ad36 c37 w38 hO39 x40
       have E41 := below_bl E34 N6 x40
       refine lw_v (.slice Ad36 ((L ++ [((cy + (ys.getD i 0)) + (xs.getD i 0)) % 4294967296]).length) c37) (dv_assign (T rfl rfl)) ?_
       refine lw_nil ?_
       refine rk_reg ?_
       refine lw_v (.int .u64 ((cy + (ys.getD i 0)) + (xs.getD i 0))) (dv_move (T rfl rfl)) ?_
       refine lw_v (.int .u64 (((cy + (ys.getD i 0)) + (xs.getD i 0)) / 4294967296)) (dv_shr (a := (cy + (ys.getD i 0)) + (xs.getD i 0)) (b := 32) (z := ((cy + (ys.getD i 0)) + (xs.getD i 0)) / 4294967296) (T rfl rfl) C (by decide) (shr_c (n := 32) (by omega) (by decide))) ?_
       refine lw_v (.int .u64 (((cy + (ys.getD i 0)) + (xs.getD i 0)) / 4294967296)) (dv_assign (T rfl rfl)) ?_
       refine lw_nil ?_
       refine rk_inBlock ?_
       refine rk_reg ?_
       refine lw_v (.int .i64 ((i : Int))) (dv_move (T rfl f18)) ?_
       refine lw_v (.int .i64 (((i : Int)) + 1)) (dv_add (a := (i : Int)) (b := 1) (z := ((i : Int)) + 1) (T rfl rfl) C (wr_i64 (by omega) (by omega))) ?_
       refine lw_v (.int .i64 (((i : Int)) + 1)) (dv_assign (T rfl rfl)) ?_
       refine lw_nil ?_
       exact ih10 (ys.length - ((i + 1))) _ _ (by rw [hd21]; omega) ⟨(i + 1), (L ++ [((cy + (ys.getD i 0)) + (xs.getD i 0)) % 4294967296]), Ad36, c37, (((cy + (ys.getD i 0)) + (xs.getD i 0)) / 4294967296), rfl, f13, f14, f15, rfl, rfl, (vi (by omega)), E41, hO39, (by omega), (by simp [hl]), (okW.snoc hok (by omega) (by omega)), (by omega), (add_app hl hv (by omega))⟩
     · refine rk_cf (T rfl (congrArg Value.bool (decide_eq_false hb26))) ?_
       refine rk_skip ?_
       refine rk_seq ?_
       refine rk_reg ?_
       refine lw_v (.slice Ad (L.length) cp) (dv_move (T rfl f16)) ?_
       refine lw_v (.int .u64 (cy + (ys.getD i 0))) (dv_move (T rfl rfl)) ?_
       refine lw_v (.int .u32 ((cy + (ys.getD i 0)) % 4294967296)) (dv_conv (a := cy + (ys.getD i 0)) (z := (cy + (ys.getD i 0)) % 4294967296) ui86 ui61 (T rfl rfl) (wr_u32 _)) ?_
       refine lw_e (oe_buildSlice (pv := [(0, .int .u32 ((cy + (ys.getD i 0)) % 4294967296))]) (init := [.int .u32 0]) (l := [.int .u32 ((cy + (ys.getD i 0)) % 4294967296)]) us56 sz61 rfl rfl zc61 (by kernel_rfl) ⟨rfl, (T rfl rfl), trivial⟩ rfl ?_)
       intro b42 w43 n44
       have N45 : w.heap.size ≤ b42 := n44.eq ▸ E19.size
       have E46 := below_ext E19 E19.size n44.ext
       have h47 := (h20.ext n44.ext)
       refine lw_e (oe_appendW (base := b2) (L := L) (M := [(cy + (ys.getD i 0)) % 4294967296]) (m := 1) us56 in61 (T rfl rfl) (T rfl rfl) h47 (Wd.ownW (xs := [(cy + (ys.getD i 0)) % 4294967296]) n44.blk) rfl (by first | omega | (simp; done) | (simp; omega)) (by first | omega | (simp; done) | (simp; omega)) ?_)
       intro Ad48 c49 w50 hO51 x52
       have E53 := below_bl E46 N6 x52
       refine lw_v (.slice Ad48 ((L ++ [(cy + (ys.getD i 0)) % 4294967296]).length) c49) (dv_assign (T rfl rfl)) ?_
       refine lw_nil ?_
       refine rk_reg ?_
       refine lw_v (.int .u64 (cy + (ys.getD i 0))) (dv_move (T rfl rfl)) ?_
       refine lw_v (.int .u64 ((cy + (ys.getD i 0)) / 4294967296)) (dv_shr (a := cy + (ys.getD i 0)) (b := 32) (z := (cy + (ys.getD i 0)) / 4294967296) (T rfl rfl) C (by decide) (shr_c (n := 32) (by omega) (by decide))) ?_
       refine lw_v (.int .u64 ((cy + (ys.getD i 0)) / 4294967296)) (dv_assign (T rfl rfl)) ?_
       refine lw_nil ?_
       refine rk_inBlock ?_
       refine rk_reg ?_
       refine lw_v (.int .i64 ((i : Int))) (dv_move (T rfl f18)) ?_
       refine lw_v (.int .i64 (((i : Int)) + 1)) (dv_add (a := (i : Int)) (b := 1) (z := ((i : Int)) + 1) (T rfl rfl) C (wr_i64 (by omega) (by omega))) ?_
       refine lw_v (.int .i64 (((i : Int)) + 1)) (dv_assign (T rfl rfl)) ?_
       refine lw_nil ?_
       exact ih10 (ys.length - ((i + 1))) _ _ (by rw [hd21]; omega) ⟨(i + 1), (L ++ [(cy + (ys.getD i 0)) % 4294967296]), Ad48, c49, ((cy + (ys.getD i 0)) / 4294967296), rfl, f13, f14, f15, rfl, rfl, (vi (by omega)), E53, hO51, (by omega), (by simp [hl]), (okW.snoc hok (by omega) (by omega)), (by omega), (add_app hl hv (by omega))⟩
   · refine rk_cf (T rfl (congrArg Value.bool (decide_eq_false hb22))) ?_
     refine rk_exit rfl ?_
     refine rk_seq ?_
     refine rk_seq ?_
     refine rk_reg ?_
     refine lw_v (.int .u64 cy) (dv_move (T rfl f17)) ?_
     refine lw_v (.bool (decide (0 < cy))) (dv_gtr (a := cy) (b := 0) (T rfl rfl) C) ?_
     refine lw_nil ?_
     by_cases hb54 : 0 < cy
     · refine rk_ct (T rfl (congrArg Value.bool (decide_eq_true hb54))) ?_
       refine rk_reg ?_
       refine lw_v (.slice Ad (L.length) cp) (dv_move (T rfl f16)) ?_
       refine lw_v (.int .u64 cy) (dv_move (T rfl f17)) ?_
       refine lw_v (.int .u32 ((cy) % 4294967296)) (dv_conv (a := cy) (z := (cy) % 4294967296) ui86 ui61 (T rfl rfl) (wr_u32 _)) ?_
       refine lw_e (oe_buildSlice (pv := [(0, .int .u32 ((cy) % 4294967296))]) (init := [.int .u32 0]) (l := [.int .u32 ((cy) % 4294967296)]) us56 sz61 rfl rfl zc61 (by kernel_rfl) ⟨rfl, (T rfl rfl), trivial⟩ rfl ?_)
       intro b55 w56 n57
       have N58 : w.heap.size ≤ b55 := n57.eq ▸ E19.size
       have E59 := below_ext E19 E19.size n57.ext
       have h60 := (h20.ext n57.ext)
       refine lw_e (oe_appendW (base := b2) (L := L) (M := [(cy) % 4294967296]) (m := 1) us56 in61 (T rfl rfl) (T rfl rfl) h60 (Wd.ownW (xs := [(cy) % 4294967296]) n57.blk) rfl (by first | omega | (simp; done) | (simp; omega)) (by first | omega | (simp; done) | (simp; omega)) ?_)
       intro Ad61 c62 w63 hO64 x65
       have E66 := below_bl E59 N6 x65
       refine lw_v (.slice Ad61 ((L ++ [(cy) % 4294967296]).length) c62) (dv_assign (T rfl rfl)) ?_
       refine lw_nil ?_
       refine rk_seq ?_
       refine rk_reg ?_
       refine lw_v (.slice Ad61 ((L ++ [(cy) % 4294967296]).length) c62) (dv_move (T rfl rfl)) ?_
       refine lw_v (.slice Ad61 ((L ++ [(cy) % 4294967296]).length) c62) (dv_assign (T rfl rfl)) ?_
       refine lw_nil ?_
       refine rk_ret Tryd.func59 (v := .slice Ad61 ((L ++ [(cy) % 4294967296]).length) c62) (res1 Tryd.results59 (rv_tmp rfl rfl)) ⟨_, rfl, ?_⟩
       exact ⟨_, _, _, rfl, E66, ⟨(L ++ [(cy) % 4294967296]), rfl, hO64.cap, hO64.wd, okW.snoc hok (by omega) (by omega), (by rw [show cy % 4294967296 = cy by omega]; first | exact (add_app_fin hl (by omega) (by omega) hv).1.symm | exact (Int.add_comm _ _).trans (add_app_fin hl (by omega) (by omega) hv).1.symm)⟩, by first | omega | (simp; omega)⟩
     · refine rk_cf (T rfl (congrArg Value.bool (decide_eq_false hb54))) ?_
       refine rk_skip ?_
       refine rk_seq ?_
       refine rk_reg ?_
       refine lw_v (.slice Ad (L.length) cp) (dv_move (T rfl f16)) ?_
       refine lw_v (.slice Ad (L.length) cp) (dv_assign (T rfl rfl)) ?_
       refine lw_nil ?_
       refine rk_ret Tryd.func59 (v := .slice Ad (L.length) cp) (res1 Tryd.results59 (rv_tmp rfl rfl)) ⟨_, rfl, ?_⟩
       exact ⟨_, _, _, rfl, E19, ⟨L, rfl, h20.cap, h20.wd, hok, (by first | exact ((add_app_fin hl (by omega) (by omega) hv).2 (by omega)).symm | exact (Int.add_comm _ _).trans ((add_app_fin hl (by omega) (by omega) hv).2 (by omega)).symm)⟩, by first | omega | (simp; omega)⟩
 · refine rk_cf (T rfl (congrArg Value.bool (decide_eq_false hb1))) ?_
   refine rk_skip ?_
   refine rk_seq ?_
   refine rk_reg ?_
   refine lw_v (.slice A (xs.length) c) (dv_move (T rfl rfl)) ?_
   refine lw_v (.int .i64 ((xs.length : Int))) (dv_len (ad := A) (l := xs.length) (c := c) us56 (T rfl rfl)) ?_
   refine lw_v (.int .i64 (((xs.length : Int)) + 1)) (dv_add (a := (xs.length : Int)) (b := 1) (z := ((xs.length : Int)) + 1) (T rfl rfl) C (wr_i64 (by omega) (by omega))) ?_
   refine lw_e (oe_makeCapW (c := ((xs.length) + 1)) (j := ((xs.length : Int)) + 1) us56 in61 C (T rfl rfl) (by omega) (by first | omega | (simp; done) | (simp; omega)) (by first | omega | (simp; done) | (simp; omega)) ?_)
   intro b67 w68 n69 hO70
   have N71 : w.heap.size ≤ b67 := n69.eq ▸ E0.size
   have E72 := below_ext E0 E0.size n69.ext
   refine lw_v (.slice (some ⟨b67, 0, none⟩) (([] : List Int).length) (((xs.length) + 1))) (dv_assign (T rfl rfl)) ?_
   refine lw_nil ?_
   refine rk_seq ?_
   refine rk_reg ?_
   refine lw_v (.int .u64 0) (dv_assign C) ?_
   refine lw_nil ?_
   refine rk_seq ?_
   refine rk_seq ?_
   refine rk_reg ?_
   refine lw_v (.int .i64 0) (dv_assign C) ?_
   refine lw_nil ?_
   refine rk_block ?_
   refine rk_loop (fun dm_ fr wl => ∃ (i : Nat) (L : List Int) (Ad : Option Addr) (cp : Nat) (cy : Int), dm_ = xs.length - i ∧ fr 0 = .slice A (xs.length) c ∧ fr 1 = .slice D (ys.length) d ∧ fr 4 = .slice none 0 0 ∧ fr 5 = .slice Ad (L.length) cp ∧ fr 6 = .int .u64 cy ∧ fr 7 = .int .i64 ((i : Int)) ∧ Below w.heap.size w wl ∧ Ow wl b67 61 .u32 Ad cp L ∧ (i ≤ xs.length) ∧ (L.length = i) ∧ (okW (2 ^ 32) L) ∧ (0 ≤ cy ∧ cy ≤ 1) ∧ (valB (2 ^ 32) L + cy * (2 ^ 32) ^ i = valB (2 ^ 32) (xs.take i) + valB (2 ^ 32) (ys.take i))) (xs.length - 0) ⟨0, ([] : List Int), (some ⟨b67, 0, none⟩), (((xs.length) + 1)), 0, rfl, rfl, rfl, rfl, rfl, rfl, (vi (by omega)), E72, hO70, (Nat.zero_le _), rfl, okW.nil, (by decide), (by simp [valB])⟩ ?_
   intro d77 fr76 w73 hI74 ih75
   obtain ⟨i, L, Ad, cp, cy, hd86, f78, f79, f80, f81, f82, f83, E84, h85, hi, hl, hok, hcy, hv⟩ := hI74
   have bxs := okW.getD ox (by decide) i
   have gxs := getD_ge xs i
   have bys := okW.getD oy (by decide) i
   have gys := getD_ge ys i
   refine rk_seq ?_
   refine rk_seq ?_
   refine rk_reg ?_
   refine lw_v (.int .i64 ((i : Int))) (dv_move (T rfl f83)) ?_
   refine lw_v (.slice A (xs.length) c) (dv_move (T rfl f78)) ?_
   refine lw_v (.int .i64 ((xs.length : Int))) (dv_len (ad := A) (l := xs.length) (c := c) us56 (T rfl rfl)) ?_
   refine lw_v (.bool (decide (((i : Int)) < ((xs.length : Int))))) (dv_lss (a := (i : Int)) (b := (xs.length : Int)) (T rfl rfl) (T rfl rfl)) ?_
   refine lw_nil ?_
   by_cases hb87 : ((i : Int)) < ((xs.length : Int))
   · refine rk_ct (T rfl (congrArg Value.bool (decide_eq_true hb87))) ?_
     refine rk_skip ?_
     refine rk_seq ?_
     refine rk_block ?_
     refine rk_seq ?_
     refine rk_reg ?_
     refine lw_v (.int .u64 cy) (dv_move (T rfl f82)) ?_
     refine lw_v (.slice A (xs.length) c) (dv_move (T rfl f78)) ?_
     refine lw_v (.int .i64 ((i : Int))) (dv_move (T rfl f83)) ?_
     have h88 := (hx.ext E84)
     obtain ⟨g89, o90, rfl⟩ := Wd.at h88 (by first | omega | (simp; done) | (simp; omega))
     refine lw_v (.pointer (some ⟨g89, o90 + i, none⟩)) (dv_indexW (g := g89) (o := o90) (l := xs.length) (c := c) (i := i) (j := (i : Int)) us56 sz61 (T rfl rfl) (T rfl rfl) (by omega) (by first | omega | (simp; done) | (simp; omega))) ?_
     refine lw_v (.int .u32 (xs.getD i 0)) (dv_load agt61 (T rfl rfl) (Wd.cell h88 (by first | omega | (simp; done) | (simp; omega)))) ?_
     refine lw_v (.int .u64 (xs.getD i 0)) (dv_conv (a := xs.getD i 0) (z := xs.getD i 0) ui61 ui86 (T rfl rfl) (wn_u64 (by omega) (by omega))) ?_
     refine lw_v (.int .u64 (cy + (xs.getD i 0))) (dv_add (a := cy) (b := xs.getD i 0) (z := cy + (xs.getD i 0)) (T rfl rfl) (T rfl rfl) (wn_u64 (by omega) (by omega))) ?_
     refine lw_v (.int .u64 (cy + (xs.getD i 0))) (dv_assign (T rfl rfl)) ?_
     refine lw_nil ?_
     refine rk_seq ?_
     refine rk_seq ?_
     refine rk_reg ?_
     refine lw_v (.int .i64 ((i : Int))) (dv_move (T rfl f83)) ?_
     refine lw_v (.slice D (ys.length) d) (dv_move (T rfl f79)) ?_
     refine lw_v (.int .i64 ((ys.length : Int))) (dv_len (ad := D) (l := ys.length) (c := d) us56 (T rfl rfl)) ?_
     refine lw_v (.bool (decide (((i : Int)) < ((ys.length : Int))))) (dv_lss (a := (i : Int)) (b := (ys.length : Int)) (T rfl rfl) (T rfl rfl)) ?_
     refine lw_nil ?_
     by_cases hb91 : ((i : Int)) < ((ys.length : Int))
     · refine rk_ct (T rfl (congrArg Value.bool (decide_eq_true hb91))) ?_
       refine rk_reg ?_
       refine lw_v (.int .u64 (cy + (xs.getD i 0))) (dv_move (T rfl rfl)) ?_
       refine lw_v (.slice D (ys.length) d) (dv_move (T rfl f79)) ?_
       refine lw_v (.int .i64 ((i : Int))) (dv_move (T rfl f83)) ?_
       have h92 := (hy.ext E84)
       obtain ⟨g93, o94, rfl⟩ := Wd.at h92 (by first | omega | (simp; done) | (simp; omega))
       refine lw_v (.pointer (some ⟨g93, o94 + i, none⟩)) (dv_indexW (g := g93) (o := o94) (l := ys.length) (c := d) (i := i) (j := (i : Int)) us56 sz61 (T rfl rfl) (T rfl rfl) (by omega) (by first | omega | (simp; done) | (simp; omega))) ?_
       refine lw_v (.int .u32 (ys.getD i 0)) (dv_load agt61 (T rfl rfl) (Wd.cell h92 (by first | omega | (simp; done) | (simp; omega)))) ?_
       refine lw_v (.int .u64 (ys.getD i 0)) (dv_conv (a := ys.getD i 0) (z := ys.getD i 0) ui61 ui86 (T rfl rfl) (wn_u64 (by omega) (by omega))) ?_
       refine lw_v (.int .u64 ((cy + (xs.getD i 0)) + (ys.getD i 0))) (dv_add (a := cy + (xs.getD i 0)) (b := ys.getD i 0) (z := (cy + (xs.getD i 0)) + (ys.getD i 0)) (T rfl rfl) (T rfl rfl) (wn_u64 (by omega) (by omega))) ?_
       refine lw_v (.int .u64 ((cy + (xs.getD i 0)) + (ys.getD i 0))) (dv_assign (T rfl rfl)) ?_
       refine lw_nil ?_
       refine rk_seq ?_
       refine rk_reg ?_
       refine lw_v (.slice Ad (L.length) cp) (dv_move (T rfl f81)) ?_
       refine lw_v (.int .u64 ((cy + (xs.getD i 0)) + (ys.getD i 0))) (dv_move (T rfl rfl)) ?_
       refine lw_v (.int .u32 (((cy + (xs.getD i 0)) + (ys.getD i 0)) % 4294967296)) (dv_conv (a := (cy + (xs.getD i 0)) + (ys.getD i 0)) (z := ((cy + (xs.getD i 0)) + (ys.getD i 0)) % 4294967296) ui86 ui61 (T rfl rfl) (wr_u32 _)) ?_
       refine lw_e (oe_buildSlice (pv := [(0, .int .u32 (((cy + (xs.getD i 0)) + (ys.getD i 0)) % 4294967296))]) (init := [.int .u32 0]) (l := [.int .u32 (((cy + (xs.getD i 0)) + (ys.getD i 0)) % 4294967296)]) us56 sz61 rfl rfl zc61 (by kernel_rfl) ⟨rfl, (T rfl rfl), trivial⟩ rfl ?_)
       intro b95 w96 n97
       have N98 : w.heap.size ≤ b95 := n97.eq ▸ E84.size
       have E99 := below_ext E84 E84.size n97.ext
       have h100 := (h85.ext n97.ext)
       refine lw_e (oe_appendW (base := b67) (L := L) (M := [((cy + (xs.getD i 0)) + (ys.getD i 0)) % 4294967296]) (m := 1) us56 in61 (T rfl rfl) (T rfl rfl) h100 (Wd.ownW (xs := [((cy + (xs.getD i 0)) + (ys.getD i 0)) % 4294967296]) n97.blk) rfl (by first | omega | (simp; done) | (simp; omega)) (by first | omega | (simp; done) | (simp; omega)) ?_)
       intro Ad101 c102 w103 hO104 x105
       have E106 := below_bl E99 N71 x105
       refine lw_v (.slice Ad101 ((L ++ [((cy + (xs.getD i 0)) + (ys.getD i 0)) % 4294967296]).length) c102) (dv_assign (T rfl rfl)) ?_
       refine lw_nil ?_
       refine rk_reg ?_
       refine lw_v (.int .u64 ((cy + (xs.getD i 0)) + (ys.getD i 0))) (dv_move (T rfl rfl)) ?_
       refine lw_v (.int .u64 (((cy + (xs.getD i 0)) + (ys.getD i 0)) / 4294967296)) (dv_shr (a := (cy + (xs.getD i 0)) + (ys.getD i 0)) (b := 32) (z := ((cy + (xs.getD i 0)) + (ys.getD i 0)) / 4294967296) (T rfl rfl) C (by decide) (shr_c (n := 32) (by omega) (by decide))) ?_
       refine lw_v (.int .u64 (((cy + (xs.getD i 0)) + (ys.getD i 0)) / 4294967296)) (dv_assign (T rfl rfl)) ?_
       refine lw_nil ?_
       refine rk_inBlock ?_
       refine rk_reg ?_
       refine lw_v (.int .i64 ((i : Int))) (dv_move (T rfl f83)) ?_
       refine lw_v (.int .i64 (((i : Int)) + 1)) (dv_add (a := (i : Int)) (b := 1) (z := ((i : Int)) + 1) (T rfl rfl) C (wr_i64 (by omega) (by omega))) ?_
       refine lw_v (.int .i64 (((i : Int)) + 1)) (dv_assign (T rfl rfl)) ?_
       refine lw_nil ?_
       exact ih75 (xs.length - ((i + 1))) _ _ (by rw [hd86]; omega) ⟨(i + 1), (L ++ [((cy + (xs.getD i 0)) + (ys.getD i 0)) % 4294967296]), Ad101, c102, (((cy + (xs.getD i 0)) + (ys.getD i 0)) / 4294967296), rfl, f78, f79, f80, rfl, rfl, (vi (by omega)), E106, hO104, (by omega), (by simp [hl]), (okW.snoc hok (by omega) (by omega)), (by omega), (add_app hl hv (by omega))⟩
     · refine rk_cf (T rfl (congrArg Value.bool (decide_eq_false hb91))) ?_
       refine rk_skip ?_
       refine rk_seq ?_
       refine rk_reg ?_
       refine lw_v (.slice Ad (L.length) cp) (dv_move (T rfl f81)) ?_
       refine lw_v (.int .u64 (cy + (xs.getD i 0))) (dv_move (T rfl rfl)) ?_
       refine lw_v (.int .u32 ((cy + (xs.getD i 0)) % 4294967296)) (dv_conv (a := cy + (xs.getD i 0)) (z := (cy + (xs.getD i 0)) % 4294967296) ui86 ui61 (T rfl rfl) (wr_u32 _)) ?_
       refine lw_e (oe_buildSlice (pv := [(0, .int .u32 ((cy + (xs.getD i 0)) % 4294967296))]) (init := [.int .u32 0]) (l := [.int .u32 ((cy + (xs.getD i 0)) % 4294967296)]) us56 sz61 rfl rfl zc61 (by kernel_rfl) ⟨rfl, (T rfl rfl), trivial⟩ rfl ?_)
       intro b107 w108 n109
       have N110 : w.heap.size ≤ b107 := n109.eq ▸ E84.size
       have E111 := below_ext E84 E84.size n109.ext
       have h112 := (h85.ext n109.ext)
       refine lw_e (oe_appendW (base := b67) (L := L) (M := [(cy + (xs.getD i 0)) % 4294967296]) (m := 1) us56 in61 (T rfl rfl) (T rfl rfl) h112 (Wd.ownW (xs := [(cy + (xs.getD i 0)) % 4294967296]) n109.blk) rfl (by first | omega | (simp; done) | (simp; omega)) (by first | omega | (simp; done) | (simp; omega)) ?_)
       intro Ad113 c114 w115 hO116 x117
       have E118 := below_bl E111 N71 x117
       refine lw_v (.slice Ad113 ((L ++ [(cy + (xs.getD i 0)) % 4294967296]).length) c114) (dv_assign (T rfl rfl)) ?_
       refine lw_nil ?_
       refine rk_reg ?_
       refine lw_v (.int .u64 (cy + (xs.getD i 0))) (dv_move (T rfl rfl)) ?_
       refine lw_v (.int .u64 ((cy + (xs.getD i 0)) / 4294967296)) (dv_shr (a := cy + (xs.getD i 0)) (b := 32) (z := (cy + (xs.getD i 0)) / 4294967296) (T rfl rfl) C (by decide) (shr_c (n := 32) (by omega) (by decide))) ?_
       refine lw_v (.int .u64 ((cy + (xs.getD i 0)) / 4294967296)) (dv_assign (T rfl rfl)) ?_
       refine lw_nil ?_
       refine rk_inBlock ?_
       refine rk_reg ?_
       refine lw_v (.int .i64 ((i : Int))) (dv_move (T rfl f83)) ?_
       refine lw_v (.int .i64 (((i : Int)) + 1)) (dv_add (a := (i : Int)) (b := 1) (z := ((i : Int)) + 1) (T rfl rfl) C (wr_i64 (by omega) (by omega))) ?_
       refine lw_v (.int .i64 (((i : Int)) + 1)) (dv_assign (T rfl rfl)) ?_
       refine lw_nil ?_
       exact ih75 (xs.length - ((i + 1))) _ _ (by rw [hd86]; omega) ⟨(i + 1), (L ++ [(cy + (xs.getD i 0)) % 4294967296]), Ad113, c114, ((cy + (xs.getD i 0)) / 4294967296), rfl, f78, f79, f80, rfl, rfl, (vi (by omega)), E118, hO116, (by omega), (by simp [hl]), (okW.snoc hok (by omega) (by omega)), (by omega), (add_app hl hv (by omega))⟩
   · refine rk_cf (T rfl (congrArg Value.bool (decide_eq_false hb87))) ?_
     refine rk_exit rfl ?_
     refine rk_seq ?_
     refine rk_seq ?_
     refine rk_reg ?_
     refine lw_v (.int .u64 cy) (dv_move (T rfl f82)) ?_
     refine lw_v (.bool (decide (0 < cy))) (dv_gtr (a := cy) (b := 0) (T rfl rfl) C) ?_
     refine lw_nil ?_
     by_cases hb119 : 0 < cy
     · refine rk_ct (T rfl (congrArg Value.bool (decide_eq_true hb119))) ?_
       refine rk_reg ?_
       refine lw_v (.slice Ad (L.length) cp) (dv_move (T rfl f81)) ?_
       refine lw_v (.int .u64 cy) (dv_move (T rfl f82)) ?_
       refine lw_v (.int .u32 ((cy) % 4294967296)) (dv_conv (a := cy) (z := (cy) % 4294967296) ui86 ui61 (T rfl rfl) (wr_u32 _)) ?_
       refine lw_e (oe_buildSlice (pv := [(0, .int .u32 ((cy) % 4294967296))]) (init := [.int .u32 0]) (l := [.int .u32 ((cy) % 4294967296)]) us56 sz61 rfl rfl zc61 (by kernel_rfl) ⟨rfl, (T rfl rfl), trivial⟩ rfl ?_)
       intro b120 w121 n122
       have N123 : w.heap.size ≤ b120 := n122.eq ▸ E84.size
       have E124 := below_ext E84 E84.size n122.ext
       have h125 := (h85.ext n122.ext)
       refine lw_e (oe_appendW (base := b67) (L := L) (M := [(cy) % 4294967296]) (m := 1) us56 in61 (T rfl rfl) (T rfl rfl) h125 (Wd.ownW (xs := [(cy) % 4294967296]) n122.blk) rfl (by first | omega | (simp; done) | (simp; omega)) (by first | omega | (simp; done) | (simp; omega)) ?_)
       intro Ad126 c127 w128 hO129 x130
       have E131 := below_bl E124 N71 x130
       refine lw_v (.slice Ad126 ((L ++ [(cy) % 4294967296]).length) c127) (dv_assign (T rfl rfl)) ?_
       refine lw_nil ?_
       refine rk_seq ?_
       refine rk_reg ?_
       refine lw_v (.slice Ad126 ((L ++ [(cy) % 4294967296]).length) c127) (dv_move (T rfl rfl)) ?_
       refine lw_v (.slice Ad126 ((L ++ [(cy) % 4294967296]).length) c127) (dv_assign (T rfl rfl)) ?_
       refine lw_nil ?_
       refine rk_ret Tryd.func59 (v := .slice Ad126 ((L ++ [(cy) % 4294967296]).length) c127) (res1 Tryd.results59 (rv_tmp rfl rfl)) ⟨_, rfl, ?_⟩
       exact ⟨_, _, _, rfl, E131, ⟨(L ++ [(cy) % 4294967296]), rfl, hO129.cap, hO129.wd, okW.snoc hok (by omega) (by omega), (by rw [show cy % 4294967296 = cy by omega]; first | exact (add_app_fin hl (by omega) (by omega) hv).1.symm | exact (Int.add_comm _ _).trans (add_app_fin hl (by omega) (by omega) hv).1.symm)⟩, by first | omega | (simp; omega)⟩
     · refine rk_cf (T rfl (congrArg Value.bool (decide_eq_false hb119))) ?_
       refine rk_skip ?_
       refine rk_seq ?_
       refine rk_reg ?_
       refine lw_v (.slice Ad (L.length) cp) (dv_move (T rfl f81)) ?_
       refine lw_v (.slice Ad (L.length) cp) (dv_assign (T rfl rfl)) ?_
       refine lw_nil ?_
       refine rk_ret Tryd.func59 (v := .slice Ad (L.length) cp) (res1 Tryd.results59 (rv_tmp rfl rfl)) ⟨_, rfl, ?_⟩
       exact ⟨_, _, _, rfl, E84, ⟨L, rfl, h85.cap, h85.wd, hok, (by first | exact ((add_app_fin hl (by omega) (by omega) hv).2 (by omega)).symm | exact (Int.add_comm _ _).trans ((add_app_fin hl (by omega) (by omega) hv).2 (by omega)).symm)⟩, by first | omega | (simp; omega)⟩
theorem l1AddAbs_ws {w : World} {A D : Option Addr} {l c l' d : Nat} {x y : Int} (h : Ws 32 61 .u32 w A l c x) (h' : Ws 32 61 .u32 w D l' d y) (hl : l ≤ 500000) (hl' : l' ≤ 500000) : Ct Tryd.prog 59 [.slice A l c, .slice D l' d] w fun v w1 =>
 ∃ A' n c', v = .slice A' n c' ∧ Ext w w1 ∧ Ws 32 61 .u32 w1 A' n c' (x + y) ∧ n ≤ l + l' + 1 := by
 obtain ⟨xs, rfl, hc, hw, ho, hv⟩ := h
 obtain ⟨ys, rfl, hc', hw', ho', hv'⟩ := h'
 subst hv; subst hv'
 exact l1AddAbs_ok hw hw' hc hc' ho ho' hl hl'
set_option maxHeartbeats 1000000 in
theorem l1Neg_ok {w : World} {na : Bool} {Aa : Option Addr} {la ca : Nat} {x : Int} {sx : Nat} (ha : Num 32 61 .u32 w na Aa la ca x sx) : Ct Tryd.prog 44 [.agg #[.bool na, .slice Aa la ca]] w fun v w1 => ∃ nr A' n c', v = .agg #[.bool nr, .slice A' n c'] ∧ Ext w w1 ∧ Num 32 61 .u32 w1 nr A' n c' (-x) (sx) := by
 refine ct_run (n := 14) Tryd.func44 rfl Tryd.ntmps44 rfl ?_
 have E0 : Below w.heap.size w w := Below.refl _ _
 refine rk_seq ?_
 refine rk_reg ?_
 refine lw_e (oe_box (v := .agg #[.bool na, .slice Aa la ca]) (cs := #[.bool na, .slice Aa la ca]) (T rfl rfl) rfl ?_)
 intro b1 w2 n3
 have N4 : w.heap.size ≤ b1 := n3.eq ▸ E0.size
 have E5 := below_ext E0 E0.size n3.ext
 refine lw_e (oe_alloc ze58 ?_)
 intro b6 w7 n8
 have N9 : w.heap.size ≤ b6 := n8.eq ▸ E5.size
 have : b1 < b6 := n8.eq ▸ lt_of_blk n3.blk
 have E10 := below_ext E5 E5.size n8.ext
 refine lw_nil ?_
 refine rk_seq ?_
 refine rk_seq ?_
 refine rk_reg ?_
 refine lw_v (.pointer (some ⟨b1, 1, none⟩)) (dv_fieldAddr (a := ⟨b1, 0, none⟩) (a' := ⟨b1, 1, none⟩) fo58_1 (T rfl rfl) rfl) ?_
 have H11 := (n8.ext.blk n3.blk)
 refine lw_v (.slice Aa la ca) (dv_load1 (b := b1) (o := 1) agt56 (T rfl rfl) H11 rfl) ?_
 refine lw_v (.int .i64 ((la : Int))) (dv_len (ad := Aa) (l := la) (c := ca) us56 (T rfl rfl)) ?_
 refine lw_v (.bool (decide (((la : Int)) = 0))) (dv_eql (a := (la : Int)) (b := 0) (T rfl rfl) C) ?_
 refine lw_nil ?_
 by_cases hb12 : ((la : Int)) = 0
 · refine rk_ct (T rfl (congrArg Value.bool (decide_eq_true hb12))) ?_
   refine rk_seq ?_
   refine rk_reg ?_
   refine lw_v (.agg #[.bool na, .slice Aa la ca]) (dv_loads (l := [.bool na, .slice Aa la ca]) agt58 sz58 (T rfl rfl) H11 rfl) ?_
   refine lw_e (oe_store (v := .agg #[.bool na, .slice Aa la ca]) (vs := [.bool na, .slice Aa la ca]) (l := [.bool na, .slice Aa la ca]) (T rfl rfl) (T rfl rfl) sz58 rfl rfl rfl n8.blk rfl ?_)
   intro w13 s14 H15
   have E16 := below_st E10 N9 s14
   refine lw_nil ?_
   refine rk_ret Tryd.func44 (v := .agg #[.bool na, .slice Aa la ca]) (res1 Tryd.results44 (rv_cells (l := [.bool na, .slice Aa la ca]) agt58 sz58 rfl rfl H15 rfl)) ⟨_, rfl, ?_⟩
   have h17 := ha.ext E16
   exact ⟨_, _, _, _, rfl, E16, h17.to (by have := ha.pos_iff; omega) (Nat.le_refl _)⟩
 · refine rk_cf (T rfl (congrArg Value.bool (decide_eq_false hb12))) ?_
   refine rk_skip ?_
   refine rk_seq ?_
   refine rk_reg ?_
   refine lw_v (.pointer (some ⟨b1, 0, none⟩)) (dv_fieldAddr (a := ⟨b1, 0, none⟩) (a' := ⟨b1, 0, none⟩) fo58_0 (T rfl rfl) rfl) ?_
   refine lw_v (.bool na) (dv_load1 (b := b1) (o := 0) agt4 (T rfl rfl) H11 rfl) ?_
   refine lw_v (.bool (!na)) (dv_not (T rfl rfl)) ?_
   refine lw_v (.pointer (some ⟨b1, 1, none⟩)) (dv_fieldAddr (a := ⟨b1, 0, none⟩) (a' := ⟨b1, 1, none⟩) fo58_1 (T rfl rfl) rfl) ?_
   refine lw_v (.slice Aa la ca) (dv_load1 (b := b1) (o := 1) agt56 (T rfl rfl) H11 rfl) ?_
   refine lw_v (.agg #[.bool (!na), .slice Aa la ca]) (dv_build (pv := [(0, .bool (!na)), (1, .slice Aa la ca)]) (l := [.bool (!na), .slice Aa la ca]) zc58 pl58 ⟨rfl, (T rfl rfl), ⟨rfl, (T rfl rfl), trivial⟩⟩ rfl) ?_
   refine lw_e (oe_store (v := .agg #[.bool (!na), .slice Aa la ca]) (vs := [.bool (!na), .slice Aa la ca]) (l := [.bool (!na), .slice Aa la ca]) (T rfl rfl) (T rfl rfl) sz58 rfl rfl rfl n8.blk rfl ?_)
   intro w18 s19 H20
   have E21 := below_st E10 N9 s19
   refine lw_nil ?_
   refine rk_ret Tryd.func44 (v := .agg #[.bool (!na), .slice Aa la ca]) (res1 Tryd.results44 (rv_cells (l := [.bool (!na), .slice Aa la ca]) agt58 sz58 rfl rfl H20 rfl)) ⟨_, rfl, ?_⟩
   have h22 := ha.ext E21
   exact ⟨_, _, _, _, rfl, E21, Wc.num h22.wc (fun _ => by have := ha.pos_iff; omega) (sg_not ha.neg_iff).symm ha.ltI⟩
set_option maxHeartbeats 1000000 in
theorem l1Add_ok {w : World} {na : Bool} {Aa : Option Addr} {la ca : Nat} {x : Int} {sx : Nat} (ha : Num 32 61 .u32 w na Aa la ca x sx) {nb : Bool} {Ab : Option Addr} {lb cb : Nat} {y : Int} {sy : Nat} (hb : Num 32 61 .u32 w nb Ab lb cb y sy) (hs : sx ≤ 400000) (hs2 : sy ≤ 400000) : Ct Tryd.prog 42 [.agg #[.bool na, .slice Aa la ca], .agg #[.bool nb, .slice Ab lb cb]] w fun v w1 => ∃ nr A' n c', v = .agg #[.bool nr, .slice A' n c'] ∧ Ext w w1 ∧ Num 32 61 .u32 w1 nr A' n c' (x + y) (max sx sy + 1) := by
 refine ct_run (n := 40) Tryd.func42 rfl Tryd.ntmps42 rfl ?_
 have E0 : Below w.heap.size w w := Below.refl _ _
 have lha := Num.len (by decide) ha
 have lhb := Num.len (by decide) hb
 refine rk_seq ?_
 refine rk_reg ?_
 refine lw_e (oe_box (v := .agg #[.bool na, .slice Aa la ca]) (cs := #[.bool na, .slice Aa la ca]) (T rfl rfl) rfl ?_)
 intro b1 w2 n3
 have N4 : w.heap.size ≤ b1 := n3.eq ▸ E0.size
 have E5 := below_ext E0 E0.size n3.ext
 refine lw_e (oe_box (v := .agg #[.bool nb, .slice Ab lb cb]) (cs := #[.bool nb, .slice Ab lb cb]) (T rfl rfl) rfl ?_)
 intro b6 w7 n8
 have N9 : w.heap.size ≤ b6 := n8.eq ▸ E5.size
 have : b1 < b6 := n8.eq ▸ lt_of_blk n3.blk
 have E10 := below_ext E5 E5.size n8.ext
 refine lw_e (oe_alloc ze58 ?_)
 intro b11 w12 n13
 have N14 : w.heap.size ≤ b11 := n13.eq ▸ E10.size
 have : b6 < b11 := n13.eq ▸ lt_of_blk n8.blk
 have E15 := below_ext E10 E10.size n13.ext
 refine lw_nil ?_
 refine rk_seq ?_
 refine rk_seq ?_
 refine rk_reg ?_
 refine lw_v (.pointer (some ⟨b1, 0, none⟩)) (dv_fieldAddr (a := ⟨b1, 0, none⟩) (a' := ⟨b1, 0, none⟩) fo58_0 (T rfl rfl) rfl) ?_
 have H16 := (n13.ext.blk (n8.ext.blk n3.blk))
 refine lw_v (.bool na) (dv_load1 (b := b1) (o := 0) agt4 (T rfl rfl) H16 rfl) ?_
 refine lw_v (.pointer (some ⟨b6, 0, none⟩)) (dv_fieldAddr (a := ⟨b6, 0, none⟩) (a' := ⟨b6, 0, none⟩) fo58_0 (T rfl rfl) rfl) ?_
 have H17 := (n13.ext.blk n8.blk)
 refine lw_v (.bool nb) (dv_load1 (b := b6) (o := 0) agt4 (T rfl rfl) H17 rfl) ?_
 refine lw_v (.bool (na == nb)) (dv_eqlb (a := na) (b := nb) ub4 (T rfl rfl) (T rfl rfl)) ?_
 refine lw_nil ?_
 rcases Bool.eq_false_or_eq_true (na == nb) with hb18 | hb18
 · refine rk_ct (T rfl (congrArg Value.bool hb18)) ?_
   refine rk_seq ?_
   refine rk_any (fun w => w.heap[b1]? = some (.cells #[.bool na, .slice Aa la ca] 58) ∧ w.heap[b6]? = some (.cells #[.bool nb, .slice Ab lb cb] 58)) [8] mo ?_
   intro w19 d20
   have E21 := below_ext E15 E15.size d20.ext
   have H22 := (d20.ext.blk H16)
   have H23 := (d20.ext.blk H17)
   refine aw_pure 0 (.pointer (some ⟨b1, 0, none⟩)) rfl (by kernel_rfl) .none ⟨H22, H23⟩ (fun _ => dv_fieldAddr (a := ⟨b1, 0, none⟩) (a' := ⟨b1, 0, none⟩) fo58_0 (T rfl rfl) rfl) ?_
   refine aw_load 1 (.bool na) rfl (by kernel_rfl) .none ⟨H22, H23⟩ (fun _ s => dv_load1 (b := b1) (o := 0) agt4 (T rfl rfl) s.1 rfl) ?_
   refine aw_pure 2 (.pointer (some ⟨b1, 1, none⟩)) rfl (by kernel_rfl) .none ⟨H22, H23⟩ (fun _ => dv_fieldAddr (a := ⟨b1, 0, none⟩) (a' := ⟨b1, 1, none⟩) fo58_1 (T rfl rfl) rfl) ?_
   refine aw_load 3 (.slice Aa la ca) rfl (by kernel_rfl) .none ⟨H22, H23⟩ (fun _ s => dv_load1 (b := b1) (o := 1) agt56 (T rfl rfl) s.1 rfl) ?_
   refine aw_pure 4 (.pointer (some ⟨b6, 1, none⟩)) rfl (by kernel_rfl) .none ⟨H22, H23⟩ (fun _ => dv_fieldAddr (a := ⟨b6, 0, none⟩) (a' := ⟨b6, 1, none⟩) fo58_1 (T rfl rfl) rfl) ?_
   refine aw_load 5 (.slice Ab lb cb) rfl (by kernel_rfl) .none ⟨H22, H23⟩ (fun _ s => dv_load1 (b := b6) (o := 1) agt56 (T rfl rfl) s.2 rfl) ?_
   have h24 := ((((ha.ext n3.ext).ext n8.ext).ext n13.ext).ext d20.ext)
   have h25 := ((((hb.ext n3.ext).ext n8.ext).ext n13.ext).ext d20.ext)
   refine aw_one 6 rfl (by kernel_rfl) .none (oe_callf (vs := [.slice Aa la ca, .slice Ab lb cb]) co59 (ar2 (T rfl rfl) (T rfl rfl)) (l1AddAbs_ws h24.wc.ws h25.wc.ws (by omega) (by omega)) ?_)
   rintro _ w30 ⟨A26, n27, c28, rfl, e31, h29, hnh29⟩
   have E32 := below_ext E21 E21.size e31
   have H33 := (e31.blk H22)
   have H34 := (e31.blk H23)
   refine ⟨.inr ⟨H33, H34⟩, ?_⟩
   refine aw_one 7 rfl (by kernel_rfl) .none (oe_callf (vs := [.bool na, .slice A26 n27 c28]) co51 (ar2 (T rfl rfl) (T rfl rfl)) (l1Trim_num (s := (max sx sy + 1)) (neg := na) h29 (by omega) (sz_add h24.ltI h25.ltI)) ?_)
   rintro _ w40 ⟨nb35, A36, n37, c38, rfl, e41, hn39⟩
   have E42 := below_ext E32 E32.size e41
   have lhn39 := Num.len (by decide) hn39
   have H43 := (e41.blk H33)
   have H44 := (e41.blk H34)
   refine ⟨.inr ⟨H43, H44⟩, ?_⟩
   have H45 := (e41.blk (e31.blk (d20.ext.blk n13.blk)))
   refine aw_one 8 rfl (by kernel_rfl) .none (oe_store (v := .agg #[.bool nb35, .slice A36 n37 c38]) (vs := [.bool nb35, .slice A36 n37 c38]) (l := [.bool nb35, .slice A36 n37 c38]) (T rfl rfl) (T rfl rfl) sz58 rfl rfl rfl H45 rfl ?_)
   intro w46 s47 H48
   have E49 := below_st E42 N14 s47
   refine ⟨.inl rfl, ?_⟩
   refine aw_done (by kernel_rfl) ?_
   refine rk_ret Tryd.func42 (v := .agg #[.bool nb35, .slice A36 n37 c38]) (res1 Tryd.results42 (rv_cells (l := [.bool nb35, .slice A36 n37 c38]) agt58 sz58 rfl rfl H48 rfl)) ⟨_, rfl, ?_⟩
   have h50 := (hn39.st s47 H45 (by decide))
   exact ⟨_, _, _, _, rfl, E49, h50.to (sg_add ha.neg_iff hb.neg_iff (by assumption)) (Nat.le_refl _)⟩
 · refine rk_cf (T rfl (congrArg Value.bool hb18)) ?_
   refine rk_skip ?_
   refine rk_seq ?_
   refine rk_seq ?_
   refine rk_reg ?_
   refine lw_v (.pointer (some ⟨b1, 1, none⟩)) (dv_fieldAddr (a := ⟨b1, 0, none⟩) (a' := ⟨b1, 1, none⟩) fo58_1 (T rfl rfl) rfl) ?_
   refine lw_v (.slice Aa la ca) (dv_load1 (b := b1) (o := 1) agt56 (T rfl rfl) H16 rfl) ?_
   refine lw_v (.pointer (some ⟨b6, 1, none⟩)) (dv_fieldAddr (a := ⟨b6, 0, none⟩) (a' := ⟨b6, 1, none⟩) fo58_1 (T rfl rfl) rfl) ?_
   refine lw_v (.slice Ab lb cb) (dv_load1 (b := b6) (o := 1) agt56 (T rfl rfl) H17 rfl) ?_
   have h51 := (((ha.ext n3.ext).ext n8.ext).ext n13.ext)
   have h52 := (((hb.ext n3.ext).ext n8.ext).ext n13.ext)
   refine lw_e (oe_callf (vs := [.slice Aa la ca, .slice Ab lb cb]) co60 (ar2 (T rfl rfl) (T rfl rfl)) (l1CmpAbs_wc h51.wc h52.wc (by omega) (by omega)) ?_)
   rintro _ w55 ⟨r53, rfl, e56, hr54⟩
   have E57 := below_ext E15 E15.size e56
   have qhr54 := cmpR.ge hr54
   have phr54 := cmpR.eq hr54
   have ohr54 := cmpR.gt hr54
   refine lw_v (.bool (decide (0 ≤ r53))) (dv_geq (a := r53) (b := 0) (T rfl rfl) C) ?_
   refine lw_nil ?_
   by_cases hb58 : 0 ≤ r53
   · refine rk_ct (T rfl (congrArg Value.bool (decide_eq_true hb58))) ?_
     refine rk_seq ?_
     refine rk_any (fun w => w.heap[b1]? = some (.cells #[.bool na, .slice Aa la ca] 58) ∧ w.heap[b6]? = some (.cells #[.bool nb, .slice Ab lb cb] 58)) [8] mo ?_
     intro w59 d60
     have E61 := below_ext E57 E57.size d60.ext
     have H62 := (d60.ext.blk (e56.blk H16))
     have H63 := (d60.ext.blk (e56.blk H17))
     refine aw_pure 0 (.pointer (some ⟨b1, 0, none⟩)) rfl (by kernel_rfl) .none ⟨H62, H63⟩ (fun _ => dv_fieldAddr (a := ⟨b1, 0, none⟩) (a' := ⟨b1, 0, none⟩) fo58_0 (T rfl rfl) rfl) ?_
     refine aw_load 1 (.bool na) rfl (by kernel_rfl) .none ⟨H62, H63⟩ (fun _ s => dv_load1 (b := b1) (o := 0) agt4 (T rfl rfl) s.1 rfl) ?_
     refine aw_pure 2 (.pointer (some ⟨b1, 1, none⟩)) rfl (by kernel_rfl) .none ⟨H62, H63⟩ (fun _ => dv_fieldAddr (a := ⟨b1, 0, none⟩) (a' := ⟨b1, 1, none⟩) fo58_1 (T rfl rfl) rfl) ?_
     refine aw_load 3 (.slice Aa la ca) rfl (by kernel_rfl) .none ⟨H62, H63⟩ (fun _ s => dv_load1 (b := b1) (o := 1) agt56 (T rfl rfl) s.1 rfl) ?_
     refine aw_pure 4 (.pointer (some ⟨b6, 1, none⟩)) rfl (by kernel_rfl) .none ⟨H62, H63⟩ (fun _ => dv_fieldAddr (a := ⟨b6, 0, none⟩) (a' := ⟨b6, 1, none⟩) fo58_1 (T rfl rfl) rfl) ?_
     refine aw_load 5 (.slice Ab lb cb) rfl (by kernel_rfl) .none ⟨H62, H63⟩ (fun _ s => dv_load1 (b := b6) (o := 1) agt56 (T rfl rfl) s.2 rfl) ?_
     have h64 := ((h51.ext e56).ext d60.ext)
     have h65 := ((h52.ext e56).ext d60.ext)
     refine aw_one 6 rfl (by kernel_rfl) .none (oe_callf (vs := [.slice Aa la ca, .slice Ab lb cb]) co61 (ar2 (T rfl rfl) (T rfl rfl)) (l1SubAbs_ws h64.wc.ws h65.wc.ws (by omega) (by omega) (by exact len_le32 h64.wc h65.wc (by omega)) (by omega)) ?_)
     rintro _ w70 ⟨A66, n67, c68, rfl, e71, h69, hnh69⟩
     have E72 := below_ext E61 E61.size e71
     have H73 := (e71.blk H62)
     have H74 := (e71.blk H63)
     refine ⟨.inr ⟨H73, H74⟩, ?_⟩
     refine aw_one 7 rfl (by kernel_rfl) .none (oe_callf (vs := [.bool na, .slice A66 n67 c68]) co51 (ar2 (T rfl rfl) (T rfl rfl)) (l1Trim_num (s := sx) (neg := na) h69 (by omega) (sz_sub h64.ltI (Wc.nonneg h65.wc))) ?_)
     rintro _ w80 ⟨nb75, A76, n77, c78, rfl, e81, hn79⟩
     have E82 := below_ext E72 E72.size e81
     have lhn79 := Num.len (by decide) hn79
     have H83 := (e81.blk H73)
     have H84 := (e81.blk H74)
     refine ⟨.inr ⟨H83, H84⟩, ?_⟩
     have H85 := (e81.blk (e71.blk (d60.ext.blk (e56.blk n13.blk))))
     refine aw_one 8 rfl (by kernel_rfl) .none (oe_store (v := .agg #[.bool nb75, .slice A76 n77 c78]) (vs := [.bool nb75, .slice A76 n77 c78]) (l := [.bool nb75, .slice A76 n77 c78]) (T rfl rfl) (T rfl rfl) sz58 rfl rfl rfl H85 rfl ?_)
     intro w86 s87 H88
     have E89 := below_st E82 N14 s87
     refine ⟨.inl rfl, ?_⟩
     refine aw_done (by kernel_rfl) ?_
     refine rk_ret Tryd.func42 (v := .agg #[.bool nb75, .slice A76 n77 c78]) (res1 Tryd.results42 (rv_cells (l := [.bool nb75, .slice A76 n77 c78]) agt58 sz58 rfl rfl H88 rfl)) ⟨_, rfl, ?_⟩
     have h90 := (hn79.st s87 H85 (by decide))
     exact ⟨_, _, _, _, rfl, E89, h90.to (sg_sub ha.neg_iff hb.neg_iff (by assumption)) (by omega)⟩
   · refine rk_cf (T rfl (congrArg Value.bool (decide_eq_false hb58))) ?_
     refine rk_skip ?_
     refine rk_seq ?_
     refine rk_any (fun w => w.heap[b6]? = some (.cells #[.bool nb, .slice Ab lb cb] 58) ∧ w.heap[b1]? = some (.cells #[.bool na, .slice Aa la ca] 58)) [8] mo ?_
     intro w91 d92
     have E93 := below_ext E57 E57.size d92.ext
     have H94 := (d92.ext.blk (e56.blk H17))
     have H95 := (d92.ext.blk (e56.blk H16))
     refine aw_pure 0 (.pointer (some ⟨b6, 0, none⟩)) rfl (by kernel_rfl) .none ⟨H94, H95⟩ (fun _ => dv_fieldAddr (a := ⟨b6, 0, none⟩) (a' := ⟨b6, 0, none⟩) fo58_0 (T rfl rfl) rfl) ?_
     refine aw_load 1 (.bool nb) rfl (by kernel_rfl) .none ⟨H94, H95⟩ (fun _ s => dv_load1 (b := b6) (o := 0) agt4 (T rfl rfl) s.1 rfl) ?_
     refine aw_pure 2 (.pointer (some ⟨b6, 1, none⟩)) rfl (by kernel_rfl) .none ⟨H94, H95⟩ (fun _ => dv_fieldAddr (a := ⟨b6, 0, none⟩) (a' := ⟨b6, 1, none⟩) fo58_1 (T rfl rfl) rfl) ?_
     refine aw_load 3 (.slice Ab lb cb) rfl (by kernel_rfl) .none ⟨H94, H95⟩ (fun _ s => dv_load1 (b := b6) (o := 1) agt56 (T rfl rfl) s.1 rfl) ?_
     refine aw_pure 4 (.pointer (some ⟨b1, 1, none⟩)) rfl (by kernel_rfl) .none ⟨H94, H95⟩ (fun _ => dv_fieldAddr (a := ⟨b1, 0, none⟩) (a' := ⟨b1, 1, none⟩) fo58_1 (T rfl rfl) rfl) ?_
     refine aw_load 5 (.slice Aa la ca) rfl (by kernel_rfl) .none ⟨H94, H95⟩ (fun _ s => dv_load1 (b := b1) (o := 1) agt56 (T rfl rfl) s.2 rfl) ?_
     have h96 := ((h52.ext e56).ext d92.ext)
     have h97 := ((h51.ext e56).ext d92.ext)
     refine aw_one 6 rfl (by kernel_rfl) .none (oe_callf (vs := [.slice Ab lb cb, .slice Aa la ca]) co61 (ar2 (T rfl rfl) (T rfl rfl)) (l1SubAbs_ws h96.wc.ws h97.wc.ws (by omega) (by omega) (by exact len_le32 h96.wc h97.wc (by omega)) (by omega)) ?_)
     rintro _ w102 ⟨A98, n99, c100, rfl, e103, h101, hnh101⟩
     have E104 := below_ext E93 E93.size e103
     have H105 := (e103.blk H94)
     have H106 := (e103.blk H95)
     refine ⟨.inr ⟨H105, H106⟩, ?_⟩
     refine aw_one 7 rfl (by kernel_rfl) .none (oe_callf (vs := [.bool nb, .slice A98 n99 c100]) co51 (ar2 (T rfl rfl) (T rfl rfl)) (l1Trim_num (s := sy) (neg := nb) h101 (by omega) (sz_sub h96.ltI (Wc.nonneg h97.wc))) ?_)
     rintro _ w112 ⟨nb107, A108, n109, c110, rfl, e113, hn111⟩
     have E114 := below_ext E104 E104.size e113
     have lhn111 := Num.len (by decide) hn111
     have H115 := (e113.blk H105)
     have H116 := (e113.blk H106)
     refine ⟨.inr ⟨H115, H116⟩, ?_⟩
     have H117 := (e113.blk (e103.blk (d92.ext.blk (e56.blk n13.blk))))
     refine aw_one 8 rfl (by kernel_rfl) .none (oe_store (v := .agg #[.bool nb107, .slice A108 n109 c110]) (vs := [.bool nb107, .slice A108 n109 c110]) (l := [.bool nb107, .slice A108 n109 c110]) (T rfl rfl) (T rfl rfl) sz58 rfl rfl rfl H117 rfl ?_)
     intro w118 s119 H120
     have E121 := below_st E114 N14 s119
     refine ⟨.inl rfl, ?_⟩
     refine aw_done (by kernel_rfl) ?_
     refine rk_ret Tryd.func42 (v := .agg #[.bool nb107, .slice A108 n109 c110]) (res1 Tryd.results42 (rv_cells (l := [.bool nb107, .slice A108 n109 c110]) agt58 sz58 rfl rfl H120 rfl)) ⟨_, rfl, ?_⟩
     have h122 := (hn111.st s119 H117 (by decide))
     exact ⟨_, _, _, _, rfl, E121, h122.to (sg_sub' ha.neg_iff hb.neg_iff (by assumption)) (by omega)⟩
end Go.Proofs.YtmbpomcbdopgnaaDoor.W
namespace Go.Proofs
open Go.Shelf
def Tryd.lays156_ren : Go.Shelf.Ren := ⟨fun | 156 => 28 | 165 => 39 | 166 => 40 | 169 => 41 | 240 => 57 | 241 => 58 | 276 => 76 | 277 => 77 | n => n, fun | 31 => 33 | 9 => 9 | 3 => 3 | 4 => 4 | 0 => 0 | 20 => 20 | 72 => 75 | 76 => 77 | 70 => 72 | 37 => 73 | 75 => 64 | 127 => 97 | 164 => 116 | 5 => 5 | 80 => 79 | n => n, fun | n => n⟩
theorem Tryd.lays156 : Go.Proofs.Lays.n156 Tryd.prog Tryd.lays156_ren := {
 mixed := by kernel_rfl
 f156 := Tryd.func28.trans (congrArg some (by kernel_rfl))
 f165 := Tryd.func39.trans (congrArg some (by kernel_rfl))
 f166 := Tryd.func40.trans (congrArg some (by kernel_rfl))
 f169 := Tryd.func41.trans (congrArg some (by kernel_rfl))
 f240 := Tryd.func57.trans (congrArg some (by kernel_rfl))
 f241 := Tryd.func58.trans (congrArg some (by kernel_rfl))
 f276 := Tryd.func76.trans (congrArg some (by kernel_rfl))
 f277 := Tryd.func77.trans (congrArg some (by kernel_rfl))
 t0 := Tryd.underlying0
 a0 := Tryd.isAgg0
 z0 := Tryd.sizeOf0
 v0 := Tryd.zeroValue0
 t3 := Tryd.underlying3
 a3 := Tryd.isAgg3
 z3 := Tryd.sizeOf3
 v3 := Tryd.zeroValue3
 t4 := Tryd.underlying4
 a4 := Tryd.isAgg4
 z4 := Tryd.sizeOf4
 v4 := Tryd.zeroValue4
 t9 := Tryd.underlying9
 a9 := Tryd.isAgg9
 z9 := Tryd.sizeOf9
 v9 := Tryd.zeroValue9
 t20 := Tryd.underlying20
 a20 := Tryd.isAgg20
 z20 := Tryd.sizeOf20
 v20 := Tryd.zeroValue20
 t31 := Tryd.underlying33
 a31 := Tryd.isAgg33
 z31 := Tryd.sizeOf33
 v31 := Tryd.zeroValue33
 t37 := Tryd.underlying73
 a37 := Tryd.isAgg73
 z37 := Tryd.sizeOf73
 v37 := Tryd.zeroValue73
 t70 := Tryd.underlying72
 a70 := Tryd.isAgg72
 z70 := Tryd.sizeOf72
 v70 := Tryd.zeroValue72
 t72 := Tryd.underlying75
 a72 := Tryd.isAgg75
 z72 := Tryd.sizeOf75
 v72 := Tryd.zeroValue75
 t75 := Tryd.underlying64
 a75 := Tryd.isAgg64
 z75 := Tryd.sizeOf64
 v75 := Tryd.zeroValue64
 t76 := Tryd.underlying77
 a76 := Tryd.isAgg77
 z76 := Tryd.sizeOf77
 v76 := Tryd.zeroValue77
 t127 := Tryd.underlying97
 a127 := Tryd.isAgg97
 z127 := Tryd.sizeOf97
 v127 := Tryd.zeroValue97
 t164 := Tryd.underlying116
 a164 := Tryd.isAgg116
 z164 := Tryd.sizeOf116
 v164 := Tryd.zeroValue116 }
theorem Tryd.Builder_Extra_156 : Builder.Extra Tryd.prog Tryd.lays156_ren := {
 sizeBuilder := by kernel_rfl
 liesBuilder := by kernel_rfl
 t5 := Tryd.underlying5
 a5 := Tryd.isAgg5
 z5 := Tryd.sizeOf5
 v5 := Tryd.zeroValue5
 infoByte := by kernel_rfl
 cellsByte := by kernel_rfl
 sizeByte := by kernel_rfl
 neB5 := by decide }
open Go.RowKit in
theorem Tryd.strings_Join_none (a : Option Addr) (c : Nat) (sep : ByteArray) (w : World) :
 Calls Tryd.prog 28 #[.slice a 0 c, .string sep] w fun e w' => e = .returned (.string ⟨#[]⟩) ∧ w' = w := Any.strings_Join_none Tryd.lays156 Tryd.Builder_Extra_156 a c sep w
open Go.RowKit in
theorem Tryd.strings_Join (bk o c : Nat) (xs : List ByteArray) (sep : ByteArray) (w : World) (hcells : ∀ (j : Nat) x, xs[j]? = some x → w.cell? ⟨bk, o + j, none⟩ = some (.string x)) (hbk : bk < w.heap.size) (hN : xs.length ≤ 140737488355328) (hcap : xs.length ≤ c) (hlen : (Lib.join (xs.map (·.data.toList)) sep.data.toList).length ≤ 140737488355328) :
 Calls Tryd.prog 28 #[.slice (some ⟨bk, o, none⟩) xs.length c, .string sep] w fun e w' => e = .returned (.string ⟨(Lib.join (xs.map (·.data.toList)) sep.data.toList).toArray⟩) ∧ Below w.heap.size w w' := Any.strings_Join Tryd.lays156 Tryd.Builder_Extra_156 bk o c xs sep w hcells hbk hN hcap hlen
def Tryd.laysM173_ren : Go.Shelf.Ren := ⟨fun | 173 => 27 | 246 => 38 | 283 => 53 | 284 => 54 | 285 => 55 | 286 => 56 | 129 => 72 | 317 => 71 | 318 => 73 | 319 => 74 | 320 => 75 | 337 => 88 | 338 => 89 | n => n, fun | 2 => 2 | 3 => 3 | 9 => 9 | 4 => 4 | 171 => 92 | 0 => 0 | 53 => 86 | 37 => 73 | 5 => 5 | 173 => 95 | 212 => 112 | 51 => 61 | 20 => 20 | 213 => 113 | 46 => 87 | 232 => 134 | 233 => 135 | n => n, fun | 17 => 0 | 18 => 6 | 19 => 7 | n => n⟩
theorem Tryd.laysM173 : Go.Proofs.LaysM.n173 Tryd.prog Tryd.laysM173_ren := {
 mixed := by kernel_rfl
 f129 := Tryd.func72.trans (congrArg some (by kernel_rfl))
 f173 := Tryd.func27.trans (congrArg some (by kernel_rfl))
 f246 := Tryd.func38.trans (congrArg some (by kernel_rfl))
 f283 := Tryd.func53.trans (congrArg some (by kernel_rfl))
 f284 := Tryd.func54.trans (congrArg some (by kernel_rfl))
 f285 := Tryd.func55.trans (congrArg some (by kernel_rfl))
 f286 := Tryd.func56.trans (congrArg some (by kernel_rfl))
 f317 := Tryd.func71.trans (congrArg some (by kernel_rfl))
 f318 := Tryd.func73.trans (congrArg some (by kernel_rfl))
 f319 := Tryd.func74.trans (congrArg some (by kernel_rfl))
 f320 := Tryd.func75.trans (congrArg some (by kernel_rfl))
 f337 := Tryd.func88.trans (congrArg some (by kernel_rfl))
 f338 := Tryd.func89.trans (congrArg some (by kernel_rfl))
 t0 := Tryd.underlying0
 a0 := Tryd.isAgg0
 z0 := Tryd.sizeOf0
 v0 := Tryd.zeroValue0
 t2 := Tryd.underlying2
 a2 := Tryd.isAgg2
 z2 := Tryd.sizeOf2
 v2 := Tryd.zeroValue2
 t3 := Tryd.underlying3
 a3 := Tryd.isAgg3
 z3 := Tryd.sizeOf3
 v3 := Tryd.zeroValue3
 t4 := Tryd.underlying4
 a4 := Tryd.isAgg4
 z4 := Tryd.sizeOf4
 v4 := Tryd.zeroValue4
 t5 := Tryd.underlying5
 a5 := Tryd.isAgg5
 z5 := Tryd.sizeOf5
 v5 := Tryd.zeroValue5
 t9 := Tryd.underlying9
 a9 := Tryd.isAgg9
 z9 := Tryd.sizeOf9
 v9 := Tryd.zeroValue9
 t20 := Tryd.underlying20
 a20 := Tryd.isAgg20
 z20 := Tryd.sizeOf20
 v20 := Tryd.zeroValue20
 t37 := Tryd.underlying73
 a37 := Tryd.isAgg73
 z37 := Tryd.sizeOf73
 v37 := Tryd.zeroValue73
 t46 := Tryd.underlying87
 a46 := Tryd.isAgg87
 z46 := Tryd.sizeOf87
 v46 := Tryd.zeroValue87
 t51 := Tryd.underlying61
 a51 := Tryd.isAgg61
 z51 := Tryd.sizeOf61
 v51 := Tryd.zeroValue61
 t53 := Tryd.underlying86
 a53 := Tryd.isAgg86
 z53 := Tryd.sizeOf86
 v53 := Tryd.zeroValue86
 t171 := Tryd.underlying92
 a171 := Tryd.isAgg92
 z171 := Tryd.sizeOf92
 v171 := Tryd.zeroValue92
 t173 := Tryd.underlying95
 a173 := Tryd.isAgg95
 z173 := Tryd.sizeOf95
 v173 := Tryd.zeroValue95
 t212 := Tryd.underlying112
 a212 := Tryd.isAgg112
 z212 := Tryd.sizeOf112
 v212 := Tryd.zeroValue112
 t213 := Tryd.underlying113
 a213 := Tryd.isAgg113
 z213 := Tryd.sizeOf113
 t232 := Tryd.underlying134
 a232 := Tryd.isAgg134
 z232 := Tryd.sizeOf134
 v232 := Tryd.zeroValue134
 t233 := Tryd.underlying135
 a233 := Tryd.isAgg135
 z233 := Tryd.sizeOf135
 v233 := Tryd.zeroValue135
 g17 := by kernel_rfl
 g18 := by kernel_rfl
 g19 := by kernel_rfl
 i0 := by kernel_rfl
 i2 := by kernel_rfl
 i3 := by kernel_rfl
 i4 := by kernel_rfl
 i5 := by kernel_rfl
 i9 := by kernel_rfl
 i20 := by kernel_rfl
 i37 := by kernel_rfl
 i46 := by kernel_rfl
 i51 := by kernel_rfl
 i53 := by kernel_rfl
 i171 := by kernel_rfl
 i173 := by kernel_rfl
 i212 := by kernel_rfl
 i232 := by kernel_rfl
 i233 := by kernel_rfl
 m17 := by kernel_rfl
 m18 := by kernel_rfl
 m19 := by kernel_rfl }
open Go.RowKit Go.Sort Go.Lib in
theorem Tryd.strconv_FormatInt_10 (n : Int) (h0 : -9223372036854775808 ≤ n) (h1 : n ≤ 9223372036854775807) (w : World) (htab : Lib.TabIs Tryd.prog w "internal/strconv.uint64pow10" .u64 Lib.pow10Tab) :
 Calls Tryd.prog 27 #[.int .i64 n, .int .i64 10] w fun e w' => e = .returned (.string ⟨(Lib.itoa n).toArray⟩) ∧ ∃ k os, w' = grow (w.drewN k) os := Any.strconv_FormatInt_10 Tryd.laysM173 n h0 h1 w htab
def Tryd.laysC174_ren : Go.Shelf.Ren := ⟨fun | 174 => 31 | 247 => 48 | 245 => 49 | 287 => 66 | 279 => 67 | 280 => 68 | 281 => 69 | 282 => 70 | 321 => 83 | 322 => 84 | 316 => 85 | 171 => 87 | 205 => 86 | 243 => 92 | 246 => 38 | 283 => 53 | 284 => 54 | 285 => 55 | 286 => 56 | 129 => 72 | 317 => 71 | 318 => 73 | 319 => 74 | 320 => 75 | 337 => 88 | 338 => 89 | n => n, fun | 9 => 9 | 3 => 3 | 2 => 2 | 75 => 64 | 85 => 65 | 4 => 4 | 167 => 104 | 5 => 5 | 53 => 86 | 175 => 105 | 46 => 87 | 168 => 107 | 37 => 73 | 0 => 0 | 210 => 122 | 21 => 21 | 127 => 97 | 145 => 133 | 143 => 131 | 171 => 92 | 173 => 95 | 212 => 112 | 51 => 61 | 20 => 20 | 213 => 113 | 232 => 134 | 233 => 135 | 80 => 79 | n => n, fun | 15 => 2 | 16 => 3 | 17 => 0 | 18 => 6 | 19 => 7 | n => n⟩
theorem Tryd.laysC174 : Go.Proofs.LaysC.n174 Tryd.prog Tryd.laysC174_ren := {
 mixed := by kernel_rfl
 f129 := Tryd.func72.trans (congrArg some (by kernel_rfl))
 f171 := Tryd.func87.trans (congrArg some (by kernel_rfl))
 f174 := Tryd.func31.trans (congrArg some (by kernel_rfl))
 f205 := Tryd.func86.trans (congrArg some (by kernel_rfl))
 f243 := Tryd.func92.trans (congrArg some (by kernel_rfl))
 f245 := Tryd.func49.trans (congrArg some (by kernel_rfl))
 f246 := Tryd.func38.trans (congrArg some (by kernel_rfl))
 f247 := Tryd.func48.trans (congrArg some (by kernel_rfl))
 f279 := Tryd.func67.trans (congrArg some (by kernel_rfl))
 f280 := Tryd.func68.trans (congrArg some (by kernel_rfl))
 f281 := Tryd.func69.trans (congrArg some (by kernel_rfl))
 f282 := Tryd.func70.trans (congrArg some (by kernel_rfl))
 f283 := Tryd.func53.trans (congrArg some (by kernel_rfl))
 f284 := Tryd.func54.trans (congrArg some (by kernel_rfl))
 f285 := Tryd.func55.trans (congrArg some (by kernel_rfl))
 f286 := Tryd.func56.trans (congrArg some (by kernel_rfl))
 f287 := Tryd.func66.trans (congrArg some (by kernel_rfl))
 f316 := Tryd.func85.trans (congrArg some (by kernel_rfl))
 f317 := Tryd.func71.trans (congrArg some (by kernel_rfl))
 f318 := Tryd.func73.trans (congrArg some (by kernel_rfl))
 f319 := Tryd.func74.trans (congrArg some (by kernel_rfl))
 f320 := Tryd.func75.trans (congrArg some (by kernel_rfl))
 f321 := Tryd.func83.trans (congrArg some (by kernel_rfl))
 f322 := Tryd.func84.trans (congrArg some (by kernel_rfl))
 f337 := Tryd.func88.trans (congrArg some (by kernel_rfl))
 f338 := Tryd.func89.trans (congrArg some (by kernel_rfl))
 t0 := Tryd.underlying0
 a0 := Tryd.isAgg0
 z0 := Tryd.sizeOf0
 v0 := Tryd.zeroValue0
 t2 := Tryd.underlying2
 a2 := Tryd.isAgg2
 z2 := Tryd.sizeOf2
 v2 := Tryd.zeroValue2
 t3 := Tryd.underlying3
 a3 := Tryd.isAgg3
 z3 := Tryd.sizeOf3
 v3 := Tryd.zeroValue3
 t4 := Tryd.underlying4
 a4 := Tryd.isAgg4
 z4 := Tryd.sizeOf4
 v4 := Tryd.zeroValue4
 t5 := Tryd.underlying5
 a5 := Tryd.isAgg5
 z5 := Tryd.sizeOf5
 v5 := Tryd.zeroValue5
 t9 := Tryd.underlying9
 a9 := Tryd.isAgg9
 z9 := Tryd.sizeOf9
 v9 := Tryd.zeroValue9
 t20 := Tryd.underlying20
 a20 := Tryd.isAgg20
 z20 := Tryd.sizeOf20
 v20 := Tryd.zeroValue20
 t21 := Tryd.underlying21
 a21 := Tryd.isAgg21
 z21 := Tryd.sizeOf21
 v21 := Tryd.zeroValue21
 t37 := Tryd.underlying73
 a37 := Tryd.isAgg73
 z37 := Tryd.sizeOf73
 v37 := Tryd.zeroValue73
 t46 := Tryd.underlying87
 a46 := Tryd.isAgg87
 z46 := Tryd.sizeOf87
 v46 := Tryd.zeroValue87
 t51 := Tryd.underlying61
 a51 := Tryd.isAgg61
 z51 := Tryd.sizeOf61
 v51 := Tryd.zeroValue61
 t53 := Tryd.underlying86
 a53 := Tryd.isAgg86
 z53 := Tryd.sizeOf86
 v53 := Tryd.zeroValue86
 t75 := Tryd.underlying64
 a75 := Tryd.isAgg64
 z75 := Tryd.sizeOf64
 v75 := Tryd.zeroValue64
 t85 := Tryd.underlying65
 a85 := Tryd.isAgg65
 z85 := Tryd.sizeOf65
 v85 := Tryd.zeroValue65
 t127 := Tryd.underlying97
 a127 := Tryd.isAgg97
 z127 := Tryd.sizeOf97
 v127 := Tryd.zeroValue97
 t143 := Tryd.underlying131
 a143 := Tryd.isAgg131
 z143 := Tryd.sizeOf131
 v143 := Tryd.zeroValue131
 t145 := Tryd.underlying133
 a145 := Tryd.isAgg133
 z145 := Tryd.sizeOf133
 v145 := Tryd.zeroValue133
 t167 := Tryd.underlying104
 a167 := Tryd.isAgg104
 z167 := Tryd.sizeOf104
 v167 := Tryd.zeroValue104
 t168 := Tryd.underlying107
 a168 := Tryd.isAgg107
 z168 := Tryd.sizeOf107
 v168 := Tryd.zeroValue107
 t171 := Tryd.underlying92
 a171 := Tryd.isAgg92
 z171 := Tryd.sizeOf92
 v171 := Tryd.zeroValue92
 t173 := Tryd.underlying95
 a173 := Tryd.isAgg95
 z173 := Tryd.sizeOf95
 v173 := Tryd.zeroValue95
 t175 := Tryd.underlying105
 a175 := Tryd.isAgg105
 z175 := Tryd.sizeOf105
 v175 := Tryd.zeroValue105
 t210 := Tryd.underlying122
 a210 := Tryd.isAgg122
 z210 := Tryd.sizeOf122
 v210 := Tryd.zeroValue122
 t212 := Tryd.underlying112
 a212 := Tryd.isAgg112
 z212 := Tryd.sizeOf112
 v212 := Tryd.zeroValue112
 t213 := Tryd.underlying113
 a213 := Tryd.isAgg113
 z213 := Tryd.sizeOf113
 t232 := Tryd.underlying134
 a232 := Tryd.isAgg134
 z232 := Tryd.sizeOf134
 v232 := Tryd.zeroValue134
 t233 := Tryd.underlying135
 a233 := Tryd.isAgg135
 z233 := Tryd.sizeOf135
 v233 := Tryd.zeroValue135
 g15 := by kernel_rfl
 g16 := by kernel_rfl
 g17 := by kernel_rfl
 g18 := by kernel_rfl
 g19 := by kernel_rfl
 t80 := Tryd.underlying79
 a80 := Tryd.isAgg79
 z80 := Tryd.sizeOf79
 v80 := Tryd.zeroValue79
 i0 := by kernel_rfl
 i2 := by kernel_rfl
 i3 := by kernel_rfl
 i4 := by kernel_rfl
 i5 := by kernel_rfl
 i9 := by kernel_rfl
 i20 := by kernel_rfl
 i21 := by kernel_rfl
 i37 := by kernel_rfl
 i46 := by kernel_rfl
 i51 := by kernel_rfl
 i53 := by kernel_rfl
 i75 := by kernel_rfl
 i80 := by kernel_rfl
 i85 := by kernel_rfl
 i127 := by kernel_rfl
 i143 := by kernel_rfl
 i145 := by kernel_rfl
 i167 := by kernel_rfl
 i168 := by kernel_rfl
 i171 := by kernel_rfl
 i173 := by kernel_rfl
 i175 := by kernel_rfl
 i210 := by kernel_rfl
 i212 := by kernel_rfl
 i232 := by kernel_rfl
 i233 := by kernel_rfl
 m15 := by kernel_rfl
 m16 := by kernel_rfl
 m17 := by kernel_rfl
 m18 := by kernel_rfl
 m19 := by kernel_rfl
 c0 := by kernel_rfl
 c2 := by kernel_rfl
 c3 := by kernel_rfl
 c4 := by kernel_rfl
 c5 := by kernel_rfl
 c9 := by kernel_rfl
 c20 := by kernel_rfl
 c21 := by kernel_rfl
 c37 := by kernel_rfl
 c46 := by kernel_rfl
 c51 := by kernel_rfl
 c53 := by kernel_rfl
 c75 := by kernel_rfl
 c80 := by kernel_rfl
 c85 := by kernel_rfl
 c127 := by kernel_rfl
 c143 := by kernel_rfl
 c145 := by kernel_rfl
 c167 := by kernel_rfl
 c168 := by kernel_rfl
 c171 := by kernel_rfl
 c173 := by kernel_rfl
 c175 := by kernel_rfl
 c210 := by kernel_rfl
 c212 := by kernel_rfl
 c213 := by kernel_rfl
 c232 := by kernel_rfl
 c233 := by kernel_rfl }
open Go.RowKit in
theorem Tryd.strconv_ParseInt_10_at64_ok (s : ByteArray) (hmax : s.size ≤ 9223372036854775806) (v : Int) (h : Lib.parseIntB 64 s.data.toList = .ok v) (w : World) :
 Calls Tryd.prog 31 #[.string s, .int .i64 10, .int .i64 64] w fun e w' => e = .returned (.tuple #[.int .i64 v, .nilIface]) ∧ (w' = w ∨ ∃ t, w' = Lib.bytesWorld w 5 t) := Any.strconv_ParseInt_10_at64_ok Tryd.laysC174 s hmax v h w
open Go.RowKit in
theorem Tryd.strconv_ParseInt_10_at64_syntax_var (s : ByteArray) (hlim : s.size ≤ 281474976710656) (h : Lib.parseIntB 64 s.data.toList = Lib.NumEnd.syntax) (tp : TypeId) (p : Value) (w : World) (hvar : w.var? Tryd.prog "strconv.ErrSyntax" = some #[.iface tp p]) :
 Calls Tryd.prog 31 #[.string s, .int .i64 10, .int .i64 64] w fun e w' => ∃ N, e = .returned (.tuple #[.int .i64 (0), .iface 107 (.pointer (some ⟨N, 0, none⟩))]) ∧ w.heap.size ≤ N ∧ w'.heap[N]? = some (.cells #[.string ⟨#[80, 97, 114, 115, 101, 73, 110, 116]⟩, .string s, .iface tp p] 122 (0, 0)) ∧ Below w.heap.size w w' := Any.strconv_ParseInt_10_at64_syntax_var Tryd.laysC174 s hlim h tp p w hvar
open Go.RowKit in
theorem Tryd.strconv_ParseInt_10_at64_range_var (s : ByteArray) (hlim : s.size ≤ 281474976710656) (h : Lib.parseIntB 64 s.data.toList = .range) (tp : TypeId) (p : Value) (w : World) (hvar : w.var? Tryd.prog "strconv.ErrRange" = some #[.iface tp p]) :
 Calls Tryd.prog 31 #[.string s, .int .i64 10, .int .i64 64] w fun e w' => ∃ N, e = .returned (.tuple #[.int .i64 (Lib.intSat 64 s.data.toList), .iface 107 (.pointer (some ⟨N, 0, none⟩))]) ∧ w.heap.size ≤ N ∧ w'.heap[N]? = some (.cells #[.string ⟨#[80, 97, 114, 115, 101, 73, 110, 116]⟩, .string s, .iface tp p] 122 (0, 0)) ∧ Below w.heap.size w w' := Any.strconv_ParseInt_10_at64_range_var Tryd.laysC174 s hlim h tp p w hvar
def Tryd.lays146_ren : Go.Shelf.Ren := ⟨fun | 146 => 16 | 221 => 30 | 268 => 45 | 138 => 46 | 143 => 47 | 195 => 62 | 197 => 63 | 218 => 64 | 219 => 65 | 260 => 78 | 217 => 79 | 225 => 80 | 224 => 81 | 267 => 82 | 266 => 90 | 314 => 91 | n => n, fun | 9 => 9 | 31 => 33 | 3 => 3 | 4 => 4 | 0 => 0 | 105 => 101 | 21 => 21 | 5 => 5 | 46 => 87 | 119 => 125 | 139 => 128 | 138 => 127 | 146 => 129 | 51 => 61 | n => n, fun | 1 => 1 | 3 => 4 | 4 => 5 | n => n⟩
theorem Tryd.lays146 : Go.Proofs.Lays.n146 Tryd.prog Tryd.lays146_ren := {
 mixed := by kernel_rfl
 f138 := Tryd.func46.trans (congrArg some (by kernel_rfl))
 f143 := Tryd.func47.trans (congrArg some (by kernel_rfl))
 f146 := Tryd.func16.trans (congrArg some (by kernel_rfl))
 f195 := Tryd.func62.trans (congrArg some (by kernel_rfl))
 f197 := Tryd.func63.trans (congrArg some (by kernel_rfl))
 f217 := Tryd.func79.trans (congrArg some (by kernel_rfl))
 f218 := Tryd.func64.trans (congrArg some (by kernel_rfl))
 f219 := Tryd.func65.trans (congrArg some (by kernel_rfl))
 f221 := Tryd.func30.trans (congrArg some (by kernel_rfl))
 f224 := Tryd.func81.trans (congrArg some (by kernel_rfl))
 f225 := Tryd.func80.trans (congrArg some (by kernel_rfl))
 f260 := Tryd.func78.trans (congrArg some (by kernel_rfl))
 f266 := Tryd.func90.trans (congrArg some (by kernel_rfl))
 f267 := Tryd.func82.trans (congrArg some (by kernel_rfl))
 f268 := Tryd.func45.trans (congrArg some (by kernel_rfl))
 f314 := Tryd.func91.trans (congrArg some (by kernel_rfl))
 t0 := Tryd.underlying0
 a0 := Tryd.isAgg0
 z0 := Tryd.sizeOf0
 v0 := Tryd.zeroValue0
 t3 := Tryd.underlying3
 a3 := Tryd.isAgg3
 z3 := Tryd.sizeOf3
 v3 := Tryd.zeroValue3
 t4 := Tryd.underlying4
 a4 := Tryd.isAgg4
 z4 := Tryd.sizeOf4
 v4 := Tryd.zeroValue4
 t5 := Tryd.underlying5
 a5 := Tryd.isAgg5
 z5 := Tryd.sizeOf5
 v5 := Tryd.zeroValue5
 t9 := Tryd.underlying9
 a9 := Tryd.isAgg9
 z9 := Tryd.sizeOf9
 v9 := Tryd.zeroValue9
 t21 := Tryd.underlying21
 a21 := Tryd.isAgg21
 z21 := Tryd.sizeOf21
 v21 := Tryd.zeroValue21
 t31 := Tryd.underlying33
 a31 := Tryd.isAgg33
 z31 := Tryd.sizeOf33
 v31 := Tryd.zeroValue33
 t46 := Tryd.underlying87
 a46 := Tryd.isAgg87
 z46 := Tryd.sizeOf87
 v46 := Tryd.zeroValue87
 t51 := Tryd.underlying61
 a51 := Tryd.isAgg61
 z51 := Tryd.sizeOf61
 v51 := Tryd.zeroValue61
 t105 := Tryd.underlying101
 a105 := Tryd.isAgg101
 z105 := Tryd.sizeOf101
 v105 := Tryd.zeroValue101
 t119 := Tryd.underlying125
 a119 := Tryd.isAgg125
 z119 := Tryd.sizeOf125
 t138 := Tryd.underlying127
 a138 := Tryd.isAgg127
 z138 := Tryd.sizeOf127
 v138 := Tryd.zeroValue127
 t139 := Tryd.underlying128
 a139 := Tryd.isAgg128
 z139 := Tryd.sizeOf128
 v139 := Tryd.zeroValue128
 t146 := Tryd.underlying129
 a146 := Tryd.isAgg129
 z146 := Tryd.sizeOf129
 v146 := Tryd.zeroValue129
 g1 := by kernel_rfl
 g3 := by kernel_rfl
 g4 := by kernel_rfl }
open Go.RowKit Go.Lib in
theorem Tryd.strings_Split (s sep : ByteArray) (m : Int) (w : World) (hs : s.size < 4294967281) (hm : w.cell? ⟨1, 0, none⟩ = some (.int .i64 m)) (h1 : 1 ≤ sep.size) :
 Calls Tryd.prog 16 #[.string s, .string sep] w fun e w' =>
  e = .returned (.slice (some ⟨w.heap.size, 0, none⟩) (Lib.countB s sep + 1) (Lib.countB s sep + 1)) ∧ w' = w.alloc (.cells ((Lib.splitB sep 0 (Lib.countB s sep) s).map Value.string).toArray 9) := Any.strings_Split Tryd.lays146 (by kernel_rfl) s sep m w hs hm h1
end Go.Proofs
set_option linter.unusedVariables false
set_option linter.unusedSimpArgs false
namespace Go.Proofs.YtmbpomcbdopgnaaDoor.W
open Go Go.RowKit Go.Proofs.YtmbpomcbdopgnaaDoor.Fw
attribute [local irreducible] RunK LW AW DV OE Ct
theorem ui2 : Tryd.prog.underlying 2 = some (.int .i64) := by kernel_rfl
set_option maxHeartbeats 1000000 in
theorem l1Int_ok {w : World} {x : Int} (hx : -9223372036854775808 ≤ x ∧ x ≤ 9223372036854775807) : Ct Tryd.prog 36 [.int .i64 x] w fun v w1 => ∃ nr A' n c', v = .agg #[.bool nr, .slice A' n c'] ∧ Ext w w1 ∧ Num 32 61 .u32 w1 nr A' n c' (x) (64) := by
 refine ct_run (n := 19) Tryd.func36 rfl Tryd.ntmps36 rfl ?_
 have E0 : Below w.heap.size w w := Below.refl _ _
 refine rk_seq ?_
 refine rk_reg ?_
 refine lw_e (oe_alloc ze58 ?_)
 intro b1 w2 n3
 have N4 : w.heap.size ≤ b1 := n3.eq ▸ E0.size
 have E5 := below_ext E0 E0.size n3.ext
 refine lw_nil ?_
 refine rk_seq ?_
 refine rk_reg ?_
 refine lw_v (.int .i64 x) (dv_move (T rfl rfl)) ?_
 refine lw_v (.int .u64 ((x) % 18446744073709551616)) (dv_conv (a := x) (z := (x) % 18446744073709551616) ui2 ui86 (T rfl rfl) (wr_u64 _)) ?_
 refine lw_v (.int .u64 ((x) % 18446744073709551616)) (dv_assign (T rfl rfl)) ?_
 refine lw_nil ?_
 refine rk_seq ?_
 refine rk_seq ?_
 refine rk_reg ?_
 refine lw_v (.int .i64 x) (dv_move (T rfl rfl)) ?_
 refine lw_v (.bool (decide (x < 0))) (dv_lss (a := x) (b := 0) (T rfl rfl) C) ?_
 refine lw_nil ?_
 by_cases hb6 : x < 0
 · refine rk_ct (T rfl (congrArg Value.bool (decide_eq_true hb6))) ?_
   refine rk_reg ?_
   refine lw_v (.int .u64 ((x) % 18446744073709551616)) (dv_move (T rfl rfl)) ?_
   refine lw_v (.int .u64 ((0 - ((x) % 18446744073709551616)) % 18446744073709551616)) (dv_sub (a := 0) (b := (x) % 18446744073709551616) (z := (0 - ((x) % 18446744073709551616)) % 18446744073709551616) C (T rfl rfl) (wr_u64 _)) ?_
   refine lw_v (.int .u64 ((0 - ((x) % 18446744073709551616)) % 18446744073709551616)) (dv_assign (T rfl rfl)) ?_
   refine lw_nil ?_
   refine rk_seq ?_
   refine rk_reg ?_
   refine lw_v (.int .i64 x) (dv_move (T rfl rfl)) ?_
   refine lw_v (.bool (decide (x < 0))) (dv_lss (a := x) (b := 0) (T rfl rfl) C) ?_
   refine lw_v (.int .u64 ((0 - ((x) % 18446744073709551616)) % 18446744073709551616)) (dv_move (T rfl rfl)) ?_
   refine lw_v (.int .u32 (((0 - ((x) % 18446744073709551616)) % 18446744073709551616) % 4294967296)) (dv_conv (a := (0 - ((x) % 18446744073709551616)) % 18446744073709551616) (z := ((0 - ((x) % 18446744073709551616)) % 18446744073709551616) % 4294967296) ui86 ui61 (T rfl rfl) (wr_u32 _)) ?_
   refine lw_v (.int .u64 ((0 - ((x) % 18446744073709551616)) % 18446744073709551616)) (dv_move (T rfl rfl)) ?_
   refine lw_v (.int .u64 (((0 - ((x) % 18446744073709551616)) % 18446744073709551616) / 4294967296)) (dv_shr (a := (0 - ((x) % 18446744073709551616)) % 18446744073709551616) (b := 32) (z := ((0 - ((x) % 18446744073709551616)) % 18446744073709551616) / 4294967296) (T rfl rfl) C (by decide) (shr_c (n := 32) (by omega) (by decide))) ?_
   refine lw_v (.int .u32 ((((0 - ((x) % 18446744073709551616)) % 18446744073709551616) / 4294967296) % 4294967296)) (dv_conv (a := ((0 - ((x) % 18446744073709551616)) % 18446744073709551616) / 4294967296) (z := (((0 - ((x) % 18446744073709551616)) % 18446744073709551616) / 4294967296) % 4294967296) ui86 ui61 (T rfl rfl) (wr_u32 _)) ?_
   refine lw_e (oe_buildSlice (pv := [(0, .int .u32 (((0 - ((x) % 18446744073709551616)) % 18446744073709551616) % 4294967296)), (1, .int .u32 ((((0 - ((x) % 18446744073709551616)) % 18446744073709551616) / 4294967296) % 4294967296))]) (init := [.int .u32 0, .int .u32 0]) (l := [.int .u32 (((0 - ((x) % 18446744073709551616)) % 18446744073709551616) % 4294967296), .int .u32 ((((0 - ((x) % 18446744073709551616)) % 18446744073709551616) / 4294967296) % 4294967296)]) us56 sz61 rfl rfl zc61 (by kernel_rfl) ⟨rfl, (T rfl rfl), ⟨rfl, (T rfl rfl), trivial⟩⟩ rfl ?_)
   intro b7 w8 n9
   have N10 : w.heap.size ≤ b7 := n9.eq ▸ E5.size
   have : b1 < b7 := n9.eq ▸ lt_of_blk n3.blk
   have E11 := below_ext E5 E5.size n9.ext
   refine lw_e (oe_callf (vs := [.bool (decide (x < 0)), .slice (some ⟨b7, 0, none⟩) 2 2]) co51 (ar2 (T rfl rfl) (T rfl rfl)) (l1Trim_num (s := 64) (neg := decide (x < 0)) (⟨[((0 - ((x) % 18446744073709551616)) % 18446744073709551616) % 4294967296, (((0 - ((x) % 18446744073709551616)) % 18446744073709551616) / 4294967296) % 4294967296], rfl, Nat.le_refl _, Wd.ownW n9.blk, (okW_lit (by simp <;> omega)), rfl⟩ : Ws _ _ _ _ _ _ _ _) (by first | omega | decide) (valB_sz (m := 32) (xs := [((0 - ((x) % 18446744073709551616)) % 18446744073709551616) % 4294967296, (((0 - ((x) % 18446744073709551616)) % 18446744073709551616) / 4294967296) % 4294967296]) (n := 2) (okW_lit (by simp <;> omega)) rfl)) ?_)
   rintro _ w17 ⟨nb12, A13, n14, c15, rfl, e18, hn16⟩
   have E19 := below_ext E11 E11.size e18
   have lhn16 := Num.len (by decide) hn16
   have H20 := (e18.blk (n9.ext.blk n3.blk))
   refine lw_e (oe_store (v := .agg #[.bool nb12, .slice A13 n14 c15]) (vs := [.bool nb12, .slice A13 n14 c15]) (l := [.bool nb12, .slice A13 n14 c15]) (T rfl rfl) (T rfl rfl) sz58 rfl rfl rfl H20 rfl ?_)
   intro w21 s22 H23
   have E24 := below_st E19 N4 s22
   refine lw_nil ?_
   refine rk_ret Tryd.func36 (v := .agg #[.bool nb12, .slice A13 n14 c15]) (res1 Tryd.results36 (rv_cells (l := [.bool nb12, .slice A13 n14 c15]) agt58 sz58 rfl rfl H23 rfl)) ⟨_, rfl, ?_⟩
   have h25 := (hn16.st s22 H20 (by decide))
   exact ⟨_, _, _, _, rfl, E24, h25.tight (int_32 (by omega) (by omega)) (by have e : (2 : Nat) ^ 64 = 18446744073709551616 := (by decide); omega)⟩
 · refine rk_cf (T rfl (congrArg Value.bool (decide_eq_false hb6))) ?_
   refine rk_skip ?_
   refine rk_seq ?_
   refine rk_reg ?_
   refine lw_v (.int .i64 x) (dv_move (T rfl rfl)) ?_
   refine lw_v (.bool (decide (x < 0))) (dv_lss (a := x) (b := 0) (T rfl rfl) C) ?_
   refine lw_v (.int .u64 ((x) % 18446744073709551616)) (dv_move (T rfl rfl)) ?_
   refine lw_v (.int .u32 (((x) % 18446744073709551616) % 4294967296)) (dv_conv (a := (x) % 18446744073709551616) (z := ((x) % 18446744073709551616) % 4294967296) ui86 ui61 (T rfl rfl) (wr_u32 _)) ?_
   refine lw_v (.int .u64 ((x) % 18446744073709551616)) (dv_move (T rfl rfl)) ?_
   refine lw_v (.int .u64 (((x) % 18446744073709551616) / 4294967296)) (dv_shr (a := (x) % 18446744073709551616) (b := 32) (z := ((x) % 18446744073709551616) / 4294967296) (T rfl rfl) C (by decide) (shr_c (n := 32) (by omega) (by decide))) ?_
   refine lw_v (.int .u32 ((((x) % 18446744073709551616) / 4294967296) % 4294967296)) (dv_conv (a := ((x) % 18446744073709551616) / 4294967296) (z := (((x) % 18446744073709551616) / 4294967296) % 4294967296) ui86 ui61 (T rfl rfl) (wr_u32 _)) ?_
   refine lw_e (oe_buildSlice (pv := [(0, .int .u32 (((x) % 18446744073709551616) % 4294967296)), (1, .int .u32 ((((x) % 18446744073709551616) / 4294967296) % 4294967296))]) (init := [.int .u32 0, .int .u32 0]) (l := [.int .u32 (((x) % 18446744073709551616) % 4294967296), .int .u32 ((((x) % 18446744073709551616) / 4294967296) % 4294967296)]) us56 sz61 rfl rfl zc61 (by kernel_rfl) ⟨rfl, (T rfl rfl), ⟨rfl, (T rfl rfl), trivial⟩⟩ rfl ?_)
   intro b26 w27 n28
   have N29 : w.heap.size ≤ b26 := n28.eq ▸ E5.size
   have : b1 < b26 := n28.eq ▸ lt_of_blk n3.blk
   have E30 := below_ext E5 E5.size n28.ext
   refine lw_e (oe_callf (vs := [.bool (decide (x < 0)), .slice (some ⟨b26, 0, none⟩) 2 2]) co51 (ar2 (T rfl rfl) (T rfl rfl)) (l1Trim_num (s := 64) (neg := decide (x < 0)) (⟨[((x) % 18446744073709551616) % 4294967296, (((x) % 18446744073709551616) / 4294967296) % 4294967296], rfl, Nat.le_refl _, Wd.ownW n28.blk, (okW_lit (by simp <;> omega)), rfl⟩ : Ws _ _ _ _ _ _ _ _) (by first | omega | decide) (valB_sz (m := 32) (xs := [((x) % 18446744073709551616) % 4294967296, (((x) % 18446744073709551616) / 4294967296) % 4294967296]) (n := 2) (okW_lit (by simp <;> omega)) rfl)) ?_)
   rintro _ w36 ⟨nb31, A32, n33, c34, rfl, e37, hn35⟩
   have E38 := below_ext E30 E30.size e37
   have lhn35 := Num.len (by decide) hn35
   have H39 := (e37.blk (n28.ext.blk n3.blk))
   refine lw_e (oe_store (v := .agg #[.bool nb31, .slice A32 n33 c34]) (vs := [.bool nb31, .slice A32 n33 c34]) (l := [.bool nb31, .slice A32 n33 c34]) (T rfl rfl) (T rfl rfl) sz58 rfl rfl rfl H39 rfl ?_)
   intro w40 s41 H42
   have E43 := below_st E38 N4 s41
   refine lw_nil ?_
   refine rk_ret Tryd.func36 (v := .agg #[.bool nb31, .slice A32 n33 c34]) (res1 Tryd.results36 (rv_cells (l := [.bool nb31, .slice A32 n33 c34]) agt58 sz58 rfl rfl H42 rfl)) ⟨_, rfl, ?_⟩
   have h44 := (hn35.st s41 H39 (by decide))
   exact ⟨_, _, _, _, rfl, E43, h44.tight (int_32 (by omega) (by omega)) (by have e : (2 : Nat) ^ 64 = 18446744073709551616 := (by decide); omega)⟩
end Go.Proofs.YtmbpomcbdopgnaaDoor.W
set_option linter.unusedVariables false
set_option linter.unusedSimpArgs false
namespace Go.Proofs.YtmbpomcbdopgnaaDoor.W
open Go Go.RowKit Go.Proofs.YtmbpomcbdopgnaaDoor.Fw
attribute [local irreducible] RunK LW AW DV OE Ct
set_option maxHeartbeats 1000000 in
theorem l1Mul_ok {w : World} {na : Bool} {Aa : Option Addr} {la ca : Nat} {x : Int} {sx : Nat} (ha : Num 32 61 .u32 w na Aa la ca x sx) {nb : Bool} {Ab : Option Addr} {lb cb : Nat} {y : Int} {sy : Nat} (hb : Num 32 61 .u32 w nb Ab lb cb y sy) (hs : sx ≤ 200000) (hs2 : sy ≤ 200000) : Ct Tryd.prog 43 [.agg #[.bool na, .slice Aa la ca], .agg #[.bool nb, .slice Ab lb cb]] w fun v w1 => ∃ nr A' n c', v = .agg #[.bool nr, .slice A' n c'] ∧ Ext w w1 ∧ Num 32 61 .u32 w1 nr A' n c' (x * y) (sx + sy) := by
 refine ct_run (n := 90) Tryd.func43 rfl Tryd.ntmps43 rfl ?_
 have E0 : Below w.heap.size w w := Below.refl _ _
 have lha := Num.len (by decide) ha
 have lhb := Num.len (by decide) hb
 obtain ⟨xs, hxl, hxc, hxw, ox, hxk, hxv⟩ := ha.wc
 obtain ⟨ys, hyl, hyc, hyw, oy, hyk, hyv⟩ := hb.wc
 refine rk_seq ?_
 refine rk_reg ?_
 refine lw_e (oe_box (v := .agg #[.bool na, .slice Aa la ca]) (cs := #[.bool na, .slice Aa la ca]) (T rfl rfl) rfl ?_)
 intro b1 w2 n3
 have N4 : w.heap.size ≤ b1 := n3.eq ▸ E0.size
 have E5 := below_ext E0 E0.size n3.ext
 refine lw_e (oe_box (v := .agg #[.bool nb, .slice Ab lb cb]) (cs := #[.bool nb, .slice Ab lb cb]) (T rfl rfl) rfl ?_)
 intro b6 w7 n8
 have N9 : w.heap.size ≤ b6 := n8.eq ▸ E5.size
 have : b1 < b6 := n8.eq ▸ lt_of_blk n3.blk
 have E10 := below_ext E5 E5.size n8.ext
 refine lw_e (oe_alloc ze58 ?_)
 intro b11 w12 n13
 have N14 : w.heap.size ≤ b11 := n13.eq ▸ E10.size
 have : b6 < b11 := n13.eq ▸ lt_of_blk n8.blk
 have E15 := below_ext E10 E10.size n13.ext
 refine lw_nil ?_
 refine rk_seq ?_
 refine rk_seq ?_
 refine rk_reg ?_
 refine lw_v (.pointer (some ⟨b1, 1, none⟩)) (dv_fieldAddr (a := ⟨b1, 0, none⟩) (a' := ⟨b1, 1, none⟩) fo58_1 (T rfl rfl) rfl) ?_
 have H16 := (n13.ext.blk (n8.ext.blk n3.blk))
 refine lw_v (.slice Aa la ca) (dv_load1 (b := b1) (o := 1) agt56 (T rfl rfl) H16 rfl) ?_
 refine lw_v (.int .i64 ((la : Int))) (dv_len (ad := Aa) (l := la) (c := ca) us56 (T rfl rfl)) ?_
 refine lw_v (.bool (decide (((la : Int)) = 0))) (dv_eql (a := (la : Int)) (b := 0) (T rfl rfl) C) ?_
 refine lw_v (.bool (decide (((la : Int)) = 0))) (dv_move (T rfl rfl)) ?_
 by_cases hb17 : ((la : Int)) = 0
 · refine lw_no (d := 13) rfl rfl (congrArg Value.bool (decide_eq_true hb17)) ?_
   refine lw_no (d := 13) rfl rfl (congrArg Value.bool (decide_eq_true hb17)) ?_
   refine lw_no (d := 13) rfl rfl (congrArg Value.bool (decide_eq_true hb17)) ?_
   refine lw_no (d := 13) rfl rfl (congrArg Value.bool (decide_eq_true hb17)) ?_
   refine lw_v (.bool true) (dv_pick_t (T rfl (congrArg Value.bool (decide_eq_true hb17))) C) ?_
   refine lw_nil ?_
   refine rk_ct (T rfl rfl) ?_
   refine rk_seq ?_
   refine rk_reg ?_
   refine lw_v (.agg #[.bool false, .slice none 0 0]) (dv_build (pv := []) (l := [.bool false, .slice none 0 0]) zc58 pl58 trivial rfl) ?_
   refine lw_e (oe_store (v := .agg #[.bool false, .slice none 0 0]) (vs := [.bool false, .slice none 0 0]) (l := [.bool false, .slice none 0 0]) (T rfl rfl) (T rfl rfl) sz58 rfl rfl rfl n13.blk rfl ?_)
   intro w18 s19 H20
   have E21 := below_st E15 N14 s19
   refine lw_nil ?_
   refine rk_ret Tryd.func43 (v := .agg #[.bool false, .slice none 0 0]) (res1 Tryd.results43 (rv_cells (l := [.bool false, .slice none 0 0]) agt58 sz58 rfl rfl H20 rfl)) ⟨_, rfl, ?_⟩
   exact ⟨_, _, _, _, rfl, E21, (Num.zero (s := 0)).tight (by have h1 := ha.pos_iff; have h2 := hb.pos_iff; exact (mul_zero_of (by omega)).symm) (by rw [Int.natAbs_mul]; exact nat_mul_sz ha.lt hb.lt)⟩
 · refine lw_vy (.pointer (some ⟨b6, 1, none⟩)) (d := 13) rfl rfl (congrArg Value.bool (decide_eq_false hb17)) (dv_fieldAddr (a := ⟨b6, 0, none⟩) (a' := ⟨b6, 1, none⟩) fo58_1 (T rfl rfl) rfl) ?_
   have H22 := (n13.ext.blk n8.blk)
   refine lw_vy (.slice Ab lb cb) (d := 13) rfl rfl (congrArg Value.bool (decide_eq_false hb17)) (dv_load1 (b := b6) (o := 1) agt56 (T rfl rfl) H22 rfl) ?_
   refine lw_vy (.int .i64 ((lb : Int))) (d := 13) rfl rfl (congrArg Value.bool (decide_eq_false hb17)) (dv_len (ad := Ab) (l := lb) (c := cb) us56 (T rfl rfl)) ?_
   refine lw_vy (.bool (decide (((lb : Int)) = 0))) (d := 13) rfl rfl (congrArg Value.bool (decide_eq_false hb17)) (dv_eql (a := (lb : Int)) (b := 0) (T rfl rfl) C) ?_
   refine lw_v (.bool (decide (((lb : Int)) = 0))) (dv_pick_f (T rfl (congrArg Value.bool (decide_eq_false hb17))) (T rfl rfl)) ?_
   refine lw_nil ?_
   by_cases hb23 : ((lb : Int)) = 0
   · refine rk_ct (T rfl (congrArg Value.bool (decide_eq_true hb23))) ?_
     refine rk_seq ?_
     refine rk_reg ?_
     refine lw_v (.agg #[.bool false, .slice none 0 0]) (dv_build (pv := []) (l := [.bool false, .slice none 0 0]) zc58 pl58 trivial rfl) ?_
     refine lw_e (oe_store (v := .agg #[.bool false, .slice none 0 0]) (vs := [.bool false, .slice none 0 0]) (l := [.bool false, .slice none 0 0]) (T rfl rfl) (T rfl rfl) sz58 rfl rfl rfl n13.blk rfl ?_)
     intro w24 s25 H26
     have E27 := below_st E15 N14 s25
     refine lw_nil ?_
     refine rk_ret Tryd.func43 (v := .agg #[.bool false, .slice none 0 0]) (res1 Tryd.results43 (rv_cells (l := [.bool false, .slice none 0 0]) agt58 sz58 rfl rfl H26 rfl)) ⟨_, rfl, ?_⟩
     exact ⟨_, _, _, _, rfl, E27, (Num.zero (s := 0)).tight (by have h1 := ha.pos_iff; have h2 := hb.pos_iff; exact (mul_zero_of (by omega)).symm) (by rw [Int.natAbs_mul]; exact nat_mul_sz ha.lt hb.lt)⟩
   · refine rk_cf (T rfl (congrArg Value.bool (decide_eq_false hb23))) ?_
     refine rk_skip ?_
     refine rk_seq ?_
     refine rk_reg ?_
     refine lw_v (.pointer (some ⟨b1, 1, none⟩)) (dv_fieldAddr (a := ⟨b1, 0, none⟩) (a' := ⟨b1, 1, none⟩) fo58_1 (T rfl rfl) rfl) ?_
     refine lw_v (.slice Aa la ca) (dv_load1 (b := b1) (o := 1) agt56 (T rfl rfl) H16 rfl) ?_
     refine lw_v (.int .i64 ((la : Int))) (dv_len (ad := Aa) (l := la) (c := ca) us56 (T rfl rfl)) ?_
     refine lw_v (.pointer (some ⟨b6, 1, none⟩)) (dv_fieldAddr (a := ⟨b6, 0, none⟩) (a' := ⟨b6, 1, none⟩) fo58_1 (T rfl rfl) rfl) ?_
     refine lw_v (.slice Ab lb cb) (dv_load1 (b := b6) (o := 1) agt56 (T rfl rfl) H22 rfl) ?_
     refine lw_v (.int .i64 ((lb : Int))) (dv_len (ad := Ab) (l := lb) (c := cb) us56 (T rfl rfl)) ?_
     refine lw_v (.int .i64 (((la : Int)) + ((lb : Int)))) (dv_add (a := (la : Int)) (b := (lb : Int)) (z := ((la : Int)) + ((lb : Int))) (T rfl rfl) (T rfl rfl) (wr_i64 (by omega) (by omega))) ?_
     refine lw_e (oe_makeW (l := ((la) + (lb))) (j := ((la : Int)) + ((lb : Int))) us56 in61 (T rfl rfl) (T rfl rfl) (by omega) (by first | omega | (simp; done) | (simp; omega)) (by first | omega | (simp; done) | (simp; omega)) ?_)
     intro b28 w29 n30
     have N31 : w.heap.size ≤ b28 := n30.eq ▸ E15.size
     have : b11 < b28 := n30.eq ▸ lt_of_blk n13.blk
     have E32 := below_ext E15 E15.size n30.ext
     refine lw_v (.slice (some ⟨b28, 0, none⟩) (((la) + (lb))) (((la) + (lb)))) (dv_assign (T rfl rfl)) ?_
     refine lw_nil ?_
     refine rk_seq ?_
     refine rk_seq ?_
     refine rk_reg ?_
     refine lw_v (.int .i64 0) (dv_assign C) ?_
     refine lw_nil ?_
     refine rk_block ?_
     have H33 := (n30.ext.blk H16)
     have H34 := (n30.ext.blk H22)
     have H35 := (n30.ext.blk n13.blk)
     refine rk_loop (fun dm_ fr wl => ∃ (i : Nat) (L : List Int), dm_ = xs.length - i ∧ fr 2 = .pointer (some ⟨b1, 0, none⟩) ∧ fr 3 = .pointer (some ⟨b6, 0, none⟩) ∧ fr 4 = .pointer (some ⟨b11, 0, none⟩) ∧ fr 5 = .slice (some ⟨b28, 0, none⟩) (((la) + (lb))) (((la) + (lb))) ∧ fr 6 = .int .i64 ((i : Int)) ∧ Below w.heap.size w wl ∧ wl.heap[b1]? = some (.cells #[.bool na, .slice Aa la ca] 58) ∧ wl.heap[b6]? = some (.cells #[.bool nb, .slice Ab lb cb] 58) ∧ wl.heap[b11]? = some (.cells #[.bool false, .slice none 0 0] 58) ∧ wl.heap[b28]? = some (.cells (L.map (Value.int .u32)).toArray 61) ∧ (i ≤ xs.length) ∧ (L.length = xs.length + ys.length) ∧ (okW (2 ^ 32) L) ∧ (valB (2 ^ 32) L = valB (2 ^ 32) (xs.take i) * valB (2 ^ 32) ys) ∧ (∀ q, i + ys.length ≤ q → L.getD q 0 = 0)) (xs.length - 0) ⟨0, (List.replicate (((la) + (lb))) (0 : Int)), rfl, rfl, rfl, rfl, rfl, (vi (by omega)), E32, H33, H34, H35, n30.blk, (Nat.zero_le _), (by simp; omega), (okW.replicate (by decide) _), (by rw [valB_zeros, List.take_zero]; simp [valB]), (fun q _ => rep_zero _ q)⟩ ?_
     intro d40 fr39 w36 hI37 ih38
     obtain ⟨i, L, hd51, f41, f42, f43, f44, f45, E46, H47, H48, H49, H50, hi, hl, hok, hv, hL0⟩ := hI37
     have bxs := okW.getD ox (by decide) i
     refine rk_seq ?_
     refine rk_seq ?_
     refine rk_reg ?_
     refine lw_v (.int .i64 ((i : Int))) (dv_move (T rfl f45)) ?_
     refine lw_v (.pointer (some ⟨b1, 1, none⟩)) (dv_fieldAddr (a := ⟨b1, 0, none⟩) (a' := ⟨b1, 1, none⟩) fo58_1 (T rfl f41) rfl) ?_
     refine lw_v (.slice Aa la ca) (dv_load1 (b := b1) (o := 1) agt56 (T rfl rfl) H47 rfl) ?_
     refine lw_v (.int .i64 ((la : Int))) (dv_len (ad := Aa) (l := la) (c := ca) us56 (T rfl rfl)) ?_
     refine lw_v (.bool (decide (((i : Int)) < ((la : Int))))) (dv_lss (a := (i : Int)) (b := (la : Int)) (T rfl rfl) (T rfl rfl)) ?_
     refine lw_nil ?_
     by_cases hb52 : ((i : Int)) < ((la : Int))
     · refine rk_ct (T rfl (congrArg Value.bool (decide_eq_true hb52))) ?_
       refine rk_skip ?_
       refine rk_seq ?_
       refine rk_block ?_
       refine rk_seq ?_
       refine rk_reg ?_
       refine lw_v (.int .u64 0) (dv_assign C) ?_
       refine lw_nil ?_
       refine rk_seq ?_
       refine rk_seq ?_
       refine rk_reg ?_
       refine lw_v (.int .i64 0) (dv_assign C) ?_
       refine lw_nil ?_
       refine rk_block ?_
       refine rk_loop (fun dm_ fr wl => ∃ (k : Nat) (M : List Int) (cy : Int), dm_ = ys.length - k ∧ fr 2 = .pointer (some ⟨b1, 0, none⟩) ∧ fr 3 = .pointer (some ⟨b6, 0, none⟩) ∧ fr 4 = .pointer (some ⟨b11, 0, none⟩) ∧ fr 5 = .slice (some ⟨b28, 0, none⟩) (((la) + (lb))) (((la) + (lb))) ∧ fr 6 = .int .i64 ((i : Int)) ∧ fr 7 = .int .u64 cy ∧ fr 8 = .int .i64 ((k : Int)) ∧ fr 28 = .int .i64 ((i : Int)) ∧ fr 29 = .pointer (some ⟨b1, 1, none⟩) ∧ fr 30 = .slice Aa la ca ∧ fr 31 = .int .i64 ((la : Int)) ∧ fr 32 = .bool (decide (((i : Int)) < ((la : Int)))) ∧ Below w.heap.size w wl ∧ wl.heap[b1]? = some (.cells #[.bool na, .slice Aa la ca] 58) ∧ wl.heap[b6]? = some (.cells #[.bool nb, .slice Ab lb cb] 58) ∧ wl.heap[b11]? = some (.cells #[.bool false, .slice none 0 0] 58) ∧ wl.heap[b28]? = some (.cells (M.map (Value.int .u32)).toArray 61) ∧ (k ≤ ys.length) ∧ (M.length = xs.length + ys.length) ∧ (okW (2 ^ 32) M) ∧ (0 ≤ cy ∧ cy < 4294967296) ∧ (valB (2 ^ 32) M + cy * (2 ^ 32) ^ (i + k) = valB (2 ^ 32) (xs.take i) * valB (2 ^ 32) ys + xs.getD i 0 * valB (2 ^ 32) (ys.take k) * (2 ^ 32) ^ i) ∧ (∀ q, i + ys.length ≤ q → M.getD q 0 = 0)) (ys.length - 0) ⟨0, L, 0, rfl, f41, f42, f43, f44, f45, rfl, (vi (by omega)), rfl, rfl, rfl, rfl, rfl, E46, H47, H48, H49, H50, (Nat.zero_le _), hl, hok, (by decide), (mul_start hv), hL0⟩ ?_
       intro d57 fr56 w53 hI54 ih55
       obtain ⟨k, M, cy, hd75, f58, f59, f60, f61, f62, f63, f64, f65, f66, f67, f68, f69, E70, H71, H72, H73, H74, hk, hMl, hok2, hcy, hM, hM0⟩ := hI54
       have bys := okW.getD oy (by decide) k
       have bMk := okW.getD hok2 (by decide) (i + k)
       refine rk_seq ?_
       refine rk_seq ?_
       refine rk_reg ?_
       refine lw_v (.int .i64 ((k : Int))) (dv_move (T rfl f64)) ?_
       refine lw_v (.pointer (some ⟨b6, 1, none⟩)) (dv_fieldAddr (a := ⟨b6, 0, none⟩) (a' := ⟨b6, 1, none⟩) fo58_1 (T rfl f59) rfl) ?_
       refine lw_v (.slice Ab lb cb) (dv_load1 (b := b6) (o := 1) agt56 (T rfl rfl) H72 rfl) ?_
       refine lw_v (.int .i64 ((lb : Int))) (dv_len (ad := Ab) (l := lb) (c := cb) us56 (T rfl rfl)) ?_
       refine lw_v (.bool (decide (((k : Int)) < ((lb : Int))))) (dv_lss (a := (k : Int)) (b := (lb : Int)) (T rfl rfl) (T rfl rfl)) ?_
       refine lw_nil ?_
       by_cases hb76 : ((k : Int)) < ((lb : Int))
       · refine rk_ct (T rfl (congrArg Value.bool (decide_eq_true hb76))) ?_
         refine rk_skip ?_
         refine rk_seq ?_
         refine rk_block ?_
         refine rk_seq ?_
         have h77 := (hxw.ext E70)
         have h78 := (hyw.ext E70)
         refine rk_any (fun w => w.heap[b1]? = some (.cells #[.bool na, .slice Aa la ca] 58) ∧ Wd w 61 .u32 Aa xs ∧ w.heap[b6]? = some (.cells #[.bool nb, .slice Ab lb cb] 58) ∧ Wd w 61 .u32 Ab ys ∧ w.heap[b28]? = some (.cells (M.map (Value.int .u32)).toArray 61)) [23] mo ?_
         intro w79 d80
         have E81 := below_ext E70 E70.size d80.ext
         have H82 := (d80.ext.blk H71)
         have h83 := (h77.ext d80.ext)
         have H84 := (d80.ext.blk H72)
         have h85 := (h78.ext d80.ext)
         have H86 := (d80.ext.blk H74)
         refine aw_pure 0 (.int .u64 cy) rfl (by kernel_rfl) .none ⟨H82, h83, H84, h85, H86⟩ (fun _ => dv_move (T rfl f63)) ?_
         refine aw_pure 1 (.pointer (some ⟨b1, 1, none⟩)) rfl (by kernel_rfl) .none ⟨H82, h83, H84, h85, H86⟩ (fun _ => dv_fieldAddr (a := ⟨b1, 0, none⟩) (a' := ⟨b1, 1, none⟩) fo58_1 (T rfl f58) rfl) ?_
         refine aw_load 2 (.slice Aa la ca) rfl (by kernel_rfl) .none ⟨H82, h83, H84, h85, H86⟩ (fun _ s => dv_load1 (b := b1) (o := 1) agt56 (T rfl rfl) s.1 rfl) ?_
         refine aw_pure 3 (.int .i64 ((i : Int))) rfl (by kernel_rfl) .none ⟨H82, h83, H84, h85, H86⟩ (fun _ => dv_move (T rfl f62)) ?_
         obtain ⟨g87, o88, rfl⟩ := Wd.at h83 (by first | omega | (simp; done) | (simp; omega))
         refine aw_pure 4 (.pointer (some ⟨g87, o88 + i, none⟩)) rfl (by kernel_rfl) .none ⟨H82, h83, H84, h85, H86⟩ (fun _ => dv_indexW (g := g87) (o := o88) (l := la) (c := ca) (i := i) (j := (i : Int)) us56 sz61 (T rfl rfl) (T rfl rfl) (by omega) (by first | omega | (simp; done) | (simp; omega))) ?_
         refine aw_load 5 (.int .u32 (xs.getD i 0)) rfl (by kernel_rfl) .none ⟨H82, h83, H84, h85, H86⟩ (fun _ s => dv_load agt61 (T rfl rfl) (Wd.cell s.2.1 (by first | omega | (simp; done) | (simp; omega)))) ?_
         refine aw_pure 6 (.int .u64 (xs.getD i 0)) rfl (by kernel_rfl) .none ⟨H82, h83, H84, h85, H86⟩ (fun _ => dv_conv (a := xs.getD i 0) (z := xs.getD i 0) ui61 ui86 (T rfl rfl) (wn_u64 (by omega) (by omega))) ?_
         refine aw_pure 7 (.pointer (some ⟨b6, 1, none⟩)) rfl (by kernel_rfl) .none ⟨H82, h83, H84, h85, H86⟩ (fun _ => dv_fieldAddr (a := ⟨b6, 0, none⟩) (a' := ⟨b6, 1, none⟩) fo58_1 (T rfl f59) rfl) ?_
         refine aw_load 8 (.slice Ab lb cb) rfl (by kernel_rfl) .none ⟨H82, h83, H84, h85, H86⟩ (fun _ s => dv_load1 (b := b6) (o := 1) agt56 (T rfl rfl) s.2.2.1 rfl) ?_
         refine aw_pure 9 (.int .i64 ((k : Int))) rfl (by kernel_rfl) .none ⟨H82, h83, H84, h85, H86⟩ (fun _ => dv_move (T rfl f64)) ?_
         obtain ⟨g89, o90, rfl⟩ := Wd.at h85 (by first | omega | (simp; done) | (simp; omega))
         refine aw_pure 10 (.pointer (some ⟨g89, o90 + k, none⟩)) rfl (by kernel_rfl) .none ⟨H82, h83, H84, h85, H86⟩ (fun _ => dv_indexW (g := g89) (o := o90) (l := lb) (c := cb) (i := k) (j := (k : Int)) us56 sz61 (T rfl rfl) (T rfl rfl) (by omega) (by first | omega | (simp; done) | (simp; omega))) ?_
         refine aw_load 11 (.int .u32 (ys.getD k 0)) rfl (by kernel_rfl) .none ⟨H82, h83, H84, h85, H86⟩ (fun _ s => dv_load agt61 (T rfl rfl) (Wd.cell s.2.2.2.1 (by first | omega | (simp; done) | (simp; omega)))) ?_
         refine aw_pure 12 (.int .u64 (ys.getD k 0)) rfl (by kernel_rfl) .none ⟨H82, h83, H84, h85, H86⟩ (fun _ => dv_conv (a := ys.getD k 0) (z := ys.getD k 0) ui61 ui86 (T rfl rfl) (wn_u64 (by omega) (by omega))) ?_
         have hm91 := mul_pos_bd (A := 4294967295) (show 0 ≤ (xs.getD i 0) by omega) (by omega) (show 0 ≤ (ys.getD k 0) by omega) (by omega)
         refine aw_pure 13 (.int .u64 ((xs.getD i 0) * (ys.getD k 0))) rfl (by kernel_rfl) .none ⟨H82, h83, H84, h85, H86⟩ (fun _ => dv_mul (a := xs.getD i 0) (b := ys.getD k 0) (z := (xs.getD i 0) * (ys.getD k 0)) (T rfl rfl) (T rfl rfl) (wn_u64 (by omega) (by omega))) ?_
         refine aw_pure 14 (.int .u64 (cy + ((xs.getD i 0) * (ys.getD k 0)))) rfl (by kernel_rfl) .none ⟨H82, h83, H84, h85, H86⟩ (fun _ => dv_add (a := cy) (b := (xs.getD i 0) * (ys.getD k 0)) (z := cy + ((xs.getD i 0) * (ys.getD k 0))) (T rfl rfl) (T rfl rfl) (wn_u64 (by omega) (by omega))) ?_
         refine aw_pure 15 (.slice (some ⟨b28, 0, none⟩) (((la) + (lb))) (((la) + (lb)))) rfl (by kernel_rfl) .none ⟨H82, h83, H84, h85, H86⟩ (fun _ => dv_move (T rfl f61)) ?_
         refine aw_pure 16 (.int .i64 ((i : Int))) rfl (by kernel_rfl) .none ⟨H82, h83, H84, h85, H86⟩ (fun _ => dv_move (T rfl f62)) ?_
         refine aw_pure 17 (.int .i64 ((k : Int))) rfl (by kernel_rfl) .none ⟨H82, h83, H84, h85, H86⟩ (fun _ => dv_move (T rfl f64)) ?_
         refine aw_pure 18 (.int .i64 (((i : Int)) + ((k : Int)))) rfl (by kernel_rfl) .none ⟨H82, h83, H84, h85, H86⟩ (fun _ => dv_add (a := (i : Int)) (b := (k : Int)) (z := ((i : Int)) + ((k : Int))) (T rfl rfl) (T rfl rfl) (wr_i64 (by omega) (by omega))) ?_
         refine aw_pure 19 (.pointer (some ⟨b28, (((i) + (k))), none⟩)) rfl (by kernel_rfl) .none ⟨H82, h83, H84, h85, H86⟩ (fun _ => dv_indexO (g := b28) (l := ((la) + (lb))) (c := ((la) + (lb))) (i := ((i) + (k))) (j := ((i : Int)) + ((k : Int))) us56 sz61 (T rfl rfl) (T rfl rfl) (by omega) (by first | omega | (simp; done) | (simp; omega))) ?_
         refine aw_load 20 (.int .u32 (M.getD (((i) + (k))) 0)) rfl (by kernel_rfl) .none ⟨H82, h83, H84, h85, H86⟩ (fun _ s => dv_loadW (L := M) (v := M.getD (((i) + (k))) 0) agt61 (T rfl rfl) s.2.2.2.2 (by first | omega | (simp; done) | (simp; omega)) rfl) ?_
         refine aw_pure 21 (.int .u64 (M.getD (((i) + (k))) 0)) rfl (by kernel_rfl) .none ⟨H82, h83, H84, h85, H86⟩ (fun _ => dv_conv (a := M.getD (((i) + (k))) 0) (z := M.getD (((i) + (k))) 0) ui61 ui86 (T rfl rfl) (wn_u64 (by omega) (by omega))) ?_
         refine aw_pure 22 (.int .u64 ((cy + ((xs.getD i 0) * (ys.getD k 0))) + (M.getD (((i) + (k))) 0))) rfl (by kernel_rfl) .none ⟨H82, h83, H84, h85, H86⟩ (fun _ => dv_add (a := cy + ((xs.getD i 0) * (ys.getD k 0))) (b := M.getD (((i) + (k))) 0) (z := (cy + ((xs.getD i 0) * (ys.getD k 0))) + (M.getD (((i) + (k))) 0)) (T rfl rfl) (T rfl rfl) (wn_u64 (by omega) (by omega))) ?_
         refine aw_last 23 (.int .u64 ((cy + ((xs.getD i 0) * (ys.getD k 0))) + (M.getD (((i) + (k))) 0))) rfl (by kernel_rfl) .none (fun _ => dv_assign (T rfl rfl)) ?_
         refine aw_done (by kernel_rfl) ?_
         refine rk_seq ?_
         refine rk_reg ?_
         refine lw_v (.slice (some ⟨b28, 0, none⟩) (((la) + (lb))) (((la) + (lb)))) (dv_move (T rfl f61)) ?_
         refine lw_v (.int .i64 ((i : Int))) (dv_move (T rfl f62)) ?_
         refine lw_v (.int .i64 ((k : Int))) (dv_move (T rfl f64)) ?_
         refine lw_v (.int .i64 (((i : Int)) + ((k : Int)))) (dv_add (a := (i : Int)) (b := (k : Int)) (z := ((i : Int)) + ((k : Int))) (T rfl rfl) (T rfl rfl) (wr_i64 (by omega) (by omega))) ?_
         refine lw_v (.int .u64 ((cy + ((xs.getD i 0) * (ys.getD k 0))) + (M.getD (((i) + (k))) 0))) (dv_move (T rfl rfl)) ?_
         refine lw_v (.int .u32 (((cy + ((xs.getD i 0) * (ys.getD k 0))) + (M.getD (((i) + (k))) 0)) % 4294967296)) (dv_conv (a := (cy + ((xs.getD i 0) * (ys.getD k 0))) + (M.getD (((i) + (k))) 0)) (z := ((cy + ((xs.getD i 0) * (ys.getD k 0))) + (M.getD (((i) + (k))) 0)) % 4294967296) ui86 ui61 (T rfl rfl) (wr_u32 _)) ?_
         refine lw_v (.pointer (some ⟨b28, (((i) + (k))), none⟩)) (dv_indexO (g := b28) (l := ((la) + (lb))) (c := ((la) + (lb))) (i := ((i) + (k))) (j := ((i : Int)) + ((k : Int))) us56 sz61 (T rfl rfl) (T rfl rfl) (by omega) (by first | omega | (simp; done) | (simp; omega))) ?_
         refine lw_e (oe_storeW (L := M) (i := ((i) + (k))) (z := ((cy + ((xs.getD i 0) * (ys.getD k 0))) + (M.getD (((i) + (k))) 0)) % 4294967296) sz61 (T rfl rfl) (T rfl rfl) H86 (by first | omega | (simp; done) | (simp; omega)) ?_)
         intro w92 s93 H94
         have E95 := below_st E81 N31 s93
         refine lw_nil ?_
         refine rk_reg ?_
         refine lw_v (.int .u64 ((cy + ((xs.getD i 0) * (ys.getD k 0))) + (M.getD (((i) + (k))) 0))) (dv_move (T rfl rfl)) ?_
         refine lw_v (.int .u64 (((cy + ((xs.getD i 0) * (ys.getD k 0))) + (M.getD (((i) + (k))) 0)) / 4294967296)) (dv_shr (a := (cy + ((xs.getD i 0) * (ys.getD k 0))) + (M.getD (((i) + (k))) 0)) (b := 32) (z := ((cy + ((xs.getD i 0) * (ys.getD k 0))) + (M.getD (((i) + (k))) 0)) / 4294967296) (T rfl rfl) C (by decide) (shr_c (n := 32) (by omega) (by decide))) ?_
         refine lw_v (.int .u64 (((cy + ((xs.getD i 0) * (ys.getD k 0))) + (M.getD (((i) + (k))) 0)) / 4294967296)) (dv_assign (T rfl rfl)) ?_
         refine lw_nil ?_
         refine rk_inBlock ?_
         refine rk_reg ?_
         refine lw_v (.int .i64 ((k : Int))) (dv_move (T rfl f64)) ?_
         refine lw_v (.int .i64 (((k : Int)) + 1)) (dv_add (a := (k : Int)) (b := 1) (z := ((k : Int)) + 1) (T rfl rfl) C (wr_i64 (by omega) (by omega))) ?_
         refine lw_v (.int .i64 (((k : Int)) + 1)) (dv_assign (T rfl rfl)) ?_
         refine lw_nil ?_
         have H96 := (s93.blk H82 (by omega))
         have H97 := (s93.blk H84 (by omega))
         have H98 := (s93.blk (d80.ext.blk H73) (by omega))
         exact ih55 (ys.length - ((k + 1))) _ _ (by rw [hd75]; omega) ⟨(k + 1), (M.set (((i) + (k))) (((cy + ((xs.getD i 0) * (ys.getD k 0))) + (M.getD (((i) + (k))) 0)) % 4294967296)), (((cy + ((xs.getD i 0) * (ys.getD k 0))) + (M.getD (((i) + (k))) 0)) / 4294967296), rfl, f58, f59, f60, f61, f62, rfl, (vi (by omega)), f65, f66, f67, f68, f69, E95, H96, H97, H98, H94, (by omega), (by simp; omega), (okW.set hok2 (by omega) (by omega) _), (by omega), (mul_step (by omega) hM rfl rfl (by omega)), (zero_set hM0 (by omega))⟩
       · refine rk_cf (T rfl (congrArg Value.bool (decide_eq_false hb76))) ?_
         refine rk_exit rfl ?_
         refine rk_reg ?_
         refine lw_v (.slice (some ⟨b28, 0, none⟩) (((la) + (lb))) (((la) + (lb)))) (dv_move (T rfl f61)) ?_
         refine lw_v (.int .i64 ((i : Int))) (dv_move (T rfl f62)) ?_
         refine lw_v (.pointer (some ⟨b6, 1, none⟩)) (dv_fieldAddr (a := ⟨b6, 0, none⟩) (a' := ⟨b6, 1, none⟩) fo58_1 (T rfl f59) rfl) ?_
         refine lw_v (.slice Ab lb cb) (dv_load1 (b := b6) (o := 1) agt56 (T rfl rfl) H72 rfl) ?_
         refine lw_v (.int .i64 ((lb : Int))) (dv_len (ad := Ab) (l := lb) (c := cb) us56 (T rfl rfl)) ?_
         refine lw_v (.int .i64 (((i : Int)) + ((lb : Int)))) (dv_add (a := (i : Int)) (b := (lb : Int)) (z := ((i : Int)) + ((lb : Int))) (T rfl rfl) (T rfl rfl) (wr_i64 (by omega) (by omega))) ?_
         refine lw_v (.int .u64 cy) (dv_move (T rfl f63)) ?_
         refine lw_v (.int .u32 ((cy) % 4294967296)) (dv_conv (a := cy) (z := (cy) % 4294967296) ui86 ui61 (T rfl rfl) (wr_u32 _)) ?_
         refine lw_v (.pointer (some ⟨b28, (((i) + (lb))), none⟩)) (dv_indexO (g := b28) (l := ((la) + (lb))) (c := ((la) + (lb))) (i := ((i) + (lb))) (j := ((i : Int)) + ((lb : Int))) us56 sz61 (T rfl rfl) (T rfl rfl) (by omega) (by first | omega | (simp; done) | (simp; omega))) ?_
         refine lw_e (oe_storeW (L := M) (i := ((i) + (lb))) (z := (cy) % 4294967296) sz61 (T rfl rfl) (T rfl rfl) H74 (by first | omega | (simp; done) | (simp; omega)) ?_)
         intro w99 s100 H101
         have E102 := below_st E70 N31 s100
         refine lw_nil ?_
         refine rk_inBlock ?_
         refine rk_reg ?_
         refine lw_v (.int .i64 ((i : Int))) (dv_move (T rfl f62)) ?_
         refine lw_v (.int .i64 (((i : Int)) + 1)) (dv_add (a := (i : Int)) (b := 1) (z := ((i : Int)) + 1) (T rfl rfl) C (wr_i64 (by omega) (by omega))) ?_
         refine lw_v (.int .i64 (((i : Int)) + 1)) (dv_assign (T rfl rfl)) ?_
         refine lw_nil ?_
         have H103 := (s100.blk H71 (by omega))
         have H104 := (s100.blk H72 (by omega))
         have H105 := (s100.blk H73 (by omega))
         exact ih38 (xs.length - ((i + 1))) _ _ (by rw [hd51]; omega) ⟨(i + 1), (M.set (((i) + (lb))) ((cy) % 4294967296)), rfl, f58, f59, f60, f61, (vi (by omega)), E102, H103, H104, H105, H101, (by omega), (by simp; omega), (okW.set hok2 (by omega) (by omega) _), (by have hk : k = ys.length := (by omega); subst hk; rw [← hyl]; rw [Int.emod_eq_of_lt hcy.1 hcy.2]; exact mul_last (by omega) (hM0 _ (by omega)) hM), (by rw [← hyl]; intro q hq; exact zero_set1 hM0 q (by omega))⟩
     · refine rk_cf (T rfl (congrArg Value.bool (decide_eq_false hb52))) ?_
       refine rk_exit rfl ?_
       refine rk_seq ?_
       refine rk_reg ?_
       refine lw_v (.pointer (some ⟨b1, 0, none⟩)) (dv_fieldAddr (a := ⟨b1, 0, none⟩) (a' := ⟨b1, 0, none⟩) fo58_0 (T rfl f41) rfl) ?_
       refine lw_v (.bool na) (dv_load1 (b := b1) (o := 0) agt4 (T rfl rfl) H47 rfl) ?_
       refine lw_v (.pointer (some ⟨b6, 0, none⟩)) (dv_fieldAddr (a := ⟨b6, 0, none⟩) (a' := ⟨b6, 0, none⟩) fo58_0 (T rfl f42) rfl) ?_
       refine lw_v (.bool nb) (dv_load1 (b := b6) (o := 0) agt4 (T rfl rfl) H48 rfl) ?_
       refine lw_v (.bool (na != nb)) (dv_neqb (a := na) (b := nb) ub4 (T rfl rfl) (T rfl rfl)) ?_
       refine lw_v (.slice (some ⟨b28, 0, none⟩) (((la) + (lb))) (((la) + (lb)))) (dv_move (T rfl f44)) ?_
       refine lw_e (oe_callf (vs := [.bool (na != nb), .slice (some ⟨b28, 0, none⟩) (((la) + (lb))) (((la) + (lb)))]) co51 (ar2 (T rfl rfl) (T rfl rfl)) (l1Trim_num (s := (32 * (((la) + (lb))))) (neg := na != nb) (⟨L, (by first | (simp; done) | (simp; omega) | omega), (by first | (simp; done) | (simp; omega) | omega), Wd.ownW H50, hok, rfl⟩ : Ws _ _ _ _ _ _ _ _) (by first | omega | (simp; done) | (simp; omega)) (valB_sz hok (by first | (simp; done) | (simp; omega) | omega))) ?_)
       rintro _ w111 ⟨nb106, A107, n108, c109, rfl, e112, hn110⟩
       have E113 := below_ext E46 E46.size e112
       have lhn110 := Num.len (by decide) hn110
       have H114 := (e112.blk H49)
       refine lw_e (oe_store (v := .agg #[.bool nb106, .slice A107 n108 c109]) (vs := [.bool nb106, .slice A107 n108 c109]) (l := [.bool nb106, .slice A107 n108 c109]) (T rfl f43) (T rfl rfl) sz58 rfl rfl rfl H114 rfl ?_)
       intro w115 s116 H117
       have E118 := below_st E113 N14 s116
       refine lw_nil ?_
       refine rk_ret Tryd.func43 (v := .agg #[.bool nb106, .slice A107 n108 c109]) (res1 Tryd.results43 (rv_cells (l := [.bool nb106, .slice A107 n108 c109]) agt58 sz58 rfl f43 H117 rfl)) ⟨_, rfl, ?_⟩
       have h119 := (hn110.st s116 H114 (by decide))
       exact ⟨_, _, _, _, rfl, E118, h119.tight (by rw [hv, List.take_of_length_le (by omega), ← hxv, ← hyv]; exact sg_mul ha.neg_iff hb.neg_iff) (by rw [Int.natAbs_mul]; exact nat_mul_sz ha.lt hb.lt)⟩
end Go.Proofs.YtmbpomcbdopgnaaDoor.W
set_option linter.unusedVariables false
set_option linter.unusedSimpArgs false
namespace Go.Proofs.YtmbpomcbdopgnaaDoor.W
open Go Go.RowKit Go.Proofs.YtmbpomcbdopgnaaDoor.Fw
attribute [local irreducible] RunK LW AW DV OE Ct
theorem fb58_1 : fieldB Tryd.prog 58 1 = some (1, 56) := by kernel_rfl
theorem sz5 : sizeB Tryd.prog 5 = some 1 := by kernel_rfl
theorem ui5 : Tryd.prog.underlying 5 = some (.int .u8) := by kernel_rfl
theorem us73 : Tryd.prog.underlying 73 = some (.slice 5) := by kernel_rfl
theorem ut9 : Tryd.prog.underlying 9 = some .string := by kernel_rfl
theorem zc5 : zcB Tryd.prog 5 = some [.int .u8 0] := by kernel_rfl
set_option maxHeartbeats 1000000 in
theorem l1Text_ok {w : World} {na : Bool} {Aa : Option Addr} {la ca : Nat} {x : Int} {sx : Nat} (ha : Num 32 61 .u32 w na Aa la ca x sx) (hs : sx ≤ 100000) : Ct Tryd.prog 35 [.agg #[.bool na, .slice Aa la ca]] w fun v w1 => v = .string (bOf (txtL x)) ∧ Ext w w1 := by
 refine ct_run (n := 58) Tryd.func35 rfl Tryd.ntmps35 rfl ?_
 have E0 : Below w.heap.size w w := Below.refl _ _
 have lha := Num.len (by decide) ha
 have hDs := dg_bits ha.lt
 refine rk_seq ?_
 refine rk_reg ?_
 refine lw_e (oe_box (v := .agg #[.bool na, .slice Aa la ca]) (cs := #[.bool na, .slice Aa la ca]) (T rfl rfl) rfl ?_)
 intro b1 w2 n3
 have N4 : w.heap.size ≤ b1 := n3.eq ▸ E0.size
 have E5 := below_ext E0 E0.size n3.ext
 refine lw_v (.string (bOf [])) (dv_assign C) ?_
 refine lw_nil ?_
 refine rk_seq ?_
 refine rk_seq ?_
 refine rk_reg ?_
 refine lw_v (.pointer (some ⟨b1, 1, none⟩)) (dv_fieldAddr (a := ⟨b1, 0, none⟩) (a' := ⟨b1, 1, none⟩) fo58_1 (T rfl rfl) rfl) ?_
 refine lw_v (.slice Aa la ca) (dv_load1 (b := b1) (o := 1) agt56 (T rfl rfl) n3.blk rfl) ?_
 refine lw_v (.int .i64 ((la : Int))) (dv_len (ad := Aa) (l := la) (c := ca) us56 (T rfl rfl)) ?_
 refine lw_v (.bool (decide (((la : Int)) = 0))) (dv_eql (a := (la : Int)) (b := 0) (T rfl rfl) C) ?_
 refine lw_nil ?_
 by_cases hb6 : ((la : Int)) = 0
 · refine rk_ct (T rfl (congrArg Value.bool (decide_eq_true hb6))) ?_
   refine rk_seq ?_
   refine rk_reg ?_
   refine lw_v (.string (bOf [48])) (dv_assign C) ?_
   refine lw_nil ?_
   refine rk_ret Tryd.func35 (v := .string (bOf [48])) (res1 Tryd.results35 (rv_tmp rfl rfl)) ⟨_, rfl, ?_⟩
   have hp0 := ha.wc.pos
   have hneg := ha.neg_iff
   exact ⟨congrArg (fun l => Value.string (bOf l)) (by have h0 : x = 0 := (by omega); rw [h0]; rfl), E5⟩
 · refine rk_cf (T rfl (congrArg Value.bool (decide_eq_false hb6))) ?_
   refine rk_skip ?_
   refine rk_seq ?_
   refine rk_reg ?_
   refine lw_v (.string (bOf [])) (dv_assign C) ?_
   refine lw_nil ?_
   refine rk_seq ?_
   refine rk_reg ?_
   refine lw_v (.pointer (some ⟨b1, 1, none⟩)) (dv_fieldAddr (a := ⟨b1, 0, none⟩) (a' := ⟨b1, 1, none⟩) fo58_1 (T rfl rfl) rfl) ?_
   refine lw_v (.slice Aa la ca) (dv_load1 (b := b1) (o := 1) agt56 (T rfl rfl) n3.blk rfl) ?_
   refine lw_v (.slice Aa la ca) (dv_assign (T rfl rfl)) ?_
   refine lw_nil ?_
   refine rk_seq ?_
   refine rk_block ?_
   have h7 := (ha.ext n3.ext)
   refine rk_loop (fun dm_ fr wl => ∃ (Ax : Option Addr) (lx cx : Nat) (X : Int) (M : List Int), dm_ = X.toNat ∧ fr 1 = .pointer (some ⟨b1, 0, none⟩) ∧ fr 2 = .string (bOf []) ∧ fr 3 = .string (bOf M) ∧ fr 4 = .slice Ax lx cx ∧ Below w.heap.size w wl ∧ wl.heap[b1]? = some (.cells #[.bool na, .slice Aa la ca] 58) ∧ Wc 32 61 .u32 wl Ax lx cx X ∧ ((dg X.toNat).reverse ++ M = (dg x.natAbs).reverse) ∧ (X < 2 ^ sx)) ((((x.natAbs : Int))).toNat) ⟨Aa, la, ca, ((x.natAbs : Int)), [], rfl, rfl, rfl, rfl, rfl, E5, n3.blk, h7.wc, (by simp), h7.ltI⟩ ?_
   intro d12 fr11 w8 hI9 ih10
   obtain ⟨Ax, lx, cx, X, M, hd20, f13, f14, f15, f16, E17, H18, h19, hM, hXs⟩ := hI9
   have hXp := h19.pos
   have hXn := h19.nonneg
   have hlx := Wc.len (by decide) h19 hXs
   have hMl := congrArg List.length hM
   simp only [List.length_append, List.length_reverse] at hMl
   obtain ⟨xs, hxl, hxc, hxw, ox, hxk, hxv⟩ := id h19
   refine rk_seq ?_
   refine rk_seq ?_
   refine rk_reg ?_
   refine lw_v (.slice Ax lx cx) (dv_move (T rfl f16)) ?_
   refine lw_v (.int .i64 ((lx : Int))) (dv_len (ad := Ax) (l := lx) (c := cx) us56 (T rfl rfl)) ?_
   refine lw_v (.bool (decide (0 < ((lx : Int))))) (dv_gtr (a := (lx : Int)) (b := 0) (T rfl rfl) C) ?_
   refine lw_nil ?_
   by_cases hb21 : 0 < ((lx : Int))
   · refine rk_ct (T rfl (congrArg Value.bool (decide_eq_true hb21))) ?_
     refine rk_skip ?_
     refine rk_block ?_
     refine rk_seq ?_
     refine rk_reg ?_
     refine lw_v (.slice Ax lx cx) (dv_move (T rfl f16)) ?_
     refine lw_v (.int .i64 ((lx : Int))) (dv_len (ad := Ax) (l := lx) (c := cx) us56 (T rfl rfl)) ?_
     refine lw_e (oe_makeW (l := lx) (j := (lx : Int)) us56 in61 (T rfl rfl) (T rfl rfl) (by omega) (by first | omega | (simp; done) | (simp; omega)) (by first | omega | (simp; done) | (simp; omega)) ?_)
     intro b22 w23 n24
     have N25 : w.heap.size ≤ b22 := n24.eq ▸ E17.size
     have : b1 < b22 := n24.eq ▸ lt_of_blk H18
     have E26 := below_ext E17 E17.size n24.ext
     refine lw_v (.slice (some ⟨b22, 0, none⟩) lx lx) (dv_assign (T rfl rfl)) ?_
     refine lw_nil ?_
     refine rk_seq ?_
     refine rk_reg ?_
     refine lw_v (.int .u64 0) (dv_assign C) ?_
     refine lw_nil ?_
     refine rk_seq ?_
     refine rk_seq ?_
     refine rk_reg ?_
     refine lw_v (.slice Ax lx cx) (dv_move (T rfl f16)) ?_
     refine lw_v (.int .i64 ((lx : Int))) (dv_len (ad := Ax) (l := lx) (c := cx) us56 (T rfl rfl)) ?_
     refine lw_v (.int .i64 (((lx : Int)) - 1)) (dv_sub (a := (lx : Int)) (b := 1) (z := ((lx : Int)) - 1) (T rfl rfl) C (wr_i64 (by omega) (by omega))) ?_
     refine lw_v (.int .i64 (((lx : Int)) - 1)) (dv_assign (T rfl rfl)) ?_
     refine lw_nil ?_
     refine rk_block ?_
     have hE27 : Below w8.heap.size w8 _ := below_ext (Below.refl _ _) (Nat.le_refl _) n24.ext
     have hb5 : w8.heap.size ≤ b22 := by have := n24.eq; omega
     have H28 := (n24.ext.blk H18)
     refine rk_loop (fun dm_ fr wl => ∃ (j : Nat) (L : List Int) (r : Int), dm_ = j ∧ fr 1 = .pointer (some ⟨b1, 0, none⟩) ∧ fr 2 = .string (bOf []) ∧ fr 3 = .string (bOf M) ∧ fr 4 = .slice Ax lx cx ∧ fr 5 = .slice (some ⟨b22, 0, none⟩) lx lx ∧ fr 6 = .int .u64 r ∧ fr 7 = .int .i64 ((j : Int) - 1) ∧ fr 14 = .slice Ax lx cx ∧ fr 15 = .int .i64 ((lx : Int)) ∧ fr 16 = .bool (decide (0 < ((lx : Int)))) ∧ fr 17 = .slice Ax lx cx ∧ fr 18 = .int .i64 ((lx : Int)) ∧ fr 19 = .slice (some ⟨b22, 0, none⟩) lx lx ∧ fr 20 = .slice Ax lx cx ∧ fr 21 = .int .i64 ((lx : Int)) ∧ fr 22 = .int .i64 (((lx : Int)) - 1) ∧ Below w.heap.size w wl ∧ wl.heap[b1]? = some (.cells #[.bool na, .slice Aa la ca] 58) ∧ wl.heap[b22]? = some (.cells (L.map (Value.int .u32)).toArray 61) ∧ (j ≤ lx) ∧ (L.length = lx) ∧ (okW (2 ^ 32) L) ∧ (valB (2 ^ 32) (L.drop j) = valB (2 ^ 32) (xs.drop j) / 10) ∧ (r = valB (2 ^ 32) (xs.drop j) % 10) ∧ (Below w8.heap.size w8 wl)) (lx) ⟨lx, (List.replicate lx (0 : Int)), 0, rfl, f13, f14, f15, f16, rfl, rfl, (vi (by omega)), rfl, rfl, rfl, rfl, rfl, rfl, rfl, rfl, rfl, E26, H28, n24.blk, (Nat.le_refl _), (by simp), (okW.replicate (by decide) _), (by rw [List.drop_of_length_le (by simp), List.drop_of_length_le (by omega)]; simp [valB]), (by rw [List.drop_of_length_le (by omega)]; simp [valB]), hE27⟩ ?_
     intro d33 fr32 w29 hI30 ih31
     obtain ⟨j, L, r, hd53, f34, f35, f36, f37, f38, f39, f40, f41, f42, f43, f44, f45, f46, f47, f48, f49, E50, H51, H52, hj, hLl, hok, hLv, hrv, hE2⟩ := hI30
     have hwq := hxw.ext hE2
     have gx := okW.getD ox (by decide) (j - 1)
     have hr9 : 0 ≤ r ∧ r < 10 := by omega
     refine rk_seq ?_
     refine rk_seq ?_
     refine rk_reg ?_
     refine lw_v (.int .i64 ((j : Int) - 1)) (dv_move (T rfl f40)) ?_
     refine lw_v (.bool (decide (0 ≤ ((j : Int) - 1)))) (dv_geq (a := (j : Int) - 1) (b := 0) (T rfl rfl) C) ?_
     refine lw_nil ?_
     by_cases hb54 : 0 ≤ ((j : Int) - 1)
     · refine rk_ct (T rfl (congrArg Value.bool (decide_eq_true hb54))) ?_
       refine rk_skip ?_
       refine rk_seq ?_
       refine rk_block ?_
       refine rk_seq ?_
       refine rk_reg ?_
       refine lw_v (.int .u64 r) (dv_move (T rfl f39)) ?_
       refine lw_v (.int .u64 (r * 4294967296)) (dv_shl (a := r) (b := 32) (z := r * 4294967296) (T rfl rfl) C (by decide) (shl_c (m := 4294967296) (n := 32) (by decide) (wn_u64 (by omega) (by omega)))) ?_
       refine lw_v (.slice Ax lx cx) (dv_move (T rfl f37)) ?_
       refine lw_v (.int .i64 ((j : Int) - 1)) (dv_move (T rfl f40)) ?_
       obtain ⟨g55, o56, rfl⟩ := Wd.at hwq (by first | omega | (simp; done) | (simp; omega))
       refine lw_v (.pointer (some ⟨g55, o56 + (j - 1), none⟩)) (dv_indexW (g := g55) (o := o56) (l := lx) (c := cx) (i := (j - 1)) (j := (j : Int) - 1) us56 sz61 (T rfl rfl) (T rfl rfl) (by omega) (by first | omega | (simp; done) | (simp; omega))) ?_
       refine lw_v (.int .u32 (xs.getD ((j - 1)) 0)) (dv_load agt61 (T rfl rfl) (Wd.cell hwq (by first | omega | (simp; done) | (simp; omega)))) ?_
       refine lw_v (.int .u64 (xs.getD ((j - 1)) 0)) (dv_conv (a := xs.getD ((j - 1)) 0) (z := xs.getD ((j - 1)) 0) ui61 ui86 (T rfl rfl) (wn_u64 (by omega) (by omega))) ?_
       refine lw_v (.int .u64 ((xs.getD ((j - 1)) 0) + (r * 4294967296))) (dv_or (a := r * 4294967296) (b := xs.getD ((j - 1)) 0) (z := (xs.getD ((j - 1)) 0) + (r * 4294967296)) (T rfl rfl) (T rfl rfl) (or_add (k := .u64) (a := xs.getD ((j - 1)) 0) (b := r * 4294967296) (i := 32) rfl (by omega) (by omega) (by omega) (by omega) (lt64 (by omega)) (lt64 (by omega))).2) ?_
       refine lw_v (.int .u64 ((xs.getD ((j - 1)) 0) + (r * 4294967296))) (dv_assign (T rfl rfl)) ?_
       refine lw_nil ?_
       refine rk_seq ?_
       refine rk_reg ?_
       refine lw_v (.slice (some ⟨b22, 0, none⟩) lx lx) (dv_move (T rfl f38)) ?_
       refine lw_v (.int .i64 ((j : Int) - 1)) (dv_move (T rfl f40)) ?_
       refine lw_v (.int .u64 ((xs.getD ((j - 1)) 0) + (r * 4294967296))) (dv_move (T rfl rfl)) ?_
       refine lw_v (.int .u64 (((xs.getD ((j - 1)) 0) + (r * 4294967296)) / 10)) (dv_quo (a := (xs.getD ((j - 1)) 0) + (r * 4294967296)) (b := 10) (z := ((xs.getD ((j - 1)) 0) + (r * 4294967296)) / 10) (T rfl rfl) C (by decide) (quo_c (by omega) (by decide) (wn_u64 (by omega) (by omega)))) ?_
       refine lw_v (.int .u32 ((((xs.getD ((j - 1)) 0) + (r * 4294967296)) / 10) % 4294967296)) (dv_conv (a := ((xs.getD ((j - 1)) 0) + (r * 4294967296)) / 10) (z := (((xs.getD ((j - 1)) 0) + (r * 4294967296)) / 10) % 4294967296) ui86 ui61 (T rfl rfl) (wr_u32 _)) ?_
       refine lw_v (.pointer (some ⟨b22, ((j - 1)), none⟩)) (dv_indexO (g := b22) (l := lx) (c := lx) (i := (j - 1)) (j := (j : Int) - 1) us56 sz61 (T rfl rfl) (T rfl rfl) (by omega) (by first | omega | (simp; done) | (simp; omega))) ?_
       refine lw_e (oe_storeW (L := L) (i := (j - 1)) (z := (((xs.getD ((j - 1)) 0) + (r * 4294967296)) / 10) % 4294967296) sz61 (T rfl rfl) (T rfl rfl) H52 (by first | omega | (simp; done) | (simp; omega)) ?_)
       intro w57 s58 H59
       have E60 := below_st E50 N25 s58
       refine lw_nil ?_
       refine rk_reg ?_
       refine lw_v (.int .u64 ((xs.getD ((j - 1)) 0) + (r * 4294967296))) (dv_move (T rfl rfl)) ?_
       refine lw_v (.int .u64 (((xs.getD ((j - 1)) 0) + (r * 4294967296)) % 10)) (dv_rem (a := (xs.getD ((j - 1)) 0) + (r * 4294967296)) (b := 10) (z := ((xs.getD ((j - 1)) 0) + (r * 4294967296)) % 10) (T rfl rfl) C (by decide) (rem_c (by omega) rfl)) ?_
       refine lw_v (.int .u64 (((xs.getD ((j - 1)) 0) + (r * 4294967296)) % 10)) (dv_assign (T rfl rfl)) ?_
       refine lw_nil ?_
       refine rk_inBlock ?_
       refine rk_reg ?_
       refine lw_v (.int .i64 ((j : Int) - 1)) (dv_move (T rfl f40)) ?_
       refine lw_v (.int .i64 (((j : Int) - 1) - 1)) (dv_sub (a := (j : Int) - 1) (b := 1) (z := ((j : Int) - 1) - 1) (T rfl rfl) C (wr_i64 (by omega) (by omega))) ?_
       refine lw_v (.int .i64 (((j : Int) - 1) - 1)) (dv_assign (T rfl rfl)) ?_
       refine lw_nil ?_
       have hq61 : ((xs.getD ((j - 1)) 0) + (r * 4294967296)) / 10 % 4294967296 = ((xs.getD ((j - 1)) 0) + (r * 4294967296)) / 10 := by omega
       have H62 := (s58.blk H51 (by omega))
       exact ih31 (((j - 1))) _ _ (by rw [hd53]; omega) ⟨(j - 1), (L.set ((j - 1)) ((((xs.getD ((j - 1)) 0) + (r * 4294967296)) / 10) % 4294967296)), (((xs.getD ((j - 1)) 0) + (r * 4294967296)) % 10), rfl, f34, f35, f36, f37, f38, rfl, (vi (by omega)), f41, f42, f43, f44, f45, f46, f47, f48, f49, E60, H62, H59, (by omega), (by simp [hLl]), (okW.set hok (by omega) (by omega) _), (by rw [hq61]; exact (ten_step (by omega) (by omega) (by omega) hLv hrv).1), (ten_step (by omega) (by omega) (by omega) hLv hrv).2, (below_st hE2 hb5 s58)⟩
     · refine rk_cf (T rfl (congrArg Value.bool (decide_eq_false hb54))) ?_
       refine rk_exit rfl ?_
       refine rk_seq ?_
       have hj0 : j = 0 := by omega
       have hL0 := hLv
       rw [hj0, List.drop_zero, List.drop_zero, ← hxv] at hL0
       have hr0 := hrv
       rw [hj0, List.drop_zero, ← hxv] at hr0
       refine rk_reg ?_
       refine lw_v (.int .u64 r) (dv_move (T rfl f39)) ?_
       refine lw_v (.int .u64 (48 + r)) (dv_add (a := 48) (b := r) (z := 48 + r) C (T rfl rfl) (wn_u64 (by omega) (by omega))) ?_
       refine lw_v (.int .u8 ((48 + r) % 256)) (dv_conv (a := 48 + r) (z := (48 + r) % 256) ui86 ui5 (T rfl rfl) (wr_u8 _)) ?_
       refine lw_e (oe_buildSlice (pv := [(0, .int .u8 ((48 + r) % 256))]) (init := [.int .u8 0]) (l := [.int .u8 ((48 + r) % 256)]) us73 sz5 rfl rfl zc5 (by kernel_rfl) ⟨rfl, (T rfl rfl), trivial⟩ rfl ?_)
       intro b63 w64 n65
       have N66 : w.heap.size ≤ b63 := n65.eq ▸ E50.size
       have : b22 < b63 := n65.eq ▸ lt_of_blk H52
       have E67 := below_ext E50 E50.size n65.ext
       refine lw_v (.string (bOf ([(48 + r) % 256]))) (dv_convBS (L := [(48 + r) % 256]) (A := some ⟨b63, 0, none⟩) (l := 1) (c := 1) us73 ui5 ut9 (by exact (T rfl rfl)) (Wd.ownW (xs := [(48 + r) % 256]) n65.blk) (by first | rfl | omega | (simp; done) | (simp; omega))) ?_
       refine lw_v (.string (bOf M)) (dv_move (T rfl f36)) ?_
       refine lw_v (.string (bOf (([(48 + r) % 256]) ++ M))) (dv_addS (L := ([(48 + r) % 256])) (M := M) (T rfl rfl) (T rfl rfl) (by simp; omega)) ?_
       refine lw_v (.string (bOf (([(48 + r) % 256]) ++ M))) (dv_assign (T rfl rfl)) ?_
       refine lw_nil ?_
       refine rk_reg ?_
       refine lw_v (.slice (some ⟨b22, 0, none⟩) lx lx) (dv_move (T rfl f38)) ?_
       have H68 := (n65.ext.blk H52)
       refine lw_e (oe_callf (vs := [.bool false, .slice (some ⟨b22, 0, none⟩) lx lx]) co51 (ar2 C (T rfl rfl)) (l1Trim_num (s := (32 * lx)) (neg := false) (⟨L, (by first | rfl | omega | (simp; done) | (simp; omega)), (by first | rfl | omega | (simp; done) | (simp; omega)), Wd.ownW H68, hok, rfl⟩ : Ws _ _ _ _ _ _ _ _) (by first | omega | (simp; done) | (simp; omega)) (valB_sz hok (by first | rfl | omega | (simp; done) | (simp; omega)))) ?_)
       rintro _ w74 ⟨nb69, A70, n71, c72, rfl, e75, hn73⟩
       have E76 := below_ext E67 E67.size e75
       have lhn73 := Num.len (by decide) hn73
       refine lw_v (.slice A70 n71 c72) (dv_field (v := .slice A70 n71 c72) fb58_1 agt56 (T rfl rfl) rfl) ?_
       refine lw_v (.slice A70 n71 c72) (dv_assign (T rfl rfl)) ?_
       refine lw_nil ?_
       refine rk_inBlock ?_
       have hvn : (0 : Int) ≤ valB (2 ^ 32) L := valB_nonneg (by decide) hok
       have hz77 : ((sg false (valB (2 ^ 32) L)).natAbs : Int) = X / 10 := by simp only [sg_false]; omega
       have H78 := (e75.blk (n65.ext.blk H51))
       exact ih10 (((X / 10)).toNat) _ _ (by rw [hd20]; omega) ⟨A70, n71, c72, (X / 10), ((([(48 + r) % 256]) ++ M)), rfl, f34, f35, rfl, rfl, E76, H78, (Wc.eq hn73.wc hz77), (by have h := txt_step (by omega) hM; rw [show ((48 + r) % 256 : Int) = 48 + X % 10 by omega]; exact h), (by omega)⟩
   · refine rk_cf (T rfl (congrArg Value.bool (decide_eq_false hb21))) ?_
     refine rk_exit rfl ?_
     refine rk_seq ?_
     refine rk_seq ?_
     have hX0 : X = 0 := by omega
     have hM2 := hM
     rw [hX0, show (0 : Int).toNat = 0 from rfl, dg_zero, List.reverse_nil, List.nil_append] at hM2
     refine rk_reg ?_
     refine lw_v (.pointer (some ⟨b1, 0, none⟩)) (dv_fieldAddr (a := ⟨b1, 0, none⟩) (a' := ⟨b1, 0, none⟩) fo58_0 (T rfl f13) rfl) ?_
     refine lw_v (.bool na) (dv_load1 (b := b1) (o := 0) agt4 (T rfl rfl) H18 rfl) ?_
     refine lw_nil ?_
     rcases Bool.eq_false_or_eq_true (na) with hb79 | hb79
     · refine rk_ct (T rfl (congrArg Value.bool hb79)) ?_
       refine rk_seq ?_
       refine rk_reg ?_
       refine lw_v (.string (bOf M)) (dv_move (T rfl f15)) ?_
       refine lw_v (.string (bOf ([45] ++ M))) (dv_addS (L := [45]) (M := M) C (T rfl rfl) (by simp; omega)) ?_
       refine lw_v (.string (bOf ([45] ++ M))) (dv_assign (T rfl rfl)) ?_
       refine lw_nil ?_
       refine rk_ret Tryd.func35 (v := .string (bOf ([45] ++ M))) (res1 Tryd.results35 (rv_tmp rfl rfl)) ⟨_, rfl, ?_⟩
       have hp0 := ha.wc.pos
       have hneg := ha.neg_iff
       exact ⟨congrArg (fun l => Value.string (bOf l)) (by have h1 := txt_top hM2 (by omega); rw [if_pos (hneg.1 (by assumption))] at h1; exact h1), E17⟩
     · refine rk_cf (T rfl (congrArg Value.bool hb79)) ?_
       refine rk_skip ?_
       refine rk_seq ?_
       refine rk_reg ?_
       refine lw_v (.string (bOf M)) (dv_move (T rfl f15)) ?_
       refine lw_v (.string (bOf M)) (dv_assign (T rfl rfl)) ?_
       refine lw_nil ?_
       refine rk_ret Tryd.func35 (v := .string (bOf M)) (res1 Tryd.results35 (rv_tmp rfl rfl)) ⟨_, rfl, ?_⟩
       have hp0 := ha.wc.pos
       have hneg := ha.neg_iff
       exact ⟨congrArg (fun l => Value.string (bOf l)) (by have h1 := txt_top hM2 (by omega); rw [if_neg (fun hh => by have := hneg.2 hh; simp_all)] at h1; exact h1), E17⟩
end Go.Proofs.YtmbpomcbdopgnaaDoor.W
set_option linter.unusedVariables false
set_option linter.unusedSimpArgs false
namespace Go.Proofs.YtmbpomcbdopgnaaDoor.W
open Go Go.RowKit Go.Proofs.YtmbpomcbdopgnaaDoor.Fw
attribute [local irreducible] RunK LW AW DV OE Ct
theorem agt2 : aggB Tryd.prog 2 = some false := by kernel_rfl
theorem agt35 : aggB Tryd.prog 35 = some false := by kernel_rfl
theorem agt37 : aggB Tryd.prog 37 = some true := by kernel_rfl
theorem agt41 : aggB Tryd.prog 41 = some true := by kernel_rfl
theorem co18 : callOk Tryd.prog 18 = true := by kernel_rfl
theorem co32 : callOk Tryd.prog 32 = true := by kernel_rfl
theorem co50 : callOk Tryd.prog 50 = true := by kernel_rfl
theorem fo37_0 : fieldOffB Tryd.prog 37 0 = some 0 := by kernel_rfl
theorem fo41_0 : fieldOffB Tryd.prog 41 0 = some 0 := by kernel_rfl
theorem fo41_1 : fieldOffB Tryd.prog 41 1 = some 1 := by kernel_rfl
theorem in37 : (Tryd.prog.info? 37).map (fun i => (i.zero, i.size, i.bytes)) = some (some (.agg #[.slice none 0 0]), 1, 24) := by kernel_rfl
theorem in41 : (Tryd.prog.info? 41).map (fun i => (i.zero, i.size, i.bytes)) = some (some (.agg #[.int .i64 0, .int .i64 0]), 2, 16) := by kernel_rfl
theorem sz2 : sizeB Tryd.prog 2 = some 1 := by kernel_rfl
theorem sz35 : sizeB Tryd.prog 35 = some 1 := by kernel_rfl
theorem sz37 : sizeB Tryd.prog 37 = some 1 := by kernel_rfl
theorem sz41 : sizeB Tryd.prog 41 = some 2 := by kernel_rfl
theorem us22 : Tryd.prog.underlying 22 = some (.slice 37) := by kernel_rfl
theorem us35 : Tryd.prog.underlying 35 = some (.slice 41) := by kernel_rfl
theorem ze37 : zeroB Tryd.prog 37 = some #[.slice none 0 0] := by kernel_rfl
theorem ze41 : zeroB Tryd.prog 41 = some #[.int .i64 0, .int .i64 0] := by kernel_rfl
set_option maxHeartbeats 1000000 in
theorem l1In_ok {w : World} {n lo hi : Int}   : Ct Tryd.prog 34 [.int .i64 n, .int .i64 lo, .int .i64 hi] w fun v w1 => v = .bool (decide (lo ≤ n ∧ n ≤ hi)) ∧ Ext w w1 := by
 refine ct_run (n := 15) Tryd.func34 rfl Tryd.ntmps34 rfl ?_
 have E0 : Below w.heap.size w w := Below.refl _ _
 refine rk_seq ?_
 refine rk_reg ?_
 refine lw_v (.bool false) (dv_assign C) ?_
 refine lw_nil ?_
 refine rk_seq ?_
 refine rk_reg ?_
 refine lw_v (.int .i64 n) (dv_move (T rfl rfl)) ?_
 refine lw_v (.int .i64 lo) (dv_move (T rfl rfl)) ?_
 refine lw_v (.bool (decide (lo ≤ n))) (dv_geq (a := n) (b := lo) (T rfl rfl) (T rfl rfl)) ?_
 refine lw_v (.bool (decide (lo ≤ n))) (dv_move (T rfl rfl)) ?_
 by_cases hb1 : lo ≤ n
 · refine lw_vy (.int .i64 n) (d := 10) rfl rfl (congrArg Value.bool (decide_eq_true hb1)) (dv_move (T rfl rfl)) ?_
   refine lw_vy (.int .i64 hi) (d := 10) rfl rfl (congrArg Value.bool (decide_eq_true hb1)) (dv_move (T rfl rfl)) ?_
   refine lw_vy (.bool (decide (n ≤ hi))) (d := 10) rfl rfl (congrArg Value.bool (decide_eq_true hb1)) (dv_leq (a := n) (b := hi) (T rfl rfl) (T rfl rfl)) ?_
   refine lw_v (.bool (decide (n ≤ hi))) (dv_pick_t (T rfl (congrArg Value.bool (decide_eq_true hb1))) (T rfl rfl)) ?_
   refine lw_v (.bool (decide (n ≤ hi))) (dv_assign (T rfl rfl)) ?_
   refine lw_nil ?_
   refine rk_ret Tryd.func34 (v := .bool (decide (n ≤ hi))) (res1 Tryd.results34 (rv_tmp rfl rfl)) ⟨_, rfl, ?_⟩
   exact ⟨(vb (by grind)), E0⟩
 · refine lw_no (d := 10) rfl rfl (congrArg Value.bool (decide_eq_false hb1)) ?_
   refine lw_no (d := 10) rfl rfl (congrArg Value.bool (decide_eq_false hb1)) ?_
   refine lw_no (d := 10) rfl rfl (congrArg Value.bool (decide_eq_false hb1)) ?_
   refine lw_v (.bool false) (dv_pick_f (T rfl (congrArg Value.bool (decide_eq_false hb1))) C) ?_
   refine lw_v (.bool false) (dv_assign (T rfl rfl)) ?_
   refine lw_nil ?_
   refine rk_ret Tryd.func34 (v := .bool false) (res1 Tryd.results34 (rv_tmp rfl rfl)) ⟨_, rfl, ?_⟩
   exact ⟨(vf (by grind)), E0⟩
set_option maxHeartbeats 1000000 in
theorem within_ok {w : World} {n lo hi : Int}   : Ct Tryd.prog 26 [.int .i64 n, .int .i64 lo, .int .i64 hi] w fun v w1 => v = .bool (decide (lo ≤ n ∧ n ≤ hi)) ∧ Ext w w1 := by
 refine ct_run (n := 15) Tryd.func26 rfl Tryd.ntmps26 rfl ?_
 have E0 : Below w.heap.size w w := Below.refl _ _
 refine rk_seq ?_
 refine rk_reg ?_
 refine lw_v (.bool false) (dv_assign C) ?_
 refine lw_nil ?_
 refine rk_seq ?_
 refine rk_reg ?_
 refine lw_v (.int .i64 lo) (dv_move (T rfl rfl)) ?_
 refine lw_v (.int .i64 n) (dv_move (T rfl rfl)) ?_
 refine lw_v (.bool (decide (lo ≤ n))) (dv_leq (a := lo) (b := n) (T rfl rfl) (T rfl rfl)) ?_
 refine lw_v (.bool (decide (lo ≤ n))) (dv_move (T rfl rfl)) ?_
 by_cases hb1 : lo ≤ n
 · refine lw_vy (.int .i64 n) (d := 10) rfl rfl (congrArg Value.bool (decide_eq_true hb1)) (dv_move (T rfl rfl)) ?_
   refine lw_vy (.int .i64 hi) (d := 10) rfl rfl (congrArg Value.bool (decide_eq_true hb1)) (dv_move (T rfl rfl)) ?_
   refine lw_vy (.bool (decide (n ≤ hi))) (d := 10) rfl rfl (congrArg Value.bool (decide_eq_true hb1)) (dv_leq (a := n) (b := hi) (T rfl rfl) (T rfl rfl)) ?_
   refine lw_v (.bool (decide (n ≤ hi))) (dv_pick_t (T rfl (congrArg Value.bool (decide_eq_true hb1))) (T rfl rfl)) ?_
   refine lw_v (.bool (decide (n ≤ hi))) (dv_assign (T rfl rfl)) ?_
   refine lw_nil ?_
   refine rk_ret Tryd.func26 (v := .bool (decide (n ≤ hi))) (res1 Tryd.results26 (rv_tmp rfl rfl)) ⟨_, rfl, ?_⟩
   exact ⟨(vb (by grind)), E0⟩
 · refine lw_no (d := 10) rfl rfl (congrArg Value.bool (decide_eq_false hb1)) ?_
   refine lw_no (d := 10) rfl rfl (congrArg Value.bool (decide_eq_false hb1)) ?_
   refine lw_no (d := 10) rfl rfl (congrArg Value.bool (decide_eq_false hb1)) ?_
   refine lw_v (.bool false) (dv_pick_f (T rfl (congrArg Value.bool (decide_eq_false hb1))) C) ?_
   refine lw_v (.bool false) (dv_assign (T rfl rfl)) ?_
   refine lw_nil ?_
   refine rk_ret Tryd.func26 (v := .bool false) (res1 Tryd.results26 (rv_tmp rfl rfl)) ⟨_, rfl, ?_⟩
   exact ⟨(vf (by grind)), E0⟩
set_option maxHeartbeats 1000000 in
theorem eqSpot_ok {w : World} {ax ay bx b_y : Int}   : Ct Tryd.prog 50 [.agg #[.int .i64 ax, .int .i64 ay], .agg #[.int .i64 bx, .int .i64 b_y]] w fun v w1 => v = .bool (decide (ax = bx ∧ ay = b_y)) ∧ Ext w w1 := by
 refine ct_run (n := 15) Tryd.func50 rfl Tryd.ntmps50 rfl ?_
 have E0 : Below w.heap.size w w := Below.refl _ _
 refine rk_seq ?_
 refine rk_reg ?_
 refine lw_e (oe_box (v := .agg #[.int .i64 ax, .int .i64 ay]) (cs := #[.int .i64 ax, .int .i64 ay]) (T rfl rfl) rfl ?_)
 intro b1 w2 n3
 have N4 : w.heap.size ≤ b1 := n3.eq ▸ E0.size
 have E5 := below_ext E0 E0.size n3.ext
 refine lw_e (oe_box (v := .agg #[.int .i64 bx, .int .i64 b_y]) (cs := #[.int .i64 bx, .int .i64 b_y]) (T rfl rfl) rfl ?_)
 intro b6 w7 n8
 have N9 : w.heap.size ≤ b6 := n8.eq ▸ E5.size
 have : b1 < b6 := n8.eq ▸ lt_of_blk n3.blk
 have E10 := below_ext E5 E5.size n8.ext
 refine lw_v (.bool false) (dv_assign C) ?_
 refine lw_nil ?_
 refine rk_seq ?_
 refine rk_seq ?_
 refine rk_reg ?_
 refine lw_v (.pointer (some ⟨b1, 0, none⟩)) (dv_fieldAddr (a := ⟨b1, 0, none⟩) (a' := ⟨b1, 0, none⟩) fo41_0 (T rfl rfl) rfl) ?_
 have H11 := (n8.ext.blk n3.blk)
 refine lw_v (.int .i64 ax) (dv_load1 (b := b1) (o := 0) agt2 (T rfl rfl) H11 rfl) ?_
 refine lw_v (.pointer (some ⟨b6, 0, none⟩)) (dv_fieldAddr (a := ⟨b6, 0, none⟩) (a' := ⟨b6, 0, none⟩) fo41_0 (T rfl rfl) rfl) ?_
 refine lw_v (.int .i64 bx) (dv_load1 (b := b6) (o := 0) agt2 (T rfl rfl) n8.blk rfl) ?_
 refine lw_v (.bool (decide (ax ≠ bx))) (dv_neq (a := ax) (b := bx) (T rfl rfl) (T rfl rfl)) ?_
 refine lw_nil ?_
 by_cases hb12 : ax ≠ bx
 · refine rk_ct (T rfl (congrArg Value.bool (decide_eq_true hb12))) ?_
   refine rk_seq ?_
   refine rk_reg ?_
   refine lw_v (.bool false) (dv_assign C) ?_
   refine lw_nil ?_
   refine rk_ret Tryd.func50 (v := .bool false) (res1 Tryd.results50 (rv_tmp rfl rfl)) ⟨_, rfl, ?_⟩
   exact ⟨(vf (by grind)), E10⟩
 · refine rk_cf (T rfl (congrArg Value.bool (decide_eq_false hb12))) ?_
   refine rk_skip ?_
   refine rk_seq ?_
   refine rk_seq ?_
   refine rk_reg ?_
   refine lw_v (.pointer (some ⟨b1, 1, none⟩)) (dv_fieldAddr (a := ⟨b1, 0, none⟩) (a' := ⟨b1, 1, none⟩) fo41_1 (T rfl rfl) rfl) ?_
   refine lw_v (.int .i64 ay) (dv_load1 (b := b1) (o := 1) agt2 (T rfl rfl) H11 rfl) ?_
   refine lw_v (.pointer (some ⟨b6, 1, none⟩)) (dv_fieldAddr (a := ⟨b6, 0, none⟩) (a' := ⟨b6, 1, none⟩) fo41_1 (T rfl rfl) rfl) ?_
   refine lw_v (.int .i64 b_y) (dv_load1 (b := b6) (o := 1) agt2 (T rfl rfl) n8.blk rfl) ?_
   refine lw_v (.bool (decide (ay ≠ b_y))) (dv_neq (a := ay) (b := b_y) (T rfl rfl) (T rfl rfl)) ?_
   refine lw_nil ?_
   by_cases hb13 : ay ≠ b_y
   · refine rk_ct (T rfl (congrArg Value.bool (decide_eq_true hb13))) ?_
     refine rk_seq ?_
     refine rk_reg ?_
     refine lw_v (.bool false) (dv_assign C) ?_
     refine lw_nil ?_
     refine rk_ret Tryd.func50 (v := .bool false) (res1 Tryd.results50 (rv_tmp rfl rfl)) ⟨_, rfl, ?_⟩
     exact ⟨(vf (by grind)), E10⟩
   · refine rk_cf (T rfl (congrArg Value.bool (decide_eq_false hb13))) ?_
     refine rk_skip ?_
     refine rk_seq ?_
     refine rk_reg ?_
     refine lw_v (.bool true) (dv_assign C) ?_
     refine lw_nil ?_
     refine rk_ret Tryd.func50 (v := .bool true) (res1 Tryd.results50 (rv_tmp rfl rfl)) ⟨_, rfl, ?_⟩
     exact ⟨(vt (by grind)), E10⟩
set_option maxHeartbeats 1000000 in
theorem eqSpotS_ok {w : World} {A : Option Addr} {l c : Nat} {xs : List Int} (hx : RdI w .i64 A xs) (hxl : xs.length = l * 2) (hxb : l ≤ 1048576) {D : Option Addr} {m d : Nat} {ys : List Int} (hy : RdI w .i64 D ys) (hyl : ys.length = m * 2) (hyb : m ≤ 1048576) : Ct Tryd.prog 32 [.slice A l c, .slice D m d] w fun v w1 => v = .bool (decide ((xs : List Int) = ys)) ∧ Ext w w1 := by
 refine ct_run (n := 27) Tryd.func32 rfl Tryd.ntmps32 rfl ?_
 have E0 : Below w.heap.size w w := Below.refl _ _
 refine rk_seq ?_
 refine rk_reg ?_
 refine lw_v (.bool false) (dv_assign C) ?_
 refine lw_nil ?_
 refine rk_seq ?_
 refine rk_seq ?_
 refine rk_reg ?_
 refine lw_v (.slice A l c) (dv_move (T rfl rfl)) ?_
 refine lw_v (.int .i64 ((l : Int))) (dv_len (ad := A) (l := l) (c := c) us35 (T rfl rfl)) ?_
 refine lw_v (.slice D m d) (dv_move (T rfl rfl)) ?_
 refine lw_v (.int .i64 ((m : Int))) (dv_len (ad := D) (l := m) (c := d) us35 (T rfl rfl)) ?_
 refine lw_v (.bool (decide (((l : Int)) ≠ ((m : Int))))) (dv_neq (a := (l : Int)) (b := (m : Int)) (T rfl rfl) (T rfl rfl)) ?_
 refine lw_nil ?_
 by_cases hb1 : ((l : Int)) ≠ ((m : Int))
 · refine rk_ct (T rfl (congrArg Value.bool (decide_eq_true hb1))) ?_
   refine rk_seq ?_
   refine rk_reg ?_
   refine lw_v (.bool false) (dv_assign C) ?_
   refine lw_nil ?_
   refine rk_ret Tryd.func32 (v := .bool false) (res1 Tryd.results32 (rv_tmp rfl rfl)) ⟨_, rfl, ?_⟩
   exact ⟨(vf (by intro hh; have := congrArg List.length hh; omega)), E0⟩
 · refine rk_cf (T rfl (congrArg Value.bool (decide_eq_false hb1))) ?_
   refine rk_skip ?_
   refine rk_seq ?_
   refine rk_seq ?_
   refine rk_reg ?_
   refine lw_v (.int .i64 0) (dv_assign C) ?_
   refine lw_nil ?_
   refine rk_block ?_
   refine rk_loop (fun dm_ fr wl => ∃ (i : Nat), dm_ = l - i ∧ fr 0 = .slice A l c ∧ fr 1 = .slice D m d ∧ fr 5 = .int .i64 ((i : Int)) ∧ Below w.heap.size w wl ∧ (i ≤ l) ∧ (xs.take (i * 2) = ys.take (i * 2))) (l - 0) ⟨0, rfl, rfl, rfl, (vi (by omega)), E0, (Nat.zero_le _), (by simp)⟩ ?_
   intro d6 fr5 w2 hI3 ih4
   obtain ⟨i, hd11, f7, f8, f9, E10, hi, hqt⟩ := hI3
   refine rk_seq ?_
   refine rk_seq ?_
   refine rk_reg ?_
   refine lw_v (.int .i64 ((i : Int))) (dv_move (T rfl f9)) ?_
   refine lw_v (.slice A l c) (dv_move (T rfl f7)) ?_
   refine lw_v (.int .i64 ((l : Int))) (dv_len (ad := A) (l := l) (c := c) us35 (T rfl rfl)) ?_
   refine lw_v (.bool (decide (((i : Int)) < ((l : Int))))) (dv_lss (a := (i : Int)) (b := (l : Int)) (T rfl rfl) (T rfl rfl)) ?_
   refine lw_nil ?_
   by_cases hb12 : ((i : Int)) < ((l : Int))
   · refine rk_ct (T rfl (congrArg Value.bool (decide_eq_true hb12))) ?_
     refine rk_skip ?_
     refine rk_seq ?_
     refine rk_block ?_
     refine rk_seq ?_
     have h13 := (hx.ext E10)
     have h14 := (hy.ext E10)
     refine rk_any (fun w => RdI w .i64 A xs ∧ RdI w .i64 D ys) [] mo ?_
     intro w15 d16
     have E17 := below_ext E10 E10.size d16.ext
     have h18 := (h13.ext d16.ext)
     have h19 := (h14.ext d16.ext)
     refine aw_pure 0 (.slice A l c) rfl (by kernel_rfl) .none ⟨h18, h19⟩ (fun _ => dv_move (T rfl f7)) ?_
     refine aw_pure 1 (.int .i64 ((i : Int))) rfl (by kernel_rfl) .none ⟨h18, h19⟩ (fun _ => dv_move (T rfl f9)) ?_
     obtain ⟨g20, o21, rfl⟩ := RdI.at h18 (by first | omega | (simp; done) | (simp; omega))
     refine aw_pure 2 (.pointer (some ⟨g20, o21 + i * 2, none⟩)) rfl (by kernel_rfl) .none ⟨h18, h19⟩ (fun _ => dv_indexM (g := g20) (o := o21) (l := l) (c := c) (i := i) (j := (i : Int)) (m := 2) us35 sz41 (T rfl rfl) (T rfl rfl) (by omega) (by first | omega | (simp; done) | (simp; omega))) ?_
     refine aw_load 3 (.agg #[.int .i64 (xs.getD (i * 2) 0), .int .i64 (xs.getD (i * 2 + 1) 0)]) rfl (by kernel_rfl) .none ⟨h18, h19⟩ (fun _ s => dv_loadsI (i := i * 2) (m := 2) (k := .i64) (L := xs) (l := [.int .i64 (xs.getD (i * 2) 0), .int .i64 (xs.getD (i * 2 + 1) 0)]) agt41 sz41 (T rfl rfl) s.1 (by first | omega | (simp; done) | (simp; omega)) rfl) ?_
     refine aw_pure 4 (.slice D m d) rfl (by kernel_rfl) .none ⟨h18, h19⟩ (fun _ => dv_move (T rfl f8)) ?_
     refine aw_pure 5 (.int .i64 ((i : Int))) rfl (by kernel_rfl) .none ⟨h18, h19⟩ (fun _ => dv_move (T rfl f9)) ?_
     obtain ⟨g22, o23, rfl⟩ := RdI.at h19 (by first | omega | (simp; done) | (simp; omega))
     refine aw_pure 6 (.pointer (some ⟨g22, o23 + i * 2, none⟩)) rfl (by kernel_rfl) .none ⟨h18, h19⟩ (fun _ => dv_indexM (g := g22) (o := o23) (l := m) (c := d) (i := i) (j := (i : Int)) (m := 2) us35 sz41 (T rfl rfl) (T rfl rfl) (by omega) (by first | omega | (simp; done) | (simp; omega))) ?_
     refine aw_load 7 (.agg #[.int .i64 (ys.getD (i * 2) 0), .int .i64 (ys.getD (i * 2 + 1) 0)]) rfl (by kernel_rfl) .none ⟨h18, h19⟩ (fun _ s => dv_loadsI (i := i * 2) (m := 2) (k := .i64) (L := ys) (l := [.int .i64 (ys.getD (i * 2) 0), .int .i64 (ys.getD (i * 2 + 1) 0)]) agt41 sz41 (T rfl rfl) s.2 (by first | omega | (simp; done) | (simp; omega)) rfl) ?_
     refine aw_one 8 rfl (by kernel_rfl) .none (oe_callf (vs := [.agg #[.int .i64 (xs.getD (i * 2) 0), .int .i64 (xs.getD (i * 2 + 1) 0)], .agg #[.int .i64 (ys.getD (i * 2) 0), .int .i64 (ys.getD (i * 2 + 1) 0)]]) co50 (ar2 (T rfl rfl) (T rfl rfl)) (eqSpot_ok (ax := xs.getD (i * 2) 0) (ay := xs.getD (i * 2 + 1) 0) (bx := ys.getD (i * 2) 0) (b_y := ys.getD (i * 2 + 1) 0)  ) ?_)
     rintro _ w24 ⟨rfl, e25⟩
     have E26 := below_ext E17 E17.size e25
     have h27 := (h18.ext e25)
     have h28 := (h19.ext e25)
     refine ⟨.inr ⟨h27, h28⟩, ?_⟩
     refine aw_pure 9 (.bool (decide (¬ ((xs.getD (i * 2) 0) = (ys.getD (i * 2) 0) ∧ (xs.getD (i * 2 + 1) 0) = (ys.getD (i * 2 + 1) 0))))) rfl (by kernel_rfl) .none ⟨h27, h28⟩ (fun _ => dv_notd (p := (xs.getD (i * 2) 0) = (ys.getD (i * 2) 0) ∧ (xs.getD (i * 2 + 1) 0) = (ys.getD (i * 2 + 1) 0)) (T rfl rfl)) ?_
     refine aw_done (by kernel_rfl) ?_
     by_cases hb29 : (xs.getD (i * 2) 0) = (ys.getD (i * 2) 0) ∧ (xs.getD (i * 2 + 1) 0) = (ys.getD (i * 2 + 1) 0)
     · refine rk_cf (T rfl (congrArg Value.bool (decide_eq_false (not_not_intro hb29)))) ?_
       refine rk_skip ?_
       refine rk_inBlock ?_
       refine rk_reg ?_
       refine lw_v (.int .i64 ((i : Int))) (dv_move (T rfl f9)) ?_
       refine lw_v (.int .i64 (((i : Int)) + 1)) (dv_add (a := (i : Int)) (b := 1) (z := ((i : Int)) + 1) (T rfl rfl) C (wr_i64 (by omega) (by omega))) ?_
       refine lw_v (.int .i64 (((i : Int)) + 1)) (dv_assign (T rfl rfl)) ?_
       refine lw_nil ?_
       exact ih4 (l - ((i + 1))) _ _ (by rw [hd11]; omega) ⟨(i + 1), rfl, f7, f8, (vi (by omega)), E26, (by omega), (by have hq := ‹_ ∧ _›; rw [Nat.add_mul, Nat.one_mul]; exact take_eq2 hqt (by omega) (by omega) hq.1 hq.2)⟩
     · refine rk_ct (T rfl (congrArg Value.bool (decide_eq_true hb29))) ?_
       refine rk_seq ?_
       refine rk_reg ?_
       refine lw_v (.bool false) (dv_assign C) ?_
       refine lw_nil ?_
       refine rk_ret Tryd.func32 (v := .bool false) (res1 Tryd.results32 (rv_tmp rfl rfl)) ⟨_, rfl, ?_⟩
       exact ⟨(vf (by intro hh; subst hh; exact hb29 ⟨rfl, rfl⟩)), E26⟩
   · refine rk_cf (T rfl (congrArg Value.bool (decide_eq_false hb12))) ?_
     refine rk_exit rfl ?_
     refine rk_seq ?_
     refine rk_reg ?_
     refine lw_v (.bool true) (dv_assign C) ?_
     refine lw_nil ?_
     refine rk_ret Tryd.func32 (v := .bool true) (res1 Tryd.results32 (rv_tmp rfl rfl)) ⟨_, rfl, ?_⟩
     exact ⟨(vt (take_all hqt (by omega) (by omega))), E10⟩
set_option maxHeartbeats 1000000 in
theorem eqRing_ok {w : World} {A D : Option Addr} {l c d : Nat} {xs : List Int} (hx : RdI w .i64 A xs) (hy : RdI w .i64 D xs) (hxl : xs.length = l * 2) (hxb : l ≤ 1048576) : Ct Tryd.prog 18 [.agg #[.slice A l c], .agg #[.slice D l d]] w fun v w1 => v = .bool true ∧ Ext w w1 := by
 refine ct_run (n := 11) Tryd.func18 rfl Tryd.ntmps18 rfl ?_
 have E0 : Below w.heap.size w w := Below.refl _ _
 refine rk_seq ?_
 refine rk_reg ?_
 refine lw_e (oe_box (v := .agg #[.slice A l c]) (cs := #[.slice A l c]) (T rfl rfl) rfl ?_)
 intro b1 w2 n3
 have N4 : w.heap.size ≤ b1 := n3.eq ▸ E0.size
 have E5 := below_ext E0 E0.size n3.ext
 refine lw_e (oe_box (v := .agg #[.slice D l d]) (cs := #[.slice D l d]) (T rfl rfl) rfl ?_)
 intro b6 w7 n8
 have N9 : w.heap.size ≤ b6 := n8.eq ▸ E5.size
 have : b1 < b6 := n8.eq ▸ lt_of_blk n3.blk
 have E10 := below_ext E5 E5.size n8.ext
 refine lw_v (.bool false) (dv_assign C) ?_
 refine lw_nil ?_
 refine rk_seq ?_
 refine rk_seq ?_
 refine rk_reg ?_
 refine lw_v (.pointer (some ⟨b1, 0, none⟩)) (dv_fieldAddr (a := ⟨b1, 0, none⟩) (a' := ⟨b1, 0, none⟩) fo37_0 (T rfl rfl) rfl) ?_
 have H11 := (n8.ext.blk n3.blk)
 refine lw_v (.slice A l c) (dv_load1 (b := b1) (o := 0) agt35 (T rfl rfl) H11 rfl) ?_
 refine lw_v (.pointer (some ⟨b6, 0, none⟩)) (dv_fieldAddr (a := ⟨b6, 0, none⟩) (a' := ⟨b6, 0, none⟩) fo37_0 (T rfl rfl) rfl) ?_
 refine lw_v (.slice D l d) (dv_load1 (b := b6) (o := 0) agt35 (T rfl rfl) n8.blk rfl) ?_
 have h12 := ((hx.ext n3.ext).ext n8.ext)
 have h13 := ((hy.ext n3.ext).ext n8.ext)
 refine lw_e (oe_callf (vs := [.slice A l c, .slice D l d]) co32 (ar2 (T rfl rfl) (T rfl rfl)) (eqSpotS_ok (l := l) (m := l) (c := c) (d := d) (xs := xs) (ys := xs) h12 (by first | omega | (simp; done) | (simp; omega)) (by first | omega | (simp; done) | (simp; omega)) h13 (by first | omega | (simp; done) | (simp; omega)) (by first | omega | (simp; done) | (simp; omega))) ?_)
 rintro _ w14 ⟨rfl, e15⟩
 have E16 := below_ext E10 E10.size e15
 refine lw_v (.bool (decide (¬ ((xs : List Int) = xs)))) (dv_notd (p := (xs : List Int) = xs) (T rfl rfl)) ?_
 refine lw_nil ?_
 by_cases hb17 : (xs : List Int) = xs
 · refine rk_cf (T rfl (congrArg Value.bool (decide_eq_false (not_not_intro hb17)))) ?_
   refine rk_skip ?_
   refine rk_seq ?_
   refine rk_reg ?_
   refine lw_v (.bool true) (dv_assign C) ?_
   refine lw_nil ?_
   refine rk_ret Tryd.func18 (v := .bool true) (res1 Tryd.results18 (rv_tmp rfl rfl)) ⟨_, rfl, ?_⟩
   exact ⟨rfl, E16⟩
 · refine rk_ct (T rfl (congrArg Value.bool (decide_eq_true hb17))) ?_
   refine rk_seq ?_
   refine rk_reg ?_
   refine lw_v (.bool false) (dv_assign C) ?_
   refine lw_nil ?_
   refine rk_ret Tryd.func18 (v := .bool false) (res1 Tryd.results18 (rv_tmp rfl rfl)) ⟨_, rfl, ?_⟩
   exact ⟨(by exfalso; first | contradiction | exact absurd rfl (by assumption) | omega), E16⟩
set_option maxHeartbeats 1000000 in
theorem eqRingS_ok {w : World} {A : Option Addr} {l c : Nat} {N : Nat → Nat} {E : Nat → List Int} {SL : SlF} {lo hi : Nat} (hx : RR w lo hi A l N E SL) (hxb : l ≤ 1048576) (hxn : ∀ i, i < l → N i ≤ 1048576) {D : Option Addr} {d : Nat} {SM : SlF} {lo2 hi2 : Nat} (hy : RR w lo2 hi2 D l N E SM) : Ct Tryd.prog 7 [.slice A l c, .slice D l d] w fun v w1 => v = .bool true ∧ Ext w w1 := by
 refine ct_run (n := 27) Tryd.func7 rfl Tryd.ntmps7 rfl ?_
 have E0 : Below w.heap.size w w := Below.refl _ _
 refine rk_seq ?_
 refine rk_reg ?_
 refine lw_v (.bool false) (dv_assign C) ?_
 refine lw_nil ?_
 refine rk_seq ?_
 refine rk_seq ?_
 refine rk_reg ?_
 refine lw_v (.slice A l c) (dv_move (T rfl rfl)) ?_
 refine lw_v (.int .i64 ((l : Int))) (dv_len (ad := A) (l := l) (c := c) us22 (T rfl rfl)) ?_
 refine lw_v (.slice D l d) (dv_move (T rfl rfl)) ?_
 refine lw_v (.int .i64 ((l : Int))) (dv_len (ad := D) (l := l) (c := d) us22 (T rfl rfl)) ?_
 refine lw_v (.bool (decide (((l : Int)) ≠ ((l : Int))))) (dv_neq (a := (l : Int)) (b := (l : Int)) (T rfl rfl) (T rfl rfl)) ?_
 refine lw_nil ?_
 by_cases hb1 : ((l : Int)) ≠ ((l : Int))
 · refine rk_ct (T rfl (congrArg Value.bool (decide_eq_true hb1))) ?_
   refine rk_seq ?_
   refine rk_reg ?_
   refine lw_v (.bool false) (dv_assign C) ?_
   refine lw_nil ?_
   refine rk_ret Tryd.func7 (v := .bool false) (res1 Tryd.results7 (rv_tmp rfl rfl)) ⟨_, rfl, ?_⟩
   exact ⟨(by exfalso; first | contradiction | exact absurd rfl (by assumption) | omega), E0⟩
 · refine rk_cf (T rfl (congrArg Value.bool (decide_eq_false hb1))) ?_
   refine rk_skip ?_
   refine rk_seq ?_
   refine rk_seq ?_
   refine rk_reg ?_
   refine lw_v (.int .i64 0) (dv_assign C) ?_
   refine lw_nil ?_
   refine rk_block ?_
   refine rk_loop (fun dm_ fr wl => ∃ (i : Nat), dm_ = l - i ∧ fr 0 = .slice A l c ∧ fr 1 = .slice D l d ∧ fr 5 = .int .i64 ((i : Int)) ∧ Below w.heap.size w wl ∧ (i ≤ l)) (l - 0) ⟨0, rfl, rfl, rfl, (vi (by omega)), E0, (Nat.zero_le _)⟩ ?_
   intro d6 fr5 w2 hI3 ih4
   obtain ⟨i, hd11, f7, f8, f9, E10, hi_⟩ := hI3
   obtain ⟨As12, hAs14⟩ : ∃ q_ : Option Addr, q_ = (SL i).1 := ⟨_, rfl⟩
   obtain ⟨cs13, hcs15⟩ : ∃ q_ : Nat, q_ = (SL i).2 := ⟨_, rfl⟩
   obtain ⟨As16, hAs18⟩ : ∃ q_ : Option Addr, q_ = (SM i).1 := ⟨_, rfl⟩
   obtain ⟨cs17, hcs19⟩ : ∃ q_ : Nat, q_ = (SM i).2 := ⟨_, rfl⟩
   have hel := fun h_ : i < l => RR.len hx (i := i) h_; have hnn := fun h_ : i < l => hxn i h_
   refine rk_seq ?_
   refine rk_seq ?_
   refine rk_reg ?_
   refine lw_v (.int .i64 ((i : Int))) (dv_move (T rfl f9)) ?_
   refine lw_v (.slice A l c) (dv_move (T rfl f7)) ?_
   refine lw_v (.int .i64 ((l : Int))) (dv_len (ad := A) (l := l) (c := c) us22 (T rfl rfl)) ?_
   refine lw_v (.bool (decide (((i : Int)) < ((l : Int))))) (dv_lss (a := (i : Int)) (b := (l : Int)) (T rfl rfl) (T rfl rfl)) ?_
   refine lw_nil ?_
   by_cases hb20 : ((i : Int)) < ((l : Int))
   · refine rk_ct (T rfl (congrArg Value.bool (decide_eq_true hb20))) ?_
     refine rk_skip ?_
     refine rk_seq ?_
     refine rk_block ?_
     refine rk_seq ?_
     refine rk_any (fun w => RR w lo hi A l N E SL ∧ RR w lo2 hi2 D l N E SM) [] mo ?_
     intro w21 d22
     have E23 := below_ext E10 E10.size d22.ext
     have h24 := ((hx.ext E10).ext d22.ext)
     have h25 := ((hy.ext E10).ext d22.ext)
     refine aw_pure 0 (.slice A l c) rfl (by kernel_rfl) .none ⟨h24, h25⟩ (fun _ => dv_move (T rfl f7)) ?_
     refine aw_pure 1 (.int .i64 ((i : Int))) rfl (by kernel_rfl) .none ⟨h24, h25⟩ (fun _ => dv_move (T rfl f9)) ?_
     obtain ⟨g26, o27, rfl⟩ := RR.at h24 (by first | omega | (simp; done) | (simp; omega))
     refine aw_pure 2 (.pointer (some ⟨g26, o27 + i, none⟩)) rfl (by kernel_rfl) .none ⟨h24, h25⟩ (fun _ => dv_indexW (g := g26) (o := o27) (l := l) (c := c) (i := i) (j := (i : Int)) us22 sz37 (T rfl rfl) (T rfl rfl) (by omega) (by first | omega | (simp; done) | (simp; omega))) ?_
     refine aw_load 3 (.agg #[.slice As12 (N i) cs13]) rfl (by kernel_rfl) .none ⟨h24, h25⟩ (fun _ s => dv_loadsR (l := [.slice As12 (N i) cs13]) agt37 sz37 (T rfl rfl) rfl (RR.sl1 (i := i) s.1 (by first | omega | (simp; done) | (simp; omega)) hAs14 hcs15)) ?_
     refine aw_pure 4 (.slice D l d) rfl (by kernel_rfl) .none ⟨h24, h25⟩ (fun _ => dv_move (T rfl f8)) ?_
     refine aw_pure 5 (.int .i64 ((i : Int))) rfl (by kernel_rfl) .none ⟨h24, h25⟩ (fun _ => dv_move (T rfl f9)) ?_
     obtain ⟨g28, o29, rfl⟩ := RR.at h25 (by first | omega | (simp; done) | (simp; omega))
     refine aw_pure 6 (.pointer (some ⟨g28, o29 + i, none⟩)) rfl (by kernel_rfl) .none ⟨h24, h25⟩ (fun _ => dv_indexW (g := g28) (o := o29) (l := l) (c := d) (i := i) (j := (i : Int)) us22 sz37 (T rfl rfl) (T rfl rfl) (by omega) (by first | omega | (simp; done) | (simp; omega))) ?_
     refine aw_load 7 (.agg #[.slice As16 (N i) cs17]) rfl (by kernel_rfl) .none ⟨h24, h25⟩ (fun _ s => dv_loadsR (l := [.slice As16 (N i) cs17]) agt37 sz37 (T rfl rfl) rfl (RR.sl1 (i := i) s.2 (by first | omega | (simp; done) | (simp; omega)) hAs18 hcs19)) ?_
     refine aw_one 8 rfl (by kernel_rfl) .none (oe_callf (vs := [.agg #[.slice As12 (N i) cs13], .agg #[.slice As16 (N i) cs17]]) co18 (ar2 (T rfl rfl) (T rfl rfl)) (eqRing_ok (c := cs13) (d := cs17) (RR.rd (i := i) h24 (by first | omega | (simp; done) | (simp; omega)) hAs14) (RR.rd (i := i) h25 (by first | omega | (simp; done) | (simp; omega)) hAs18) (by omega) (by first | omega | (simp; done) | (simp; omega))) ?_)
     rintro _ w30 ⟨rfl, e31⟩
     have E32 := below_ext E23 E23.size e31
     have h33 := (h24.ext e31)
     have h34 := (h25.ext e31)
     refine ⟨.inr ⟨h33, h34⟩, ?_⟩
     refine aw_pure 9 (.bool false) rfl (by kernel_rfl) .none ⟨h33, h34⟩ (fun _ => dv_not (b := true) (T rfl rfl)) ?_
     refine aw_done (by kernel_rfl) ?_
     refine rk_cf (T rfl rfl) ?_
     refine rk_skip ?_
     refine rk_inBlock ?_
     refine rk_reg ?_
     refine lw_v (.int .i64 ((i : Int))) (dv_move (T rfl f9)) ?_
     refine lw_v (.int .i64 (((i : Int)) + 1)) (dv_add (a := (i : Int)) (b := 1) (z := ((i : Int)) + 1) (T rfl rfl) C (wr_i64 (by omega) (by omega))) ?_
     refine lw_v (.int .i64 (((i : Int)) + 1)) (dv_assign (T rfl rfl)) ?_
     refine lw_nil ?_
     exact ih4 (l - ((i + 1))) _ _ (by rw [hd11]; omega) ⟨(i + 1), rfl, f7, f8, (vi (by omega)), E32, (by omega)⟩
   · refine rk_cf (T rfl (congrArg Value.bool (decide_eq_false hb20))) ?_
     refine rk_exit rfl ?_
     refine rk_seq ?_
     refine rk_reg ?_
     refine lw_v (.bool true) (dv_assign C) ?_
     refine lw_nil ?_
     refine rk_ret Tryd.func7 (v := .bool true) (res1 Tryd.results7 (rv_tmp rfl rfl)) ⟨_, rfl, ?_⟩
     exact ⟨rfl, E10⟩
end Go.Proofs.YtmbpomcbdopgnaaDoor.W
set_option linter.unusedVariables false
set_option linter.unusedSimpArgs false
namespace Go.Proofs.YtmbpomcbdopgnaaDoor.W
open Go Go.RowKit Go.Proofs.YtmbpomcbdopgnaaDoor.Fw
attribute [local irreducible] RunK LW AW DV OE Ct
theorem co34 : callOk Tryd.prog 34 = true := by kernel_rfl
theorem co35 : callOk Tryd.prog 35 = true := by kernel_rfl
theorem co36 : callOk Tryd.prog 36 = true := by kernel_rfl
def TB (w : World) : Prop := Lib.TabIs Tryd.prog w "internal/strconv.uint64pow10" .u64 Lib.pow10Tab
theorem tbG : Tryd.prog.globalNamed "internal/strconv.uint64pow10" = some 0 := by kernel_rfl
theorem TB.ext {w w' : World} (h : TB w) (e : Ext w w') : TB w' := Joins.var_stays tbG h e (Nat.le_refl _)
theorem fmt_ok {w : World} {x : Int} (h0 : -9223372036854775808 ≤ x) (h1 : x ≤ 9223372036854775807) (ht : TB w) : Ct Tryd.prog 27 [.int .i64 x, .int .i64 10] w fun v w1 => v = .string (bOf (txtL x)) ∧ Ext w w1 := by
 unfold Ct
 refine Calls.mono (Tryd.strconv_FormatInt_10 x h0 h1 w ht) fun e w' ⟨he, k, os, hw⟩ => ⟨_, he, ?_, ?_⟩
 · rw [itoa_txt]; rfl
 · subst hw; exact Lib.below_grow _ w (Nat.le_refl _) k os
theorem join_ok {w : World} {A : Option Addr} {c base T : Nat} {L : List (List Int)} {sep : List Int} (hO : Ors w base T A c L) (hl : (joinL sep L).length ≤ 1000000) (hn : L.length ≤ 1000000) : Ct Tryd.prog 28 [.slice A L.length c, .string (bOf sep)] w fun v w1 => v = .string (bOf (joinL sep L)) ∧ Ext w w1 := by
 unfold Ct
 rcases hO.1.2 with ⟨hv, h0⟩ | ⟨g, cap, cur, hv, hb, hg, h1, h2, h3, h4⟩
 · have hL : L = [] := List.eq_nil_of_length_eq_zero h0
   subst hL
   refine Calls.mono (Tryd.strings_Join_none A c (bOf sep) w) fun e w' ⟨he, hw⟩ => ⟨_, he, rfl, ?_⟩
   subst hw; exact Below.refl _ _
 · injection hv with hA _ hc
   subst hA
   have e1 : (L.map bOf).map (fun x => x.data.toList) = L.map u8 := by rw [List.map_map]; rfl
   have h5 := Tryd.strings_Join g 0 c (L.map bOf) (bOf sep) w (fun j x hj => by
    have hjl : j < L.length := by have := (List.getElem?_eq_some_iff.1 hj).1; simpa using this
    rw [hO.cell hjl]
    rw [List.getElem?_map, List.getElem?_eq_getElem hjl] at hj
    simp only [Option.map_some, Option.some.injEq] at hj
    rw [← hj]
    simp [List.getD_eq_getElem?_getD, hjl]) (lt_of_blk hg) (by simp; omega) (by simpa using hO.cap) (by
     rw [e1, bOf_data, u8_join]
     simp only [u8, List.length_map]
     omega)
   rw [List.length_map] at h5
   refine Calls.mono h5 fun e w' ⟨he, hw⟩ => ⟨_, he, ?_, hw⟩
   rw [e1, bOf_data, u8_join]
   rfl
set_option maxHeartbeats 1000000 in
theorem l6Short_ok {w : World} {x : Int}   : Ct Tryd.prog 22 [.int .i64 x] w fun v w1 => v = .bool (decide (short x)) ∧ Ext w w1 := by
 refine ct_run (n := 5) Tryd.func22 rfl Tryd.ntmps22 rfl ?_
 have E0 : Below w.heap.size w w := Below.refl _ _
 refine rk_seq ?_
 refine rk_reg ?_
 refine lw_v (.bool false) (dv_assign C) ?_
 refine lw_nil ?_
 refine rk_seq ?_
 refine rk_reg ?_
 refine lw_v (.int .i64 x) (dv_move (T rfl rfl)) ?_
 refine lw_e (oe_callf (vs := [.int .i64 x, .int .i64 (-999999999999999), .int .i64 999999999999999]) co34 (ar3 (T rfl rfl) C C) (l1In_ok (n := x) (lo := -999999999999999) (hi := 999999999999999)  ) ?_)
 rintro _ w1 ⟨rfl, e2⟩
 have E3 := below_ext E0 E0.size e2
 refine lw_v (.bool (decide ((-999999999999999 : Int) ≤ x ∧ x ≤ (999999999999999 : Int)))) (dv_assign (T rfl rfl)) ?_
 refine lw_nil ?_
 refine rk_ret Tryd.func22 (v := .bool (decide ((-999999999999999 : Int) ≤ x ∧ x ≤ (999999999999999 : Int)))) (res1 Tryd.results22 (rv_tmp rfl rfl)) ⟨_, rfl, ?_⟩
 exact ⟨(vb (by exact Iff.rfl)), E3⟩
set_option maxHeartbeats 1000000 in
theorem l6Num_ok {w : World} {x : Int}  (hx : -9223372036854775808 ≤ x ∧ x ≤ 9223372036854775807) : Ct Tryd.prog 23 [.int .i64 x] w fun v w1 => v = .string (bOf (txtL x)) ∧ Ext w w1 := by
 refine ct_run (n := 6) Tryd.func23 rfl Tryd.ntmps23 rfl ?_
 have E0 : Below w.heap.size w w := Below.refl _ _
 refine rk_seq ?_
 refine rk_reg ?_
 refine lw_v (.string (bOf [])) (dv_assign C) ?_
 refine lw_nil ?_
 refine rk_seq ?_
 refine rk_reg ?_
 refine lw_v (.int .i64 x) (dv_move (T rfl rfl)) ?_
 refine lw_e (oe_callf (vs := [.int .i64 x]) co36 (ar1 (T rfl rfl)) (l1Int_ok  (by omega)) ?_)
 rintro _ w6 ⟨nr1, A2, n3, c4, rfl, e7, h5⟩
 have E8 := below_ext E0 E0.size e7
 have lh5 := Num.len (by decide) h5
 refine lw_e (oe_callf (vs := [.agg #[.bool nr1, .slice A2 n3 c4]]) co35 (ar1 (T rfl rfl)) (l1Text_ok h5 (by first | decide | omega)) ?_)
 rintro _ w10 ⟨rfl, e11⟩
 have E12 := below_ext E8 E8.size e11
 have ht9 := txt_len (h5).lt
 refine lw_v (.string (bOf (txtL x))) (dv_assign (T rfl rfl)) ?_
 refine lw_nil ?_
 refine rk_ret Tryd.func23 (v := .string (bOf (txtL x))) (res1 Tryd.results23 (rv_tmp rfl rfl)) ⟨_, rfl, ?_⟩
 exact ⟨rfl, E12⟩
set_option maxHeartbeats 1000000 in
theorem spotsIn_ok {w : World} {A : Option Addr} {l c : Nat} {N : Nat → Nat} {E : Nat → List Int} {SL : SlF} {lo hi : Nat} (hx : RR w lo hi A l N E SL) (hxb : l ≤ 1048576) (hxn : ∀ i, i < l → N i ≤ 1048576) : Ct Tryd.prog 25 [.slice A l c] w fun v w1 => v = .int .i64 (tot N l : Int) ∧ Ext w w1 := by
 refine ct_run (n := 19) Tryd.func25 rfl Tryd.ntmps25 rfl ?_
 have E0 : Below w.heap.size w w := Below.refl _ _
 have hhi := hx.lh
 refine rk_seq ?_
 refine rk_reg ?_
 refine lw_v (.int .i64 0) (dv_assign C) ?_
 refine lw_nil ?_
 refine rk_seq ?_
 refine rk_reg ?_
 refine lw_v (.int .i64 0) (dv_assign C) ?_
 refine lw_nil ?_
 refine rk_seq ?_
 refine rk_seq ?_
 refine rk_reg ?_
 refine lw_v (.slice A l c) (dv_move (T rfl rfl)) ?_
 refine lw_v (.int .i64 ((l : Int))) (dv_len (ad := A) (l := l) (c := c) us22 (T rfl rfl)) ?_
 refine lw_v (.int .i64 0) (dv_move C) ?_
 refine lw_nil ?_
 refine rk_block ?_
 refine rk_loop (fun dm_ fr wl => ∃ (i : Nat), dm_ = l - i ∧ fr 2 = .int .i64 0 ∧ fr 3 = .int .i64 ((tot N i : Int)) ∧ fr 6 = .slice A l c ∧ fr 7 = .int .i64 ((l : Int)) ∧ fr 8 = .int .i64 ((i : Int)) ∧ Below w.heap.size w wl ∧ (i ≤ l)) (l - 0) ⟨0, rfl, rfl, (vi (by simp [tot])), rfl, rfl, (vi (by omega)), E0, (Nat.zero_le _)⟩ ?_
 intro d5 fr4 w1 hI2 ih3
 obtain ⟨i, hd12, f6, f7, f8, f9, f10, E11, hi_⟩ := hI2
 obtain ⟨As13, hAs15⟩ : ∃ q_ : Option Addr, q_ = (SL i).1 := ⟨_, rfl⟩
 obtain ⟨cs14, hcs16⟩ : ∃ q_ : Nat, q_ = (SL i).2 := ⟨_, rfl⟩
 have hel := fun h_ : i < l => RR.len hx (i := i) h_; have hnn := fun h_ : i < l => hxn i h_
 have htb := tot_bd hxn hi_
 refine rk_seq ?_
 refine rk_reg ?_
 refine lw_v (.bool (decide (((i : Int)) < ((l : Int))))) (dv_lss (a := (i : Int)) (b := (l : Int)) (T rfl f10) (T rfl f9)) ?_
 refine lw_nil ?_
 refine rk_seq ?_
 by_cases hb17 : ((i : Int)) < ((l : Int))
 · refine rk_ct (T rfl (congrArg Value.bool (decide_eq_true hb17))) ?_
   refine rk_skip ?_
   refine rk_seq ?_
   refine rk_block ?_
   refine rk_seq ?_
   refine rk_reg ?_
   have h20 := (hx.ext E11)
   obtain ⟨g18, o19, rfl⟩ := RR.at h20 (by first | omega | (simp; done) | (simp; omega))
   refine lw_v (.pointer (some ⟨g18, o19 + i, none⟩)) (dv_indexW (g := g18) (o := o19) (l := l) (c := c) (i := i) (j := (i : Int)) us22 sz37 (T rfl f8) (T rfl f10) (by omega) (by first | omega | (simp; done) | (simp; omega))) ?_
   refine lw_v (.agg #[.slice As13 (N i) cs14]) (dv_loadsR (l := [.slice As13 (N i) cs14]) agt37 sz37 (T rfl rfl) rfl (RR.sl1 (i := i) h20 (by first | omega | (simp; done) | (simp; omega)) hAs15 hcs16)) ?_
   refine lw_e (oe_alloc ze37 ?_)
   intro b21 w22 n23
   have N24 : w.heap.size ≤ b21 := n23.eq ▸ E11.size
   have := n23.eq; have := n23.size
   have := Below.fresh n23.ext
   have E25 := below_ext E11 E11.size n23.ext
   refine lw_e (oe_store (v := .agg #[.slice As13 (N i) cs14]) (vs := [.slice As13 (N i) cs14]) (l := [.slice As13 (N i) cs14]) (T rfl rfl) (T rfl rfl) sz37 rfl rfl rfl n23.blk rfl ?_)
   intro w26 s27 H28
   have := s27.size
   have E29 := below_st E25 N24 s27
   refine lw_nil ?_
   refine rk_reg ?_
   refine lw_v (.int .i64 ((tot N i : Int))) (dv_move (T rfl f7)) ?_
   refine lw_v (.pointer (some ⟨b21, 0, none⟩)) (dv_fieldAddr (a := ⟨b21, 0, none⟩) (a' := ⟨b21, 0, none⟩) fo37_0 (T rfl rfl) rfl) ?_
   refine lw_v (.slice As13 (N i) cs14) (dv_load1 (b := b21) (o := 0) agt35 (T rfl rfl) H28 rfl) ?_
   refine lw_v (.int .i64 ((N i : Int))) (dv_len (ad := As13) (l := N i) (c := cs14) us35 (T rfl rfl)) ?_
   refine lw_v (.int .i64 (((tot N i : Int)) + ((N i : Int)))) (dv_add (a := (tot N i : Int)) (b := (N i : Int)) (z := ((tot N i : Int)) + ((N i : Int))) (T rfl rfl) (T rfl rfl) (wr_i64 (by omega) (by omega))) ?_
   refine lw_v (.int .i64 (((tot N i : Int)) + ((N i : Int)))) (dv_assign (T rfl rfl)) ?_
   refine lw_nil ?_
   refine rk_inBlock ?_
   refine rk_reg ?_
   refine lw_v (.int .i64 (((i : Int)) + 1)) (dv_add (a := (i : Int)) (b := 1) (z := ((i : Int)) + 1) (T rfl f10) C (wr_i64 (by omega) (by omega))) ?_
   refine lw_v (.int .i64 (((i : Int)) + 1)) (dv_move (T rfl rfl)) ?_
   refine lw_nil ?_
   exact ih3 (l - ((i + 1))) _ _ (by rw [hd12]; omega) ⟨(i + 1), rfl, f6, (vi (by simp [tot])), f8, f9, (vi (by omega)), E29, (by omega)⟩
 · refine rk_cf (T rfl (congrArg Value.bool (decide_eq_false hb17))) ?_
   refine rk_exit rfl ?_
   refine rk_seq ?_
   refine rk_reg ?_
   refine lw_v (.int .i64 ((tot N i : Int))) (dv_move (T rfl f7)) ?_
   refine lw_v (.int .i64 ((tot N i : Int))) (dv_assign (T rfl rfl)) ?_
   refine lw_nil ?_
   refine rk_ret Tryd.func25 (v := .int .i64 ((tot N i : Int))) (res1 Tryd.results25 (rv_tmp rfl rfl)) ⟨_, rfl, ?_⟩
   obtain rfl : i = l := by omega
   exact ⟨rfl, E11⟩
end Go.Proofs.YtmbpomcbdopgnaaDoor.W
