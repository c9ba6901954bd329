/- Walks and plain mathematics, packed by a program of this session: declarations that the rows reach. -/
import Derived.Shelf.Strings.Builder1
import Derived.Shelf.Strings.Builder2
import Derived.Shelf.Strings.OnBuilder
import Derived.Shelf.Utf8.RuneCount
import Derived.Shelf.Strconv.Itoa0
import Derived.Shelf.Strconv.Itoa1
import Derived.Shelf.LaysM
import Derived.Shelf.Strconv.Itoa2
import Derived.Shelf.Strconv.Itoa3
import Derived.Shelf.Strconv.Itoa4
import Derived.Shelf.Strings.Search1
import Derived.Shelf.Strings.Search2
import Derived.Shelf.Strings.Search3
import Derived.Shelf.Strings.Count
import Derived.Shelf.Strings.Shaped
import Derived.Shelf.Strings.Split
import Derived.Shelf.Strings.SplitShaped
import Derived.Shelf.Unicode.Decode
import Derived.Shelf.Strings.RuneCount
import Derived.Shelf.Strings.Explode
import Derived.Shelf.Unicode.DecodeSlow
import Derived.Shelf.Unicode.DecodeAny
import Derived.Test.YtmbpomcbdopgnaaDoorProg
import Derived.Test.YtmbpomcbdopgnaaDoorPla
set_option linter.unusedVariables false
set_option linter.unusedSimpArgs false
namespace Go.Proofs.YtmbpomcbdopgnaaDoor.W
open Go Go.RowKit Go.Proofs.YtmbpomcbdopgnaaDoor.Fw
attribute [local irreducible] RunK LW AW DV OE Ct
theorem agt58 : aggB Tryd.prog 58 = some true := by kernel_rfl
theorem agt61 : aggB Tryd.prog 61 = some false := by kernel_rfl
theorem in61 : (Tryd.prog.info? 61).map (fun i => (i.zero, i.size, i.bytes)) = some (some (.int .u32 0), 1, 4) := by kernel_rfl
theorem pl58 : placesB Tryd.prog 58 = some [(0, 1), (1, 1)] := by kernel_rfl
theorem sz58 : sizeB Tryd.prog 58 = some 2 := by kernel_rfl
theorem sz61 : sizeB Tryd.prog 61 = some 1 := by kernel_rfl
theorem ui61 : Tryd.prog.underlying 61 = some (.int .u32) := by kernel_rfl
theorem ui86 : Tryd.prog.underlying 86 = some (.int .u64) := by kernel_rfl
theorem us56 : Tryd.prog.underlying 56 = some (.slice 61) := by kernel_rfl
theorem zc58 : zcB Tryd.prog 58 = some [.bool false, .slice none 0 0] := by kernel_rfl
theorem zc61 : zcB Tryd.prog 61 = some [.int .u32 0] := by kernel_rfl
theorem ze58 : zeroB Tryd.prog 58 = some #[.bool false, .slice none 0 0] := by kernel_rfl
set_option maxHeartbeats 1000000 in
theorem l1Trim_ok {w : World} {neg : Bool} {A : Option Addr} {c : Nat} {xs : List Int} (hx : Wd w 61 .u32 A xs) (hc : xs.length ≤ c) (hL : xs.length ≤ 1000000) : Ct Tryd.prog 51 [.bool neg, .slice A (xs.length) c] w fun v w1 => v = (if (trimL xs).length = 0 then .agg #[.bool false, .slice none 0 0] else .agg #[.bool neg, .slice A (trimL xs).length c]) ∧ Ext w w1 := by
 refine ct_run (n := 28) Tryd.func51 rfl Tryd.ntmps51 rfl ?_
 have E0 : Below w.heap.size w w := Below.refl _ _
 refine rk_seq ?_
 refine rk_reg ?_
 refine lw_e (oe_alloc ze58 ?_)
 intro b1 w2 n3
 have N4 : w.heap.size ≤ b1 := n3.eq ▸ E0.size
 have E5 := below_ext E0 E0.size n3.ext
 refine lw_nil ?_
 refine rk_seq ?_
 refine rk_reg ?_
 refine lw_v (.slice A (xs.length) c) (dv_move (T rfl rfl)) ?_
 refine lw_v (.int .i64 ((xs.length : Int))) (dv_len (ad := A) (l := xs.length) (c := c) us56 (T rfl rfl)) ?_
 refine lw_v (.int .i64 ((xs.length : Int))) (dv_assign (T rfl rfl)) ?_
 refine lw_nil ?_
 refine rk_seq ?_
 refine rk_block ?_
 refine rk_loop (fun dm_ fr wl => ∃ (n : Nat), dm_ = n ∧ fr 0 = .bool neg ∧ fr 1 = .slice A (xs.length) c ∧ fr 4 = .pointer (some ⟨b1, 0, none⟩) ∧ fr 5 = .int .i64 ((n : Int)) ∧ Below w.heap.size w wl ∧ wl.heap[b1]? = some (.cells #[.bool false, .slice none 0 0] 58) ∧ (n ≤ xs.length) ∧ (trimL (xs.take n) = trimL xs)) (xs.length) ⟨xs.length, rfl, rfl, rfl, rfl, (vi (by omega)), E5, n3.blk, (Nat.le_refl _), (by rw [List.take_of_length_le (Nat.le_refl _)])⟩ ?_
 intro d10 fr9 w6 hI7 ih8
 obtain ⟨n, hd17, f11, f12, f13, f14, E15, H16, hn, ht⟩ := hI7
 refine rk_seq ?_
 refine rk_seq ?_
 refine rk_reg ?_
 refine lw_v (.int .i64 ((n : Int))) (dv_move (T rfl f14)) ?_
 refine lw_v (.bool (decide (0 < ((n : Int))))) (dv_gtr (a := (n : Int)) (b := 0) (T rfl rfl) C) ?_
 refine lw_v (.bool (decide (0 < ((n : Int))))) (dv_move (T rfl rfl)) ?_
 by_cases hb18 : 0 < ((n : Int))
 · refine lw_vy (.slice A (xs.length) c) (d := 10) rfl rfl (congrArg Value.bool (decide_eq_true hb18)) (dv_move (T rfl f12)) ?_
   refine lw_vy (.int .i64 ((n : Int))) (d := 10) rfl rfl (congrArg Value.bool (decide_eq_true hb18)) (dv_move (T rfl f14)) ?_
   refine lw_vy (.int .i64 (((n : Int)) - 1)) (d := 10) rfl rfl (congrArg Value.bool (decide_eq_true hb18)) (dv_sub (a := (n : Int)) (b := 1) (z := ((n : Int)) - 1) (T rfl rfl) C (wr_i64 (by omega) (by omega))) ?_
   have h19 := (hx.ext E15)
   obtain ⟨g20, o21, rfl⟩ := Wd.at h19 (by first | omega | (simp; done) | (simp; omega))
   refine lw_vy (.pointer (some ⟨g20, o21 + ((n) - 1), none⟩)) (d := 10) rfl rfl (congrArg Value.bool (decide_eq_true hb18)) (dv_indexW (g := g20) (o := o21) (l := xs.length) (c := c) (i := ((n) - 1)) (j := ((n : Int)) - 1) us56 sz61 (T rfl rfl) (T rfl rfl) (by omega) (by first | omega | (simp; done) | (simp; omega))) ?_
   refine lw_vy (.int .u32 (xs.getD (((n) - 1)) 0)) (d := 10) rfl rfl (congrArg Value.bool (decide_eq_true hb18)) (dv_load agt61 (T rfl rfl) (Wd.cell h19 (by first | omega | (simp; done) | (simp; omega)))) ?_
   refine lw_vy (.bool (decide ((xs.getD (((n) - 1)) 0) = 0))) (d := 10) rfl rfl (congrArg Value.bool (decide_eq_true hb18)) (dv_eql (a := xs.getD (((n) - 1)) 0) (b := 0) (T rfl rfl) C) ?_
   refine lw_v (.bool (decide ((xs.getD (((n) - 1)) 0) = 0))) (dv_pick_t (T rfl (congrArg Value.bool (decide_eq_true hb18))) (T rfl rfl)) ?_
   refine lw_nil ?_
   by_cases hb22 : (xs.getD (((n) - 1)) 0) = 0
   · refine rk_ct (T rfl (congrArg Value.bool (decide_eq_true hb22))) ?_
     refine rk_skip ?_
     refine rk_block ?_
     refine rk_reg ?_
     refine lw_v (.int .i64 ((n : Int))) (dv_move (T rfl f14)) ?_
     refine lw_v (.int .i64 (((n : Int)) - 1)) (dv_sub (a := (n : Int)) (b := 1) (z := ((n : Int)) - 1) (T rfl rfl) C (wr_i64 (by omega) (by omega))) ?_
     refine lw_v (.int .i64 (((n : Int)) - 1)) (dv_assign (T rfl rfl)) ?_
     refine lw_nil ?_
     refine rk_inBlock ?_
     exact ih8 (((n - 1))) _ _ (by rw [hd17]; omega) ⟨(n - 1), rfl, f11, f12, f13, (vi (by omega)), E15, H16, (by omega), (by rw [← ht, trim_less xs n (by omega) hn (by rw [getD_take _ _ _ (by omega)]; first | assumption | simpa using ‹_›)])⟩
   · refine rk_cf (T rfl (congrArg Value.bool (decide_eq_false hb22))) ?_
     refine rk_exit rfl ?_
     refine rk_seq ?_
     refine rk_seq ?_
     refine rk_reg ?_
     refine lw_v (.int .i64 ((n : Int))) (dv_move (T rfl f14)) ?_
     refine lw_v (.bool (decide (((n : Int)) = 0))) (dv_eql (a := (n : Int)) (b := 0) (T rfl rfl) C) ?_
     refine lw_nil ?_
     by_cases hb23 : ((n : Int)) = 0
     · refine rk_ct (T rfl (congrArg Value.bool (decide_eq_true hb23))) ?_
       refine rk_seq ?_
       refine rk_reg ?_
       refine lw_v (.agg #[.bool false, .slice none 0 0]) (dv_build (pv := []) (l := [.bool false, .slice none 0 0]) zc58 pl58 trivial rfl) ?_
       refine lw_e (oe_store (v := .agg #[.bool false, .slice none 0 0]) (vs := [.bool false, .slice none 0 0]) (l := [.bool false, .slice none 0 0]) (T rfl f13) (T rfl rfl) sz58 rfl rfl rfl H16 rfl ?_)
       intro w24 s25 H26
       have E27 := below_st E15 N4 s25
       refine lw_nil ?_
       refine rk_ret Tryd.func51 (v := .agg #[.bool false, .slice none 0 0]) (res1 Tryd.results51 (rv_cells (l := [.bool false, .slice none 0 0]) agt58 sz58 rfl f13 H26 rfl)) ⟨_, rfl, ?_⟩
       have hl := trim_done xs n hn ht (by rw [getD_take_or]; omega)
       exact ⟨by rw [hl]; rw [if_pos (by omega)], E27⟩
     · refine rk_cf (T rfl (congrArg Value.bool (decide_eq_false hb23))) ?_
       refine rk_skip ?_
       refine rk_seq ?_
       refine rk_reg ?_
       refine lw_v (.bool neg) (dv_move (T rfl f11)) ?_
       refine lw_v (.slice (some ⟨g20, o21, none⟩) (xs.length) c) (dv_move (T rfl f12)) ?_
       refine lw_v (.int .i64 ((n : Int))) (dv_move (T rfl f14)) ?_
       refine lw_v (.slice (some ⟨g20, o21, none⟩) n c) (dv_sliceH (ad := (some ⟨g20, o21, none⟩)) (l := xs.length) (c := c) (i := n) (j := (n : Int)) us56 sz61 (T rfl rfl) (T rfl rfl) (by omega) (by first | omega | (simp; done) | (simp; omega))) ?_
       refine lw_v (.agg #[.bool neg, .slice (some ⟨g20, o21, none⟩) n c]) (dv_build (pv := [(0, .bool neg), (1, .slice (some ⟨g20, o21, none⟩) n c)]) (l := [.bool neg, .slice (some ⟨g20, o21, none⟩) n c]) zc58 pl58 ⟨rfl, (T rfl rfl), ⟨rfl, (T rfl rfl), trivial⟩⟩ rfl) ?_
       refine lw_e (oe_store (v := .agg #[.bool neg, .slice (some ⟨g20, o21, none⟩) n c]) (vs := [.bool neg, .slice (some ⟨g20, o21, none⟩) n c]) (l := [.bool neg, .slice (some ⟨g20, o21, none⟩) n c]) (T rfl f13) (T rfl rfl) sz58 rfl rfl rfl H16 rfl ?_)
       intro w28 s29 H30
       have E31 := below_st E15 N4 s29
       refine lw_nil ?_
       refine rk_ret Tryd.func51 (v := .agg #[.bool neg, .slice (some ⟨g20, o21, none⟩) n c]) (res1 Tryd.results51 (rv_cells (l := [.bool neg, .slice (some ⟨g20, o21, none⟩) n c]) agt58 sz58 rfl f13 H30 rfl)) ⟨_, rfl, ?_⟩
       have hl := trim_done xs n hn ht (by rw [getD_take_or]; omega)
       exact ⟨by rw [hl]; rw [if_neg (by omega)], E31⟩
 · refine lw_no (d := 10) rfl rfl (congrArg Value.bool (decide_eq_false hb18)) ?_
   refine lw_no (d := 10) rfl rfl (congrArg Value.bool (decide_eq_false hb18)) ?_
   refine lw_no (d := 10) rfl rfl (congrArg Value.bool (decide_eq_false hb18)) ?_
   refine lw_no (d := 10) rfl rfl (congrArg Value.bool (decide_eq_false hb18)) ?_
   refine lw_no (d := 10) rfl rfl (congrArg Value.bool (decide_eq_false hb18)) ?_
   refine lw_no (d := 10) rfl rfl (congrArg Value.bool (decide_eq_false hb18)) ?_
   refine lw_v (.bool false) (dv_pick_f (T rfl (congrArg Value.bool (decide_eq_false hb18))) C) ?_
   refine lw_nil ?_
   refine rk_cf (T rfl rfl) ?_
   refine rk_exit rfl ?_
   refine rk_seq ?_
   refine rk_seq ?_
   refine rk_reg ?_
   refine lw_v (.int .i64 ((n : Int))) (dv_move (T rfl f14)) ?_
   refine lw_v (.bool (decide (((n : Int)) = 0))) (dv_eql (a := (n : Int)) (b := 0) (T rfl rfl) C) ?_
   refine lw_nil ?_
   by_cases hb32 : ((n : Int)) = 0
   · refine rk_ct (T rfl (congrArg Value.bool (decide_eq_true hb32))) ?_
     refine rk_seq ?_
     refine rk_reg ?_
     refine lw_v (.agg #[.bool false, .slice none 0 0]) (dv_build (pv := []) (l := [.bool false, .slice none 0 0]) zc58 pl58 trivial rfl) ?_
     refine lw_e (oe_store (v := .agg #[.bool false, .slice none 0 0]) (vs := [.bool false, .slice none 0 0]) (l := [.bool false, .slice none 0 0]) (T rfl f13) (T rfl rfl) sz58 rfl rfl rfl H16 rfl ?_)
     intro w33 s34 H35
     have E36 := below_st E15 N4 s34
     refine lw_nil ?_
     refine rk_ret Tryd.func51 (v := .agg #[.bool false, .slice none 0 0]) (res1 Tryd.results51 (rv_cells (l := [.bool false, .slice none 0 0]) agt58 sz58 rfl f13 H35 rfl)) ⟨_, rfl, ?_⟩
     have hl := trim_done xs n hn ht (by rw [getD_take_or]; omega)
     exact ⟨by rw [hl]; rw [if_pos (by omega)], E36⟩
   · refine rk_cf (T rfl (congrArg Value.bool (decide_eq_false hb32))) ?_
     refine rk_skip ?_
     refine rk_seq ?_
     refine rk_reg ?_
     refine lw_v (.bool neg) (dv_move (T rfl f11)) ?_
     refine lw_v (.slice A (xs.length) c) (dv_move (T rfl f12)) ?_
     refine lw_v (.int .i64 ((n : Int))) (dv_move (T rfl f14)) ?_
     refine lw_v (.slice A n c) (dv_sliceH (ad := A) (l := xs.length) (c := c) (i := n) (j := (n : Int)) us56 sz61 (T rfl rfl) (T rfl rfl) (by omega) (by first | omega | (simp; done) | (simp; omega))) ?_
     refine lw_v (.agg #[.bool neg, .slice A n c]) (dv_build (pv := [(0, .bool neg), (1, .slice A n c)]) (l := [.bool neg, .slice A n c]) zc58 pl58 ⟨rfl, (T rfl rfl), ⟨rfl, (T rfl rfl), trivial⟩⟩ rfl) ?_
     refine lw_e (oe_store (v := .agg #[.bool neg, .slice A n c]) (vs := [.bool neg, .slice A n c]) (l := [.bool neg, .slice A n c]) (T rfl f13) (T rfl rfl) sz58 rfl rfl rfl H16 rfl ?_)
     intro w37 s38 H39
     have E40 := below_st E15 N4 s38
     refine lw_nil ?_
     refine rk_ret Tryd.func51 (v := .agg #[.bool neg, .slice A n c]) (res1 Tryd.results51 (rv_cells (l := [.bool neg, .slice A n c]) agt58 sz58 rfl f13 H39 rfl)) ⟨_, rfl, ?_⟩
     have hl := trim_done xs n hn ht (by rw [getD_take_or]; omega)
     exact ⟨by rw [hl]; rw [if_neg (by omega)], E40⟩
theorem l1Trim_num {w : World} {neg : Bool} {A : Option Addr} {l c s : Nat} {x : Int} (h : Ws 32 61 .u32 w A l c x) (hl : l ≤ 1000000) (hs : x < 2 ^ s) : Ct Tryd.prog 51 [.bool neg, .slice A l c] w fun v w1 =>
 ∃ nb A' n c', v = .agg #[.bool nb, .slice A' n c'] ∧ Ext w w1 ∧ Num 32 61 .u32 w1 nb A' n c' (sg neg x) s := by
 obtain ⟨xs, rfl, hc, hw, ho, hv⟩ := h
 refine (l1Trim_ok (neg := neg) hw hc hl).mono fun v w1 ⟨h1, h2⟩ => ?_
 have hc' := trimL_canon xs
 have hcp := canon_pos (B := 2 ^ 32) (by decide) (trimL_ok ho) hc'
 rw [trimL_val, ← hv] at hcp
 have h0 := valB_nonneg (B := 2 ^ 32) (by decide) ho
 by_cases hz : (trimL xs).length = 0
 · rw [if_pos hz] at h1
   have hx0 : x = 0 := by omega
   subst hx0
   exact ⟨_, _, _, _, h1, h2, Num.zero.to (by cases neg <;> simp [sg]) (Nat.le_refl _)⟩
 · rw [if_neg hz] at h1
   exact ⟨_, _, _, _, h1, h2, Wc.num ⟨trimL xs, rfl, Nat.le_trans (trimL_len xs) hc, (hw.ext h2).trim, trimL_ok ho, hc', by rw [hv, trimL_val]⟩ (fun hn => by omega) rfl hs⟩
end Go.Proofs.YtmbpomcbdopgnaaDoor.W
set_option linter.unusedVariables false
set_option linter.unusedSimpArgs false
namespace Go.Proofs.YtmbpomcbdopgnaaDoor.W
open Go Go.RowKit Go.Proofs.YtmbpomcbdopgnaaDoor.Fw
attribute [local irreducible] RunK LW AW DV OE Ct
theorem agt4 : aggB Tryd.prog 4 = some false := by kernel_rfl
theorem agt56 : aggB Tryd.prog 56 = some false := by kernel_rfl
theorem co51 : callOk Tryd.prog 51 = true := by kernel_rfl
theorem fo58_0 : fieldOffB Tryd.prog 58 0 = some 0 := by kernel_rfl
theorem fo58_1 : fieldOffB Tryd.prog 58 1 = some 1 := by kernel_rfl
theorem mo : Tryd.prog.follows .mixedOrders = true := by kernel_rfl
end Go.Proofs.YtmbpomcbdopgnaaDoor.W
namespace Go.Proofs
open Go.Shelf
def Tryd.lays156_ren : Go.Shelf.Ren := ⟨fun | 156 => 28 | 165 => 39 | 166 => 40 | 169 => 41 | 240 => 57 | 241 => 58 | 276 => 76 | 277 => 77 | n => n, fun | 31 => 33 | 9 => 9 | 3 => 3 | 4 => 4 | 0 => 0 | 20 => 20 | 72 => 75 | 76 => 77 | 70 => 72 | 37 => 73 | 75 => 64 | 127 => 97 | 164 => 116 | 5 => 5 | 80 => 79 | n => n, fun | n => n⟩
theorem Tryd.lays156 : Go.Proofs.Lays.n156 Tryd.prog Tryd.lays156_ren := {
 mixed := by kernel_rfl
 f156 := Tryd.func28.trans (congrArg some (by kernel_rfl))
 f165 := Tryd.func39.trans (congrArg some (by kernel_rfl))
 f166 := Tryd.func40.trans (congrArg some (by kernel_rfl))
 f169 := Tryd.func41.trans (congrArg some (by kernel_rfl))
 f240 := Tryd.func57.trans (congrArg some (by kernel_rfl))
 f241 := Tryd.func58.trans (congrArg some (by kernel_rfl))
 f276 := Tryd.func76.trans (congrArg some (by kernel_rfl))
 f277 := Tryd.func77.trans (congrArg some (by kernel_rfl))
 t0 := Tryd.underlying0
 a0 := Tryd.isAgg0
 z0 := Tryd.sizeOf0
 v0 := Tryd.zeroValue0
 t3 := Tryd.underlying3
 a3 := Tryd.isAgg3
 z3 := Tryd.sizeOf3
 v3 := Tryd.zeroValue3
 t4 := Tryd.underlying4
 a4 := Tryd.isAgg4
 z4 := Tryd.sizeOf4
 v4 := Tryd.zeroValue4
 t9 := Tryd.underlying9
 a9 := Tryd.isAgg9
 z9 := Tryd.sizeOf9
 v9 := Tryd.zeroValue9
 t20 := Tryd.underlying20
 a20 := Tryd.isAgg20
 z20 := Tryd.sizeOf20
 v20 := Tryd.zeroValue20
 t31 := Tryd.underlying33
 a31 := Tryd.isAgg33
 z31 := Tryd.sizeOf33
 v31 := Tryd.zeroValue33
 t37 := Tryd.underlying73
 a37 := Tryd.isAgg73
 z37 := Tryd.sizeOf73
 v37 := Tryd.zeroValue73
 t70 := Tryd.underlying72
 a70 := Tryd.isAgg72
 z70 := Tryd.sizeOf72
 v70 := Tryd.zeroValue72
 t72 := Tryd.underlying75
 a72 := Tryd.isAgg75
 z72 := Tryd.sizeOf75
 v72 := Tryd.zeroValue75
 t75 := Tryd.underlying64
 a75 := Tryd.isAgg64
 z75 := Tryd.sizeOf64
 v75 := Tryd.zeroValue64
 t76 := Tryd.underlying77
 a76 := Tryd.isAgg77
 z76 := Tryd.sizeOf77
 v76 := Tryd.zeroValue77
 t127 := Tryd.underlying97
 a127 := Tryd.isAgg97
 z127 := Tryd.sizeOf97
 v127 := Tryd.zeroValue97
 t164 := Tryd.underlying116
 a164 := Tryd.isAgg116
 z164 := Tryd.sizeOf116
 v164 := Tryd.zeroValue116 }
theorem Tryd.Builder_Extra_156 : Builder.Extra Tryd.prog Tryd.lays156_ren := {
 sizeBuilder := by kernel_rfl
 liesBuilder := by kernel_rfl
 t5 := Tryd.underlying5
 a5 := Tryd.isAgg5
 z5 := Tryd.sizeOf5
 v5 := Tryd.zeroValue5
 infoByte := by kernel_rfl
 cellsByte := by kernel_rfl
 sizeByte := by kernel_rfl
 neB5 := by decide }
open Go.RowKit in
theorem Tryd.strings_Join_none (a : Option Addr) (c : Nat) (sep : ByteArray) (w : World) :
 Calls Tryd.prog 28 #[.slice a 0 c, .string sep] w fun e w' => e = .returned (.string ⟨#[]⟩) ∧ w' = w := Any.strings_Join_none Tryd.lays156 Tryd.Builder_Extra_156 a c sep w
open Go.RowKit in
theorem Tryd.strings_Join (bk o c : Nat) (xs : List ByteArray) (sep : ByteArray) (w : World) (hcells : ∀ (j : Nat) x, xs[j]? = some x → w.cell? ⟨bk, o + j, none⟩ = some (.string x)) (hbk : bk < w.heap.size) (hN : xs.length ≤ 140737488355328) (hcap : xs.length ≤ c) (hlen : (Lib.join (xs.map (·.data.toList)) sep.data.toList).length ≤ 140737488355328) :
 Calls Tryd.prog 28 #[.slice (some ⟨bk, o, none⟩) xs.length c, .string sep] w fun e w' => e = .returned (.string ⟨(Lib.join (xs.map (·.data.toList)) sep.data.toList).toArray⟩) ∧ Below w.heap.size w w' := Any.strings_Join Tryd.lays156 Tryd.Builder_Extra_156 bk o c xs sep w hcells hbk hN hcap hlen
def Tryd.laysM173_ren : Go.Shelf.Ren := ⟨fun | 173 => 27 | 246 => 38 | 283 => 53 | 284 => 54 | 285 => 55 | 286 => 56 | 129 => 72 | 317 => 71 | 318 => 73 | 319 => 74 | 320 => 75 | 337 => 88 | 338 => 89 | n => n, fun | 2 => 2 | 3 => 3 | 9 => 9 | 4 => 4 | 171 => 92 | 0 => 0 | 53 => 86 | 37 => 73 | 5 => 5 | 173 => 95 | 212 => 112 | 51 => 61 | 20 => 20 | 213 => 113 | 46 => 87 | 232 => 134 | 233 => 135 | n => n, fun | 17 => 0 | 18 => 6 | 19 => 7 | n => n⟩
theorem Tryd.laysM173 : Go.Proofs.LaysM.n173 Tryd.prog Tryd.laysM173_ren := {
 mixed := by kernel_rfl
 f129 := Tryd.func72.trans (congrArg some (by kernel_rfl))
 f173 := Tryd.func27.trans (congrArg some (by kernel_rfl))
 f246 := Tryd.func38.trans (congrArg some (by kernel_rfl))
 f283 := Tryd.func53.trans (congrArg some (by kernel_rfl))
 f284 := Tryd.func54.trans (congrArg some (by kernel_rfl))
 f285 := Tryd.func55.trans (congrArg some (by kernel_rfl))
 f286 := Tryd.func56.trans (congrArg some (by kernel_rfl))
 f317 := Tryd.func71.trans (congrArg some (by kernel_rfl))
 f318 := Tryd.func73.trans (congrArg some (by kernel_rfl))
 f319 := Tryd.func74.trans (congrArg some (by kernel_rfl))
 f320 := Tryd.func75.trans (congrArg some (by kernel_rfl))
 f337 := Tryd.func88.trans (congrArg some (by kernel_rfl))
 f338 := Tryd.func89.trans (congrArg some (by kernel_rfl))
 t0 := Tryd.underlying0
 a0 := Tryd.isAgg0
 z0 := Tryd.sizeOf0
 v0 := Tryd.zeroValue0
 t2 := Tryd.underlying2
 a2 := Tryd.isAgg2
 z2 := Tryd.sizeOf2
 v2 := Tryd.zeroValue2
 t3 := Tryd.underlying3
 a3 := Tryd.isAgg3
 z3 := Tryd.sizeOf3
 v3 := Tryd.zeroValue3
 t4 := Tryd.underlying4
 a4 := Tryd.isAgg4
 z4 := Tryd.sizeOf4
 v4 := Tryd.zeroValue4
 t5 := Tryd.underlying5
 a5 := Tryd.isAgg5
 z5 := Tryd.sizeOf5
 v5 := Tryd.zeroValue5
 t9 := Tryd.underlying9
 a9 := Tryd.isAgg9
 z9 := Tryd.sizeOf9
 v9 := Tryd.zeroValue9
 t20 := Tryd.underlying20
 a20 := Tryd.isAgg20
 z20 := Tryd.sizeOf20
 v20 := Tryd.zeroValue20
 t37 := Tryd.underlying73
 a37 := Tryd.isAgg73
 z37 := Tryd.sizeOf73
 v37 := Tryd.zeroValue73
 t46 := Tryd.underlying87
 a46 := Tryd.isAgg87
 z46 := Tryd.sizeOf87
 v46 := Tryd.zeroValue87
 t51 := Tryd.underlying61
 a51 := Tryd.isAgg61
 z51 := Tryd.sizeOf61
 v51 := Tryd.zeroValue61
 t53 := Tryd.underlying86
 a53 := Tryd.isAgg86
 z53 := Tryd.sizeOf86
 v53 := Tryd.zeroValue86
 t171 := Tryd.underlying92
 a171 := Tryd.isAgg92
 z171 := Tryd.sizeOf92
 v171 := Tryd.zeroValue92
 t173 := Tryd.underlying95
 a173 := Tryd.isAgg95
 z173 := Tryd.sizeOf95
 v173 := Tryd.zeroValue95
 t212 := Tryd.underlying112
 a212 := Tryd.isAgg112
 z212 := Tryd.sizeOf112
 v212 := Tryd.zeroValue112
 t213 := Tryd.underlying113
 a213 := Tryd.isAgg113
 z213 := Tryd.sizeOf113
 t232 := Tryd.underlying134
 a232 := Tryd.isAgg134
 z232 := Tryd.sizeOf134
 v232 := Tryd.zeroValue134
 t233 := Tryd.underlying135
 a233 := Tryd.isAgg135
 z233 := Tryd.sizeOf135
 v233 := Tryd.zeroValue135
 g17 := by kernel_rfl
 g18 := by kernel_rfl
 g19 := by kernel_rfl
 i0 := by kernel_rfl
 i2 := by kernel_rfl
 i3 := by kernel_rfl
 i4 := by kernel_rfl
 i5 := by kernel_rfl
 i9 := by kernel_rfl
 i20 := by kernel_rfl
 i37 := by kernel_rfl
 i46 := by kernel_rfl
 i51 := by kernel_rfl
 i53 := by kernel_rfl
 i171 := by kernel_rfl
 i173 := by kernel_rfl
 i212 := by kernel_rfl
 i232 := by kernel_rfl
 i233 := by kernel_rfl
 m17 := by kernel_rfl
 m18 := by kernel_rfl
 m19 := by kernel_rfl }
open Go.RowKit Go.Sort Go.Lib in
theorem Tryd.strconv_FormatInt_10 (n : Int) (h0 : -9223372036854775808 ≤ n) (h1 : n ≤ 9223372036854775807) (w : World) (htab : Lib.TabIs Tryd.prog w "internal/strconv.uint64pow10" .u64 Lib.pow10Tab) :
 Calls Tryd.prog 27 #[.int .i64 n, .int .i64 10] w fun e w' => e = .returned (.string ⟨(Lib.itoa n).toArray⟩) ∧ ∃ k os, w' = grow (w.drewN k) os := Any.strconv_FormatInt_10 Tryd.laysM173 n h0 h1 w htab
end Go.Proofs
set_option linter.unusedVariables false
set_option linter.unusedSimpArgs false
namespace Go.Proofs.YtmbpomcbdopgnaaDoor.W
open Go Go.RowKit Go.Proofs.YtmbpomcbdopgnaaDoor.Fw
attribute [local irreducible] RunK LW AW DV OE Ct
theorem ui2 : Tryd.prog.underlying 2 = some (.int .i64) := by kernel_rfl
set_option maxHeartbeats 1000000 in
theorem l1Int_ok {w : World} {x : Int} (hx : -9223372036854775808 ≤ x ∧ x ≤ 9223372036854775807) : Ct Tryd.prog 36 [.int .i64 x] w fun v w1 => ∃ nr A' n c', v = .agg #[.bool nr, .slice A' n c'] ∧ Ext w w1 ∧ Num 32 61 .u32 w1 nr A' n c' (x) (64) := by
 refine ct_run (n := 19) Tryd.func36 rfl Tryd.ntmps36 rfl ?_
 have E0 : Below w.heap.size w w := Below.refl _ _
 refine rk_seq ?_
 refine rk_reg ?_
 refine lw_e (oe_alloc ze58 ?_)
 intro b1 w2 n3
 have N4 : w.heap.size ≤ b1 := n3.eq ▸ E0.size
 have E5 := below_ext E0 E0.size n3.ext
 refine lw_nil ?_
 refine rk_seq ?_
 refine rk_reg ?_
 refine lw_v (.int .i64 x) (dv_move (T rfl rfl)) ?_
 refine lw_v (.int .u64 ((x) % 18446744073709551616)) (dv_conv (a := x) (z := (x) % 18446744073709551616) ui2 ui86 (T rfl rfl) (wr_u64 _)) ?_
 refine lw_v (.int .u64 ((x) % 18446744073709551616)) (dv_assign (T rfl rfl)) ?_
 refine lw_nil ?_
 refine rk_seq ?_
 refine rk_seq ?_
 refine rk_reg ?_
 refine lw_v (.int .i64 x) (dv_move (T rfl rfl)) ?_
 refine lw_v (.bool (decide (x < 0))) (dv_lss (a := x) (b := 0) (T rfl rfl) C) ?_
 refine lw_nil ?_
 by_cases hb6 : x < 0
 · refine rk_ct (T rfl (congrArg Value.bool (decide_eq_true hb6))) ?_
   refine rk_reg ?_
   refine lw_v (.int .u64 ((x) % 18446744073709551616)) (dv_move (T rfl rfl)) ?_
   refine lw_v (.int .u64 ((0 - ((x) % 18446744073709551616)) % 18446744073709551616)) (dv_sub (a := 0) (b := (x) % 18446744073709551616) (z := (0 - ((x) % 18446744073709551616)) % 18446744073709551616) C (T rfl rfl) (wr_u64 _)) ?_
   refine lw_v (.int .u64 ((0 - ((x) % 18446744073709551616)) % 18446744073709551616)) (dv_assign (T rfl rfl)) ?_
   refine lw_nil ?_
   refine rk_seq ?_
   refine rk_reg ?_
   refine lw_v (.int .i64 x) (dv_move (T rfl rfl)) ?_
   refine lw_v (.bool (decide (x < 0))) (dv_lss (a := x) (b := 0) (T rfl rfl) C) ?_
   refine lw_v (.int .u64 ((0 - ((x) % 18446744073709551616)) % 18446744073709551616)) (dv_move (T rfl rfl)) ?_
   refine lw_v (.int .u32 (((0 - ((x) % 18446744073709551616)) % 18446744073709551616) % 4294967296)) (dv_conv (a := (0 - ((x) % 18446744073709551616)) % 18446744073709551616) (z := ((0 - ((x) % 18446744073709551616)) % 18446744073709551616) % 4294967296) ui86 ui61 (T rfl rfl) (wr_u32 _)) ?_
   refine lw_v (.int .u64 ((0 - ((x) % 18446744073709551616)) % 18446744073709551616)) (dv_move (T rfl rfl)) ?_
   refine lw_v (.int .u64 (((0 - ((x) % 18446744073709551616)) % 18446744073709551616) / 4294967296)) (dv_shr (a := (0 - ((x) % 18446744073709551616)) % 18446744073709551616) (b := 32) (z := ((0 - ((x) % 18446744073709551616)) % 18446744073709551616) / 4294967296) (T rfl rfl) C (by decide) (shr_c (n := 32) (by omega) (by decide))) ?_
   refine lw_v (.int .u32 ((((0 - ((x) % 18446744073709551616)) % 18446744073709551616) / 4294967296) % 4294967296)) (dv_conv (a := ((0 - ((x) % 18446744073709551616)) % 18446744073709551616) / 4294967296) (z := (((0 - ((x) % 18446744073709551616)) % 18446744073709551616) / 4294967296) % 4294967296) ui86 ui61 (T rfl rfl) (wr_u32 _)) ?_
   refine lw_e (oe_buildSlice (pv := [(0, .int .u32 (((0 - ((x) % 18446744073709551616)) % 18446744073709551616) % 4294967296)), (1, .int .u32 ((((0 - ((x) % 18446744073709551616)) % 18446744073709551616) / 4294967296) % 4294967296))]) (init := [.int .u32 0, .int .u32 0]) (l := [.int .u32 (((0 - ((x) % 18446744073709551616)) % 18446744073709551616) % 4294967296), .int .u32 ((((0 - ((x) % 18446744073709551616)) % 18446744073709551616) / 4294967296) % 4294967296)]) us56 sz61 rfl rfl zc61 (by kernel_rfl) ⟨rfl, (T rfl rfl), ⟨rfl, (T rfl rfl), trivial⟩⟩ rfl ?_)
   intro b7 w8 n9
   have N10 : w.heap.size ≤ b7 := n9.eq ▸ E5.size
   have : b1 < b7 := n9.eq ▸ lt_of_blk n3.blk
   have E11 := below_ext E5 E5.size n9.ext
   refine lw_e (oe_callf (vs := [.bool (decide (x < 0)), .slice (some ⟨b7, 0, none⟩) 2 2]) co51 (ar2 (T rfl rfl) (T rfl rfl)) (l1Trim_num (s := 64) (neg := decide (x < 0)) (⟨[((0 - ((x) % 18446744073709551616)) % 18446744073709551616) % 4294967296, (((0 - ((x) % 18446744073709551616)) % 18446744073709551616) / 4294967296) % 4294967296], rfl, Nat.le_refl _, Wd.ownW n9.blk, (okW_lit (by simp <;> omega)), rfl⟩ : Ws _ _ _ _ _ _ _ _) (by first | omega | decide) (valB_sz (m := 32) (xs := [((0 - ((x) % 18446744073709551616)) % 18446744073709551616) % 4294967296, (((0 - ((x) % 18446744073709551616)) % 18446744073709551616) / 4294967296) % 4294967296]) (n := 2) (okW_lit (by simp <;> omega)) rfl)) ?_)
   rintro _ w17 ⟨nb12, A13, n14, c15, rfl, e18, hn16⟩
   have E19 := below_ext E11 E11.size e18
   have lhn16 := Num.len (by decide) hn16
   have H20 := (e18.blk (n9.ext.blk n3.blk))
   refine lw_e (oe_store (v := .agg #[.bool nb12, .slice A13 n14 c15]) (vs := [.bool nb12, .slice A13 n14 c15]) (l := [.bool nb12, .slice A13 n14 c15]) (T rfl rfl) (T rfl rfl) sz58 rfl rfl rfl H20 rfl ?_)
   intro w21 s22 H23
   have E24 := below_st E19 N4 s22
   refine lw_nil ?_
   refine rk_ret Tryd.func36 (v := .agg #[.bool nb12, .slice A13 n14 c15]) (res1 Tryd.results36 (rv_cells (l := [.bool nb12, .slice A13 n14 c15]) agt58 sz58 rfl rfl H23 rfl)) ⟨_, rfl, ?_⟩
   have h25 := (hn16.st s22 H20 (by decide))
   exact ⟨_, _, _, _, rfl, E24, h25.tight (int_32 (by omega) (by omega)) (by have e : (2 : Nat) ^ 64 = 18446744073709551616 := (by decide); omega)⟩
 · refine rk_cf (T rfl (congrArg Value.bool (decide_eq_false hb6))) ?_
   refine rk_skip ?_
   refine rk_seq ?_
   refine rk_reg ?_
   refine lw_v (.int .i64 x) (dv_move (T rfl rfl)) ?_
   refine lw_v (.bool (decide (x < 0))) (dv_lss (a := x) (b := 0) (T rfl rfl) C) ?_
   refine lw_v (.int .u64 ((x) % 18446744073709551616)) (dv_move (T rfl rfl)) ?_
   refine lw_v (.int .u32 (((x) % 18446744073709551616) % 4294967296)) (dv_conv (a := (x) % 18446744073709551616) (z := ((x) % 18446744073709551616) % 4294967296) ui86 ui61 (T rfl rfl) (wr_u32 _)) ?_
   refine lw_v (.int .u64 ((x) % 18446744073709551616)) (dv_move (T rfl rfl)) ?_
   refine lw_v (.int .u64 (((x) % 18446744073709551616) / 4294967296)) (dv_shr (a := (x) % 18446744073709551616) (b := 32) (z := ((x) % 18446744073709551616) / 4294967296) (T rfl rfl) C (by decide) (shr_c (n := 32) (by omega) (by decide))) ?_
   refine lw_v (.int .u32 ((((x) % 18446744073709551616) / 4294967296) % 4294967296)) (dv_conv (a := ((x) % 18446744073709551616) / 4294967296) (z := (((x) % 18446744073709551616) / 4294967296) % 4294967296) ui86 ui61 (T rfl rfl) (wr_u32 _)) ?_
   refine lw_e (oe_buildSlice (pv := [(0, .int .u32 (((x) % 18446744073709551616) % 4294967296)), (1, .int .u32 ((((x) % 18446744073709551616) / 4294967296) % 4294967296))]) (init := [.int .u32 0, .int .u32 0]) (l := [.int .u32 (((x) % 18446744073709551616) % 4294967296), .int .u32 ((((x) % 18446744073709551616) / 4294967296) % 4294967296)]) us56 sz61 rfl rfl zc61 (by kernel_rfl) ⟨rfl, (T rfl rfl), ⟨rfl, (T rfl rfl), trivial⟩⟩ rfl ?_)
   intro b26 w27 n28
   have N29 : w.heap.size ≤ b26 := n28.eq ▸ E5.size
   have : b1 < b26 := n28.eq ▸ lt_of_blk n3.blk
   have E30 := below_ext E5 E5.size n28.ext
   refine lw_e (oe_callf (vs := [.bool (decide (x < 0)), .slice (some ⟨b26, 0, none⟩) 2 2]) co51 (ar2 (T rfl rfl) (T rfl rfl)) (l1Trim_num (s := 64) (neg := decide (x < 0)) (⟨[((x) % 18446744073709551616) % 4294967296, (((x) % 18446744073709551616) / 4294967296) % 4294967296], rfl, Nat.le_refl _, Wd.ownW n28.blk, (okW_lit (by simp <;> omega)), rfl⟩ : Ws _ _ _ _ _ _ _ _) (by first | omega | decide) (valB_sz (m := 32) (xs := [((x) % 18446744073709551616) % 4294967296, (((x) % 18446744073709551616) / 4294967296) % 4294967296]) (n := 2) (okW_lit (by simp <;> omega)) rfl)) ?_)
   rintro _ w36 ⟨nb31, A32, n33, c34, rfl, e37, hn35⟩
   have E38 := below_ext E30 E30.size e37
   have lhn35 := Num.len (by decide) hn35
   have H39 := (e37.blk (n28.ext.blk n3.blk))
   refine lw_e (oe_store (v := .agg #[.bool nb31, .slice A32 n33 c34]) (vs := [.bool nb31, .slice A32 n33 c34]) (l := [.bool nb31, .slice A32 n33 c34]) (T rfl rfl) (T rfl rfl) sz58 rfl rfl rfl H39 rfl ?_)
   intro w40 s41 H42
   have E43 := below_st E38 N4 s41
   refine lw_nil ?_
   refine rk_ret Tryd.func36 (v := .agg #[.bool nb31, .slice A32 n33 c34]) (res1 Tryd.results36 (rv_cells (l := [.bool nb31, .slice A32 n33 c34]) agt58 sz58 rfl rfl H42 rfl)) ⟨_, rfl, ?_⟩
   have h44 := (hn35.st s41 H39 (by decide))
   exact ⟨_, _, _, _, rfl, E43, h44.tight (int_32 (by omega) (by omega)) (by have e : (2 : Nat) ^ 64 = 18446744073709551616 := (by decide); omega)⟩
end Go.Proofs.YtmbpomcbdopgnaaDoor.W
set_option linter.unusedVariables false
set_option linter.unusedSimpArgs false
namespace Go.Proofs.YtmbpomcbdopgnaaDoor.W
open Go Go.RowKit Go.Proofs.YtmbpomcbdopgnaaDoor.Fw
attribute [local irreducible] RunK LW AW DV OE Ct
theorem fb58_1 : fieldB Tryd.prog 58 1 = some (1, 56) := by kernel_rfl
theorem sz5 : sizeB Tryd.prog 5 = some 1 := by kernel_rfl
theorem ui5 : Tryd.prog.underlying 5 = some (.int .u8) := by kernel_rfl
theorem us73 : Tryd.prog.underlying 73 = some (.slice 5) := by kernel_rfl
theorem ut9 : Tryd.prog.underlying 9 = some .string := by kernel_rfl
theorem zc5 : zcB Tryd.prog 5 = some [.int .u8 0] := by kernel_rfl
set_option maxHeartbeats 1000000 in
theorem l1Text_ok {w : World} {na : Bool} {Aa : Option Addr} {la ca : Nat} {x : Int} {sx : Nat} (ha : Num 32 61 .u32 w na Aa la ca x sx) (hs : sx ≤ 100000) : Ct Tryd.prog 35 [.agg #[.bool na, .slice Aa la ca]] w fun v w1 => v = .string (bOf (txtL x)) ∧ Ext w w1 := by
 refine ct_run (n := 58) Tryd.func35 rfl Tryd.ntmps35 rfl ?_
 have E0 : Below w.heap.size w w := Below.refl _ _
 have lha := Num.len (by decide) ha
 have hDs := dg_bits ha.lt
 refine rk_seq ?_
 refine rk_reg ?_
 refine lw_e (oe_box (v := .agg #[.bool na, .slice Aa la ca]) (cs := #[.bool na, .slice Aa la ca]) (T rfl rfl) rfl ?_)
 intro b1 w2 n3
 have N4 : w.heap.size ≤ b1 := n3.eq ▸ E0.size
 have E5 := below_ext E0 E0.size n3.ext
 refine lw_v (.string (bOf [])) (dv_assign C) ?_
 refine lw_nil ?_
 refine rk_seq ?_
 refine rk_seq ?_
 refine rk_reg ?_
 refine lw_v (.pointer (some ⟨b1, 1, none⟩)) (dv_fieldAddr (a := ⟨b1, 0, none⟩) (a' := ⟨b1, 1, none⟩) fo58_1 (T rfl rfl) rfl) ?_
 refine lw_v (.slice Aa la ca) (dv_load1 (b := b1) (o := 1) agt56 (T rfl rfl) n3.blk rfl) ?_
 refine lw_v (.int .i64 ((la : Int))) (dv_len (ad := Aa) (l := la) (c := ca) us56 (T rfl rfl)) ?_
 refine lw_v (.bool (decide (((la : Int)) = 0))) (dv_eql (a := (la : Int)) (b := 0) (T rfl rfl) C) ?_
 refine lw_nil ?_
 by_cases hb6 : ((la : Int)) = 0
 · refine rk_ct (T rfl (congrArg Value.bool (decide_eq_true hb6))) ?_
   refine rk_seq ?_
   refine rk_reg ?_
   refine lw_v (.string (bOf [48])) (dv_assign C) ?_
   refine lw_nil ?_
   refine rk_ret Tryd.func35 (v := .string (bOf [48])) (res1 Tryd.results35 (rv_tmp rfl rfl)) ⟨_, rfl, ?_⟩
   have hp0 := ha.wc.pos
   have hneg := ha.neg_iff
   exact ⟨congrArg (fun l => Value.string (bOf l)) (by have h0 : x = 0 := (by omega); rw [h0]; rfl), E5⟩
 · refine rk_cf (T rfl (congrArg Value.bool (decide_eq_false hb6))) ?_
   refine rk_skip ?_
   refine rk_seq ?_
   refine rk_reg ?_
   refine lw_v (.string (bOf [])) (dv_assign C) ?_
   refine lw_nil ?_
   refine rk_seq ?_
   refine rk_reg ?_
   refine lw_v (.pointer (some ⟨b1, 1, none⟩)) (dv_fieldAddr (a := ⟨b1, 0, none⟩) (a' := ⟨b1, 1, none⟩) fo58_1 (T rfl rfl) rfl) ?_
   refine lw_v (.slice Aa la ca) (dv_load1 (b := b1) (o := 1) agt56 (T rfl rfl) n3.blk rfl) ?_
   refine lw_v (.slice Aa la ca) (dv_assign (T rfl rfl)) ?_
   refine lw_nil ?_
   refine rk_seq ?_
   refine rk_block ?_
   have h7 := (ha.ext n3.ext)
   refine rk_loop (fun dm_ fr wl => ∃ (Ax : Option Addr) (lx cx : Nat) (X : Int) (M : List Int), dm_ = X.toNat ∧ fr 1 = .pointer (some ⟨b1, 0, none⟩) ∧ fr 2 = .string (bOf []) ∧ fr 3 = .string (bOf M) ∧ fr 4 = .slice Ax lx cx ∧ Below w.heap.size w wl ∧ wl.heap[b1]? = some (.cells #[.bool na, .slice Aa la ca] 58) ∧ Wc 32 61 .u32 wl Ax lx cx X ∧ ((dg X.toNat).reverse ++ M = (dg x.natAbs).reverse) ∧ (X < 2 ^ sx)) ((((x.natAbs : Int))).toNat) ⟨Aa, la, ca, ((x.natAbs : Int)), [], rfl, rfl, rfl, rfl, rfl, E5, n3.blk, h7.wc, (by simp), h7.ltI⟩ ?_
   intro d12 fr11 w8 hI9 ih10
   obtain ⟨Ax, lx, cx, X, M, hd20, f13, f14, f15, f16, E17, H18, h19, hM, hXs⟩ := hI9
   have hXp := h19.pos
   have hXn := h19.nonneg
   have hlx := Wc.len (by decide) h19 hXs
   have hMl := congrArg List.length hM
   simp only [List.length_append, List.length_reverse] at hMl
   obtain ⟨xs, hxl, hxc, hxw, ox, hxk, hxv⟩ := id h19
   refine rk_seq ?_
   refine rk_seq ?_
   refine rk_reg ?_
   refine lw_v (.slice Ax lx cx) (dv_move (T rfl f16)) ?_
   refine lw_v (.int .i64 ((lx : Int))) (dv_len (ad := Ax) (l := lx) (c := cx) us56 (T rfl rfl)) ?_
   refine lw_v (.bool (decide (0 < ((lx : Int))))) (dv_gtr (a := (lx : Int)) (b := 0) (T rfl rfl) C) ?_
   refine lw_nil ?_
   by_cases hb21 : 0 < ((lx : Int))
   · refine rk_ct (T rfl (congrArg Value.bool (decide_eq_true hb21))) ?_
     refine rk_skip ?_
     refine rk_block ?_
     refine rk_seq ?_
     refine rk_reg ?_
     refine lw_v (.slice Ax lx cx) (dv_move (T rfl f16)) ?_
     refine lw_v (.int .i64 ((lx : Int))) (dv_len (ad := Ax) (l := lx) (c := cx) us56 (T rfl rfl)) ?_
     refine lw_e (oe_makeW (l := lx) (j := (lx : Int)) us56 in61 (T rfl rfl) (T rfl rfl) (by omega) (by first | omega | (simp; done) | (simp; omega)) (by first | omega | (simp; done) | (simp; omega)) ?_)
     intro b22 w23 n24
     have N25 : w.heap.size ≤ b22 := n24.eq ▸ E17.size
     have : b1 < b22 := n24.eq ▸ lt_of_blk H18
     have E26 := below_ext E17 E17.size n24.ext
     refine lw_v (.slice (some ⟨b22, 0, none⟩) lx lx) (dv_assign (T rfl rfl)) ?_
     refine lw_nil ?_
     refine rk_seq ?_
     refine rk_reg ?_
     refine lw_v (.int .u64 0) (dv_assign C) ?_
     refine lw_nil ?_
     refine rk_seq ?_
     refine rk_seq ?_
     refine rk_reg ?_
     refine lw_v (.slice Ax lx cx) (dv_move (T rfl f16)) ?_
     refine lw_v (.int .i64 ((lx : Int))) (dv_len (ad := Ax) (l := lx) (c := cx) us56 (T rfl rfl)) ?_
     refine lw_v (.int .i64 (((lx : Int)) - 1)) (dv_sub (a := (lx : Int)) (b := 1) (z := ((lx : Int)) - 1) (T rfl rfl) C (wr_i64 (by omega) (by omega))) ?_
     refine lw_v (.int .i64 (((lx : Int)) - 1)) (dv_assign (T rfl rfl)) ?_
     refine lw_nil ?_
     refine rk_block ?_
     have hE27 : Below w8.heap.size w8 _ := below_ext (Below.refl _ _) (Nat.le_refl _) n24.ext
     have hb5 : w8.heap.size ≤ b22 := by have := n24.eq; omega
     have H28 := (n24.ext.blk H18)
     refine rk_loop (fun dm_ fr wl => ∃ (j : Nat) (L : List Int) (r : Int), dm_ = j ∧ fr 1 = .pointer (some ⟨b1, 0, none⟩) ∧ fr 2 = .string (bOf []) ∧ fr 3 = .string (bOf M) ∧ fr 4 = .slice Ax lx cx ∧ fr 5 = .slice (some ⟨b22, 0, none⟩) lx lx ∧ fr 6 = .int .u64 r ∧ fr 7 = .int .i64 ((j : Int) - 1) ∧ fr 14 = .slice Ax lx cx ∧ fr 15 = .int .i64 ((lx : Int)) ∧ fr 16 = .bool (decide (0 < ((lx : Int)))) ∧ fr 17 = .slice Ax lx cx ∧ fr 18 = .int .i64 ((lx : Int)) ∧ fr 19 = .slice (some ⟨b22, 0, none⟩) lx lx ∧ fr 20 = .slice Ax lx cx ∧ fr 21 = .int .i64 ((lx : Int)) ∧ fr 22 = .int .i64 (((lx : Int)) - 1) ∧ Below w.heap.size w wl ∧ wl.heap[b1]? = some (.cells #[.bool na, .slice Aa la ca] 58) ∧ wl.heap[b22]? = some (.cells (L.map (Value.int .u32)).toArray 61) ∧ (j ≤ lx) ∧ (L.length = lx) ∧ (okW (2 ^ 32) L) ∧ (valB (2 ^ 32) (L.drop j) = valB (2 ^ 32) (xs.drop j) / 10) ∧ (r = valB (2 ^ 32) (xs.drop j) % 10) ∧ (Below w8.heap.size w8 wl)) (lx) ⟨lx, (List.replicate lx (0 : Int)), 0, rfl, f13, f14, f15, f16, rfl, rfl, (vi (by omega)), rfl, rfl, rfl, rfl, rfl, rfl, rfl, rfl, rfl, E26, H28, n24.blk, (Nat.le_refl _), (by simp), (okW.replicate (by decide) _), (by rw [List.drop_of_length_le (by simp), List.drop_of_length_le (by omega)]; simp [valB]), (by rw [List.drop_of_length_le (by omega)]; simp [valB]), hE27⟩ ?_
     intro d33 fr32 w29 hI30 ih31
     obtain ⟨j, L, r, hd53, f34, f35, f36, f37, f38, f39, f40, f41, f42, f43, f44, f45, f46, f47, f48, f49, E50, H51, H52, hj, hLl, hok, hLv, hrv, hE2⟩ := hI30
     have hwq := hxw.ext hE2
     have gx := okW.getD ox (by decide) (j - 1)
     have hr9 : 0 ≤ r ∧ r < 10 := by omega
     refine rk_seq ?_
     refine rk_seq ?_
     refine rk_reg ?_
     refine lw_v (.int .i64 ((j : Int) - 1)) (dv_move (T rfl f40)) ?_
     refine lw_v (.bool (decide (0 ≤ ((j : Int) - 1)))) (dv_geq (a := (j : Int) - 1) (b := 0) (T rfl rfl) C) ?_
     refine lw_nil ?_
     by_cases hb54 : 0 ≤ ((j : Int) - 1)
     · refine rk_ct (T rfl (congrArg Value.bool (decide_eq_true hb54))) ?_
       refine rk_skip ?_
       refine rk_seq ?_
       refine rk_block ?_
       refine rk_seq ?_
       refine rk_reg ?_
       refine lw_v (.int .u64 r) (dv_move (T rfl f39)) ?_
       refine lw_v (.int .u64 (r * 4294967296)) (dv_shl (a := r) (b := 32) (z := r * 4294967296) (T rfl rfl) C (by decide) (shl_c (m := 4294967296) (n := 32) (by decide) (wn_u64 (by omega) (by omega)))) ?_
       refine lw_v (.slice Ax lx cx) (dv_move (T rfl f37)) ?_
       refine lw_v (.int .i64 ((j : Int) - 1)) (dv_move (T rfl f40)) ?_
       obtain ⟨g55, o56, rfl⟩ := Wd.at hwq (by first | omega | (simp; done) | (simp; omega))
       refine lw_v (.pointer (some ⟨g55, o56 + (j - 1), none⟩)) (dv_indexW (g := g55) (o := o56) (l := lx) (c := cx) (i := (j - 1)) (j := (j : Int) - 1) us56 sz61 (T rfl rfl) (T rfl rfl) (by omega) (by first | omega | (simp; done) | (simp; omega))) ?_
       refine lw_v (.int .u32 (xs.getD ((j - 1)) 0)) (dv_load agt61 (T rfl rfl) (Wd.cell hwq (by first | omega | (simp; done) | (simp; omega)))) ?_
       refine lw_v (.int .u64 (xs.getD ((j - 1)) 0)) (dv_conv (a := xs.getD ((j - 1)) 0) (z := xs.getD ((j - 1)) 0) ui61 ui86 (T rfl rfl) (wn_u64 (by omega) (by omega))) ?_
       refine lw_v (.int .u64 ((xs.getD ((j - 1)) 0) + (r * 4294967296))) (dv_or (a := r * 4294967296) (b := xs.getD ((j - 1)) 0) (z := (xs.getD ((j - 1)) 0) + (r * 4294967296)) (T rfl rfl) (T rfl rfl) (or_add (k := .u64) (a := xs.getD ((j - 1)) 0) (b := r * 4294967296) (i := 32) rfl (by omega) (by omega) (by omega) (by omega) (lt64 (by omega)) (lt64 (by omega))).2) ?_
       refine lw_v (.int .u64 ((xs.getD ((j - 1)) 0) + (r * 4294967296))) (dv_assign (T rfl rfl)) ?_
       refine lw_nil ?_
       refine rk_seq ?_
       refine rk_reg ?_
       refine lw_v (.slice (some ⟨b22, 0, none⟩) lx lx) (dv_move (T rfl f38)) ?_
       refine lw_v (.int .i64 ((j : Int) - 1)) (dv_move (T rfl f40)) ?_
       refine lw_v (.int .u64 ((xs.getD ((j - 1)) 0) + (r * 4294967296))) (dv_move (T rfl rfl)) ?_
       refine lw_v (.int .u64 (((xs.getD ((j - 1)) 0) + (r * 4294967296)) / 10)) (dv_quo (a := (xs.getD ((j - 1)) 0) + (r * 4294967296)) (b := 10) (z := ((xs.getD ((j - 1)) 0) + (r * 4294967296)) / 10) (T rfl rfl) C (by decide) (quo_c (by omega) (by decide) (wn_u64 (by omega) (by omega)))) ?_
       refine lw_v (.int .u32 ((((xs.getD ((j - 1)) 0) + (r * 4294967296)) / 10) % 4294967296)) (dv_conv (a := ((xs.getD ((j - 1)) 0) + (r * 4294967296)) / 10) (z := (((xs.getD ((j - 1)) 0) + (r * 4294967296)) / 10) % 4294967296) ui86 ui61 (T rfl rfl) (wr_u32 _)) ?_
       refine lw_v (.pointer (some ⟨b22, ((j - 1)), none⟩)) (dv_indexO (g := b22) (l := lx) (c := lx) (i := (j - 1)) (j := (j : Int) - 1) us56 sz61 (T rfl rfl) (T rfl rfl) (by omega) (by first | omega | (simp; done) | (simp; omega))) ?_
       refine lw_e (oe_storeW (L := L) (i := (j - 1)) (z := (((xs.getD ((j - 1)) 0) + (r * 4294967296)) / 10) % 4294967296) sz61 (T rfl rfl) (T rfl rfl) H52 (by first | omega | (simp; done) | (simp; omega)) ?_)
       intro w57 s58 H59
       have E60 := below_st E50 N25 s58
       refine lw_nil ?_
       refine rk_reg ?_
       refine lw_v (.int .u64 ((xs.getD ((j - 1)) 0) + (r * 4294967296))) (dv_move (T rfl rfl)) ?_
       refine lw_v (.int .u64 (((xs.getD ((j - 1)) 0) + (r * 4294967296)) % 10)) (dv_rem (a := (xs.getD ((j - 1)) 0) + (r * 4294967296)) (b := 10) (z := ((xs.getD ((j - 1)) 0) + (r * 4294967296)) % 10) (T rfl rfl) C (by decide) (rem_c (by omega) rfl)) ?_
       refine lw_v (.int .u64 (((xs.getD ((j - 1)) 0) + (r * 4294967296)) % 10)) (dv_assign (T rfl rfl)) ?_
       refine lw_nil ?_
       refine rk_inBlock ?_
       refine rk_reg ?_
       refine lw_v (.int .i64 ((j : Int) - 1)) (dv_move (T rfl f40)) ?_
       refine lw_v (.int .i64 (((j : Int) - 1) - 1)) (dv_sub (a := (j : Int) - 1) (b := 1) (z := ((j : Int) - 1) - 1) (T rfl rfl) C (wr_i64 (by omega) (by omega))) ?_
       refine lw_v (.int .i64 (((j : Int) - 1) - 1)) (dv_assign (T rfl rfl)) ?_
       refine lw_nil ?_
       have hq61 : ((xs.getD ((j - 1)) 0) + (r * 4294967296)) / 10 % 4294967296 = ((xs.getD ((j - 1)) 0) + (r * 4294967296)) / 10 := by omega
       have H62 := (s58.blk H51 (by omega))
       exact ih31 (((j - 1))) _ _ (by rw [hd53]; omega) ⟨(j - 1), (L.set ((j - 1)) ((((xs.getD ((j - 1)) 0) + (r * 4294967296)) / 10) % 4294967296)), (((xs.getD ((j - 1)) 0) + (r * 4294967296)) % 10), rfl, f34, f35, f36, f37, f38, rfl, (vi (by omega)), f41, f42, f43, f44, f45, f46, f47, f48, f49, E60, H62, H59, (by omega), (by simp [hLl]), (okW.set hok (by omega) (by omega) _), (by rw [hq61]; exact (ten_step (by omega) (by omega) (by omega) hLv hrv).1), (ten_step (by omega) (by omega) (by omega) hLv hrv).2, (below_st hE2 hb5 s58)⟩
     · refine rk_cf (T rfl (congrArg Value.bool (decide_eq_false hb54))) ?_
       refine rk_exit rfl ?_
       refine rk_seq ?_
       have hj0 : j = 0 := by omega
       have hL0 := hLv
       rw [hj0, List.drop_zero, List.drop_zero, ← hxv] at hL0
       have hr0 := hrv
       rw [hj0, List.drop_zero, ← hxv] at hr0
       refine rk_reg ?_
       refine lw_v (.int .u64 r) (dv_move (T rfl f39)) ?_
       refine lw_v (.int .u64 (48 + r)) (dv_add (a := 48) (b := r) (z := 48 + r) C (T rfl rfl) (wn_u64 (by omega) (by omega))) ?_
       refine lw_v (.int .u8 ((48 + r) % 256)) (dv_conv (a := 48 + r) (z := (48 + r) % 256) ui86 ui5 (T rfl rfl) (wr_u8 _)) ?_
       refine lw_e (oe_buildSlice (pv := [(0, .int .u8 ((48 + r) % 256))]) (init := [.int .u8 0]) (l := [.int .u8 ((48 + r) % 256)]) us73 sz5 rfl rfl zc5 (by kernel_rfl) ⟨rfl, (T rfl rfl), trivial⟩ rfl ?_)
       intro b63 w64 n65
       have N66 : w.heap.size ≤ b63 := n65.eq ▸ E50.size
       have : b22 < b63 := n65.eq ▸ lt_of_blk H52
       have E67 := below_ext E50 E50.size n65.ext
       refine lw_v (.string (bOf ([(48 + r) % 256]))) (dv_convBS (L := [(48 + r) % 256]) (A := some ⟨b63, 0, none⟩) (l := 1) (c := 1) us73 ui5 ut9 (by exact (T rfl rfl)) (Wd.ownW (xs := [(48 + r) % 256]) n65.blk) (by first | rfl | omega | (simp; done) | (simp; omega))) ?_
       refine lw_v (.string (bOf M)) (dv_move (T rfl f36)) ?_
       refine lw_v (.string (bOf (([(48 + r) % 256]) ++ M))) (dv_addS (L := ([(48 + r) % 256])) (M := M) (T rfl rfl) (T rfl rfl) (by simp; omega)) ?_
       refine lw_v (.string (bOf (([(48 + r) % 256]) ++ M))) (dv_assign (T rfl rfl)) ?_
       refine lw_nil ?_
       refine rk_reg ?_
       refine lw_v (.slice (some ⟨b22, 0, none⟩) lx lx) (dv_move (T rfl f38)) ?_
       have H68 := (n65.ext.blk H52)
       refine lw_e (oe_callf (vs := [.bool false, .slice (some ⟨b22, 0, none⟩) lx lx]) co51 (ar2 C (T rfl rfl)) (l1Trim_num (s := (32 * lx)) (neg := false) (⟨L, (by first | rfl | omega | (simp; done) | (simp; omega)), (by first | rfl | omega | (simp; done) | (simp; omega)), Wd.ownW H68, hok, rfl⟩ : Ws _ _ _ _ _ _ _ _) (by first | omega | (simp; done) | (simp; omega)) (valB_sz hok (by first | rfl | omega | (simp; done) | (simp; omega)))) ?_)
       rintro _ w74 ⟨nb69, A70, n71, c72, rfl, e75, hn73⟩
       have E76 := below_ext E67 E67.size e75
       have lhn73 := Num.len (by decide) hn73
       refine lw_v (.slice A70 n71 c72) (dv_field (v := .slice A70 n71 c72) fb58_1 agt56 (T rfl rfl) rfl) ?_
       refine lw_v (.slice A70 n71 c72) (dv_assign (T rfl rfl)) ?_
       refine lw_nil ?_
       refine rk_inBlock ?_
       have hvn : (0 : Int) ≤ valB (2 ^ 32) L := valB_nonneg (by decide) hok
       have hz77 : ((sg false (valB (2 ^ 32) L)).natAbs : Int) = X / 10 := by simp only [sg_false]; omega
       have H78 := (e75.blk (n65.ext.blk H51))
       exact ih10 (((X / 10)).toNat) _ _ (by rw [hd20]; omega) ⟨A70, n71, c72, (X / 10), ((([(48 + r) % 256]) ++ M)), rfl, f34, f35, rfl, rfl, E76, H78, (Wc.eq hn73.wc hz77), (by have h := txt_step (by omega) hM; rw [show ((48 + r) % 256 : Int) = 48 + X % 10 by omega]; exact h), (by omega)⟩
   · refine rk_cf (T rfl (congrArg Value.bool (decide_eq_false hb21))) ?_
     refine rk_exit rfl ?_
     refine rk_seq ?_
     refine rk_seq ?_
     have hX0 : X = 0 := by omega
     have hM2 := hM
     rw [hX0, show (0 : Int).toNat = 0 from rfl, dg_zero, List.reverse_nil, List.nil_append] at hM2
     refine rk_reg ?_
     refine lw_v (.pointer (some ⟨b1, 0, none⟩)) (dv_fieldAddr (a := ⟨b1, 0, none⟩) (a' := ⟨b1, 0, none⟩) fo58_0 (T rfl f13) rfl) ?_
     refine lw_v (.bool na) (dv_load1 (b := b1) (o := 0) agt4 (T rfl rfl) H18 rfl) ?_
     refine lw_nil ?_
     rcases Bool.eq_false_or_eq_true (na) with hb79 | hb79
     · refine rk_ct (T rfl (congrArg Value.bool hb79)) ?_
       refine rk_seq ?_
       refine rk_reg ?_
       refine lw_v (.string (bOf M)) (dv_move (T rfl f15)) ?_
       refine lw_v (.string (bOf ([45] ++ M))) (dv_addS (L := [45]) (M := M) C (T rfl rfl) (by simp; omega)) ?_
       refine lw_v (.string (bOf ([45] ++ M))) (dv_assign (T rfl rfl)) ?_
       refine lw_nil ?_
       refine rk_ret Tryd.func35 (v := .string (bOf ([45] ++ M))) (res1 Tryd.results35 (rv_tmp rfl rfl)) ⟨_, rfl, ?_⟩
       have hp0 := ha.wc.pos
       have hneg := ha.neg_iff
       exact ⟨congrArg (fun l => Value.string (bOf l)) (by have h1 := txt_top hM2 (by omega); rw [if_pos (hneg.1 (by assumption))] at h1; exact h1), E17⟩
     · refine rk_cf (T rfl (congrArg Value.bool hb79)) ?_
       refine rk_skip ?_
       refine rk_seq ?_
       refine rk_reg ?_
       refine lw_v (.string (bOf M)) (dv_move (T rfl f15)) ?_
       refine lw_v (.string (bOf M)) (dv_assign (T rfl rfl)) ?_
       refine lw_nil ?_
       refine rk_ret Tryd.func35 (v := .string (bOf M)) (res1 Tryd.results35 (rv_tmp rfl rfl)) ⟨_, rfl, ?_⟩
       have hp0 := ha.wc.pos
       have hneg := ha.neg_iff
       exact ⟨congrArg (fun l => Value.string (bOf l)) (by have h1 := txt_top hM2 (by omega); rw [if_neg (fun hh => by have := hneg.2 hh; simp_all)] at h1; exact h1), E17⟩
end Go.Proofs.YtmbpomcbdopgnaaDoor.W
set_option linter.unusedVariables false
set_option linter.unusedSimpArgs false
namespace Go.Proofs.YtmbpomcbdopgnaaDoor.W
open Go Go.RowKit Go.Proofs.YtmbpomcbdopgnaaDoor.Fw
attribute [local irreducible] RunK LW AW DV OE Ct
theorem agt2 : aggB Tryd.prog 2 = some false := by kernel_rfl
theorem agt35 : aggB Tryd.prog 35 = some false := by kernel_rfl
theorem agt37 : aggB Tryd.prog 37 = some true := by kernel_rfl
theorem agt41 : aggB Tryd.prog 41 = some true := by kernel_rfl
theorem agt46 : aggB Tryd.prog 46 = some false := by kernel_rfl
theorem agt48 : aggB Tryd.prog 48 = some true := by kernel_rfl
theorem agt90 : aggB Tryd.prog 90 = some true := by kernel_rfl
theorem co18 : callOk Tryd.prog 18 = true := by kernel_rfl
theorem co21 : callOk Tryd.prog 21 = true := by kernel_rfl
theorem co24 : callOk Tryd.prog 24 = true := by kernel_rfl
theorem co32 : callOk Tryd.prog 32 = true := by kernel_rfl
theorem co33 : callOk Tryd.prog 33 = true := by kernel_rfl
theorem co37 : callOk Tryd.prog 37 = true := by kernel_rfl
theorem co50 : callOk Tryd.prog 50 = true := by kernel_rfl
theorem co52 : callOk Tryd.prog 52 = true := by kernel_rfl
theorem fo37_0 : fieldOffB Tryd.prog 37 0 = some 0 := by kernel_rfl
theorem fo41_0 : fieldOffB Tryd.prog 41 0 = some 0 := by kernel_rfl
theorem fo41_1 : fieldOffB Tryd.prog 41 1 = some 1 := by kernel_rfl
theorem fo48_0 : fieldOffB Tryd.prog 48 0 = some 0 := by kernel_rfl
theorem fo90_0 : fieldOffB Tryd.prog 90 0 = some 0 := by kernel_rfl
theorem fo90_1 : fieldOffB Tryd.prog 90 1 = some 1 := by kernel_rfl
theorem in37 : (Tryd.prog.info? 37).map (fun i => (i.zero, i.size, i.bytes)) = some (some (.agg #[.slice none 0 0]), 1, 24) := by kernel_rfl
theorem in41 : (Tryd.prog.info? 41).map (fun i => (i.zero, i.size, i.bytes)) = some (some (.agg #[.int .i64 0, .int .i64 0]), 2, 16) := by kernel_rfl
theorem sz2 : sizeB Tryd.prog 2 = some 1 := by kernel_rfl
theorem sz35 : sizeB Tryd.prog 35 = some 1 := by kernel_rfl
theorem sz37 : sizeB Tryd.prog 37 = some 1 := by kernel_rfl
theorem sz41 : sizeB Tryd.prog 41 = some 2 := by kernel_rfl
theorem sz48 : sizeB Tryd.prog 48 = some 1 := by kernel_rfl
theorem sz90 : sizeB Tryd.prog 90 = some 2 := by kernel_rfl
theorem us22 : Tryd.prog.underlying 22 = some (.slice 37) := by kernel_rfl
theorem us28 : Tryd.prog.underlying 28 = some (.slice 48) := by kernel_rfl
theorem us35 : Tryd.prog.underlying 35 = some (.slice 41) := by kernel_rfl
theorem us46 : Tryd.prog.underlying 46 = some (.slice 90) := by kernel_rfl
theorem ze37 : zeroB Tryd.prog 37 = some #[.slice none 0 0] := by kernel_rfl
theorem ze41 : zeroB Tryd.prog 41 = some #[.int .i64 0, .int .i64 0] := by kernel_rfl
set_option maxHeartbeats 1000000 in
theorem l1In_ok {w : World} {n lo hi : Int}   : Ct Tryd.prog 34 [.int .i64 n, .int .i64 lo, .int .i64 hi] w fun v w1 => v = .bool (decide (lo ≤ n ∧ n ≤ hi)) ∧ Ext w w1 := by
 refine ct_run (n := 15) Tryd.func34 rfl Tryd.ntmps34 rfl ?_
 have E0 : Below w.heap.size w w := Below.refl _ _
 refine rk_seq ?_
 refine rk_reg ?_
 refine lw_v (.bool false) (dv_assign C) ?_
 refine lw_nil ?_
 refine rk_seq ?_
 refine rk_reg ?_
 refine lw_v (.int .i64 n) (dv_move (T rfl rfl)) ?_
 refine lw_v (.int .i64 lo) (dv_move (T rfl rfl)) ?_
 refine lw_v (.bool (decide (lo ≤ n))) (dv_geq (a := n) (b := lo) (T rfl rfl) (T rfl rfl)) ?_
 refine lw_v (.bool (decide (lo ≤ n))) (dv_move (T rfl rfl)) ?_
 by_cases hb1 : lo ≤ n
 · refine lw_vy (.int .i64 n) (d := 10) rfl rfl (congrArg Value.bool (decide_eq_true hb1)) (dv_move (T rfl rfl)) ?_
   refine lw_vy (.int .i64 hi) (d := 10) rfl rfl (congrArg Value.bool (decide_eq_true hb1)) (dv_move (T rfl rfl)) ?_
   refine lw_vy (.bool (decide (n ≤ hi))) (d := 10) rfl rfl (congrArg Value.bool (decide_eq_true hb1)) (dv_leq (a := n) (b := hi) (T rfl rfl) (T rfl rfl)) ?_
   refine lw_v (.bool (decide (n ≤ hi))) (dv_pick_t (T rfl (congrArg Value.bool (decide_eq_true hb1))) (T rfl rfl)) ?_
   refine lw_v (.bool (decide (n ≤ hi))) (dv_assign (T rfl rfl)) ?_
   refine lw_nil ?_
   refine rk_ret Tryd.func34 (v := .bool (decide (n ≤ hi))) (res1 Tryd.results34 (rv_tmp rfl rfl)) ⟨_, rfl, ?_⟩
   exact ⟨(vb (by grind)), E0⟩
 · refine lw_no (d := 10) rfl rfl (congrArg Value.bool (decide_eq_false hb1)) ?_
   refine lw_no (d := 10) rfl rfl (congrArg Value.bool (decide_eq_false hb1)) ?_
   refine lw_no (d := 10) rfl rfl (congrArg Value.bool (decide_eq_false hb1)) ?_
   refine lw_v (.bool false) (dv_pick_f (T rfl (congrArg Value.bool (decide_eq_false hb1))) C) ?_
   refine lw_v (.bool false) (dv_assign (T rfl rfl)) ?_
   refine lw_nil ?_
   refine rk_ret Tryd.func34 (v := .bool false) (res1 Tryd.results34 (rv_tmp rfl rfl)) ⟨_, rfl, ?_⟩
   exact ⟨(vf (by grind)), E0⟩
set_option maxHeartbeats 1000000 in
theorem within_ok {w : World} {n lo hi : Int}   : Ct Tryd.prog 26 [.int .i64 n, .int .i64 lo, .int .i64 hi] w fun v w1 => v = .bool (decide (lo ≤ n ∧ n ≤ hi)) ∧ Ext w w1 := by
 refine ct_run (n := 15) Tryd.func26 rfl Tryd.ntmps26 rfl ?_
 have E0 : Below w.heap.size w w := Below.refl _ _
 refine rk_seq ?_
 refine rk_reg ?_
 refine lw_v (.bool false) (dv_assign C) ?_
 refine lw_nil ?_
 refine rk_seq ?_
 refine rk_reg ?_
 refine lw_v (.int .i64 lo) (dv_move (T rfl rfl)) ?_
 refine lw_v (.int .i64 n) (dv_move (T rfl rfl)) ?_
 refine lw_v (.bool (decide (lo ≤ n))) (dv_leq (a := lo) (b := n) (T rfl rfl) (T rfl rfl)) ?_
 refine lw_v (.bool (decide (lo ≤ n))) (dv_move (T rfl rfl)) ?_
 by_cases hb1 : lo ≤ n
 · refine lw_vy (.int .i64 n) (d := 10) rfl rfl (congrArg Value.bool (decide_eq_true hb1)) (dv_move (T rfl rfl)) ?_
   refine lw_vy (.int .i64 hi) (d := 10) rfl rfl (congrArg Value.bool (decide_eq_true hb1)) (dv_move (T rfl rfl)) ?_
   refine lw_vy (.bool (decide (n ≤ hi))) (d := 10) rfl rfl (congrArg Value.bool (decide_eq_true hb1)) (dv_leq (a := n) (b := hi) (T rfl rfl) (T rfl rfl)) ?_
   refine lw_v (.bool (decide (n ≤ hi))) (dv_pick_t (T rfl (congrArg Value.bool (decide_eq_true hb1))) (T rfl rfl)) ?_
   refine lw_v (.bool (decide (n ≤ hi))) (dv_assign (T rfl rfl)) ?_
   refine lw_nil ?_
   refine rk_ret Tryd.func26 (v := .bool (decide (n ≤ hi))) (res1 Tryd.results26 (rv_tmp rfl rfl)) ⟨_, rfl, ?_⟩
   exact ⟨(vb (by grind)), E0⟩
 · refine lw_no (d := 10) rfl rfl (congrArg Value.bool (decide_eq_false hb1)) ?_
   refine lw_no (d := 10) rfl rfl (congrArg Value.bool (decide_eq_false hb1)) ?_
   refine lw_no (d := 10) rfl rfl (congrArg Value.bool (decide_eq_false hb1)) ?_
   refine lw_v (.bool false) (dv_pick_f (T rfl (congrArg Value.bool (decide_eq_false hb1))) C) ?_
   refine lw_v (.bool false) (dv_assign (T rfl rfl)) ?_
   refine lw_nil ?_
   refine rk_ret Tryd.func26 (v := .bool false) (res1 Tryd.results26 (rv_tmp rfl rfl)) ⟨_, rfl, ?_⟩
   exact ⟨(vf (by grind)), E0⟩
set_option maxHeartbeats 1000000 in
theorem toSpot_ok {w : World} {x y : Int}   : Ct Tryd.prog 52 [.agg #[.int .i64 x, .int .i64 y]] w fun v w1 => v = .agg #[.int .i64 x, .int .i64 y] ∧ Ext w w1 := by
 refine ct_run (n := 11) Tryd.func52 rfl Tryd.ntmps52 rfl ?_
 have E0 : Below w.heap.size w w := Below.refl _ _
 refine rk_seq ?_
 refine rk_reg ?_
 refine lw_e (oe_box (v := .agg #[.int .i64 x, .int .i64 y]) (cs := #[.int .i64 x, .int .i64 y]) (T rfl rfl) rfl ?_)
 intro b1 w2 n3
 have N4 : w.heap.size ≤ b1 := n3.eq ▸ E0.size
 have E5 := below_ext E0 E0.size n3.ext
 refine lw_e (oe_alloc ze41 ?_)
 intro b6 w7 n8
 have N9 : w.heap.size ≤ b6 := n8.eq ▸ E5.size
 have : b1 < b6 := n8.eq ▸ lt_of_blk n3.blk
 have E10 := below_ext E5 E5.size n8.ext
 refine lw_nil ?_
 refine rk_seq ?_
 refine rk_reg ?_
 refine lw_e (oe_alloc ze41 ?_)
 intro b11 w12 n13
 have N14 : w.heap.size ≤ b11 := n13.eq ▸ E10.size
 have : b6 < b11 := n13.eq ▸ lt_of_blk n8.blk
 have E15 := below_ext E10 E10.size n13.ext
 refine lw_nil ?_
 refine rk_seq ?_
 refine rk_reg ?_
 refine lw_v (.pointer (some ⟨b1, 0, none⟩)) (dv_fieldAddr (a := ⟨b1, 0, none⟩) (a' := ⟨b1, 0, none⟩) fo90_0 (T rfl rfl) rfl) ?_
 have H16 := (n13.ext.blk (n8.ext.blk n3.blk))
 refine lw_v (.int .i64 x) (dv_load1 (b := b1) (o := 0) agt2 (T rfl rfl) H16 rfl) ?_
 refine lw_v (.pointer (some ⟨b11, 0, none⟩)) (dv_fieldAddr (a := ⟨b11, 0, none⟩) (a' := ⟨b11, 0, none⟩) fo41_0 (T rfl rfl) rfl) ?_
 refine lw_e (oe_store (v := .int .i64 x) (vs := [.int .i64 x]) (l := [.int .i64 x, .int .i64 0]) (T rfl rfl) (T rfl rfl) sz2 rfl rfl rfl n13.blk rfl ?_)
 intro w17 s18 H19
 have E20 := below_st E15 N14 s18
 refine lw_nil ?_
 refine rk_seq ?_
 refine rk_reg ?_
 refine lw_v (.pointer (some ⟨b1, 1, none⟩)) (dv_fieldAddr (a := ⟨b1, 0, none⟩) (a' := ⟨b1, 1, none⟩) fo90_1 (T rfl rfl) rfl) ?_
 have H21 := (s18.blk H16 (by omega))
 refine lw_v (.int .i64 y) (dv_load1 (b := b1) (o := 1) agt2 (T rfl rfl) H21 rfl) ?_
 refine lw_v (.pointer (some ⟨b11, 1, none⟩)) (dv_fieldAddr (a := ⟨b11, 0, none⟩) (a' := ⟨b11, 1, none⟩) fo41_1 (T rfl rfl) rfl) ?_
 refine lw_e (oe_store (v := .int .i64 y) (vs := [.int .i64 y]) (l := [.int .i64 x, .int .i64 y]) (T rfl rfl) (T rfl rfl) sz2 rfl rfl rfl H19 rfl ?_)
 intro w22 s23 H24
 have E25 := below_st E20 N14 s23
 refine lw_nil ?_
 refine rk_seq ?_
 refine rk_reg ?_
 refine lw_v (.agg #[.int .i64 x, .int .i64 y]) (dv_loads (l := [.int .i64 x, .int .i64 y]) agt41 sz41 (T rfl rfl) H24 rfl) ?_
 have H26 := (s23.blk (s18.blk (n13.ext.blk n8.blk) (by omega)) (by omega))
 refine lw_e (oe_store (v := .agg #[.int .i64 x, .int .i64 y]) (vs := [.int .i64 x, .int .i64 y]) (l := [.int .i64 x, .int .i64 y]) (T rfl rfl) (T rfl rfl) sz41 rfl rfl rfl H26 rfl ?_)
 intro w27 s28 H29
 have E30 := below_st E25 N9 s28
 refine lw_nil ?_
 refine rk_ret Tryd.func52 (v := .agg #[.int .i64 x, .int .i64 y]) (res1 Tryd.results52 (rv_cells (l := [.int .i64 x, .int .i64 y]) agt41 sz41 rfl rfl H29 rfl)) ⟨_, rfl, ?_⟩
 exact ⟨rfl, E30⟩
set_option maxHeartbeats 1000000 in
theorem eqSpot_ok {w : World} {ax ay bx b_y : Int}   : Ct Tryd.prog 50 [.agg #[.int .i64 ax, .int .i64 ay], .agg #[.int .i64 bx, .int .i64 b_y]] w fun v w1 => v = .bool (decide (ax = bx ∧ ay = b_y)) ∧ Ext w w1 := by
 refine ct_run (n := 15) Tryd.func50 rfl Tryd.ntmps50 rfl ?_
 have E0 : Below w.heap.size w w := Below.refl _ _
 refine rk_seq ?_
 refine rk_reg ?_
 refine lw_e (oe_box (v := .agg #[.int .i64 ax, .int .i64 ay]) (cs := #[.int .i64 ax, .int .i64 ay]) (T rfl rfl) rfl ?_)
 intro b1 w2 n3
 have N4 : w.heap.size ≤ b1 := n3.eq ▸ E0.size
 have E5 := below_ext E0 E0.size n3.ext
 refine lw_e (oe_box (v := .agg #[.int .i64 bx, .int .i64 b_y]) (cs := #[.int .i64 bx, .int .i64 b_y]) (T rfl rfl) rfl ?_)
 intro b6 w7 n8
 have N9 : w.heap.size ≤ b6 := n8.eq ▸ E5.size
 have : b1 < b6 := n8.eq ▸ lt_of_blk n3.blk
 have E10 := below_ext E5 E5.size n8.ext
 refine lw_v (.bool false) (dv_assign C) ?_
 refine lw_nil ?_
 refine rk_seq ?_
 refine rk_seq ?_
 refine rk_reg ?_
 refine lw_v (.pointer (some ⟨b1, 0, none⟩)) (dv_fieldAddr (a := ⟨b1, 0, none⟩) (a' := ⟨b1, 0, none⟩) fo41_0 (T rfl rfl) rfl) ?_
 have H11 := (n8.ext.blk n3.blk)
 refine lw_v (.int .i64 ax) (dv_load1 (b := b1) (o := 0) agt2 (T rfl rfl) H11 rfl) ?_
 refine lw_v (.pointer (some ⟨b6, 0, none⟩)) (dv_fieldAddr (a := ⟨b6, 0, none⟩) (a' := ⟨b6, 0, none⟩) fo41_0 (T rfl rfl) rfl) ?_
 refine lw_v (.int .i64 bx) (dv_load1 (b := b6) (o := 0) agt2 (T rfl rfl) n8.blk rfl) ?_
 refine lw_v (.bool (decide (ax ≠ bx))) (dv_neq (a := ax) (b := bx) (T rfl rfl) (T rfl rfl)) ?_
 refine lw_nil ?_
 by_cases hb12 : ax ≠ bx
 · refine rk_ct (T rfl (congrArg Value.bool (decide_eq_true hb12))) ?_
   refine rk_seq ?_
   refine rk_reg ?_
   refine lw_v (.bool false) (dv_assign C) ?_
   refine lw_nil ?_
   refine rk_ret Tryd.func50 (v := .bool false) (res1 Tryd.results50 (rv_tmp rfl rfl)) ⟨_, rfl, ?_⟩
   exact ⟨(vf (by grind)), E10⟩
 · refine rk_cf (T rfl (congrArg Value.bool (decide_eq_false hb12))) ?_
   refine rk_skip ?_
   refine rk_seq ?_
   refine rk_seq ?_
   refine rk_reg ?_
   refine lw_v (.pointer (some ⟨b1, 1, none⟩)) (dv_fieldAddr (a := ⟨b1, 0, none⟩) (a' := ⟨b1, 1, none⟩) fo41_1 (T rfl rfl) rfl) ?_
   refine lw_v (.int .i64 ay) (dv_load1 (b := b1) (o := 1) agt2 (T rfl rfl) H11 rfl) ?_
   refine lw_v (.pointer (some ⟨b6, 1, none⟩)) (dv_fieldAddr (a := ⟨b6, 0, none⟩) (a' := ⟨b6, 1, none⟩) fo41_1 (T rfl rfl) rfl) ?_
   refine lw_v (.int .i64 b_y) (dv_load1 (b := b6) (o := 1) agt2 (T rfl rfl) n8.blk rfl) ?_
   refine lw_v (.bool (decide (ay ≠ b_y))) (dv_neq (a := ay) (b := b_y) (T rfl rfl) (T rfl rfl)) ?_
   refine lw_nil ?_
   by_cases hb13 : ay ≠ b_y
   · refine rk_ct (T rfl (congrArg Value.bool (decide_eq_true hb13))) ?_
     refine rk_seq ?_
     refine rk_reg ?_
     refine lw_v (.bool false) (dv_assign C) ?_
     refine lw_nil ?_
     refine rk_ret Tryd.func50 (v := .bool false) (res1 Tryd.results50 (rv_tmp rfl rfl)) ⟨_, rfl, ?_⟩
     exact ⟨(vf (by grind)), E10⟩
   · refine rk_cf (T rfl (congrArg Value.bool (decide_eq_false hb13))) ?_
     refine rk_skip ?_
     refine rk_seq ?_
     refine rk_reg ?_
     refine lw_v (.bool true) (dv_assign C) ?_
     refine lw_nil ?_
     refine rk_ret Tryd.func50 (v := .bool true) (res1 Tryd.results50 (rv_tmp rfl rfl)) ⟨_, rfl, ?_⟩
     exact ⟨(vt (by grind)), E10⟩
set_option maxHeartbeats 1000000 in
theorem szSpotS_ok {w : World} {A : Option Addr} {l c : Nat} {n : Int} (hl : l ≤ 9223372036854775807) (hn : 0 ≤ n ∧ n ≤ 1048576) : Ct Tryd.prog 33 [.slice A l c, .int .i64 n] w fun v w1 => v = .int .i64 (szV l n) ∧ Ext w w1 := by
 refine ct_run (n := 12) Tryd.func33 rfl Tryd.ntmps33 rfl ?_
 have E0 : Below w.heap.size w w := Below.refl _ _
 refine rk_seq ?_
 refine rk_reg ?_
 refine lw_v (.int .i64 0) (dv_assign C) ?_
 refine lw_nil ?_
 refine rk_seq ?_
 refine rk_reg ?_
 refine lw_v (.int .i64 n) (dv_move (T rfl rfl)) ?_
 refine lw_v (.slice A l c) (dv_move (T rfl rfl)) ?_
 refine lw_v (.int .i64 ((l : Int))) (dv_len (ad := A) (l := l) (c := c) us46 (T rfl rfl)) ?_
 refine lw_v (.int .i64 (n - ((l : Int)))) (dv_sub (a := n) (b := (l : Int)) (z := n - ((l : Int))) (T rfl rfl) (T rfl rfl) (wr_i64 (by omega) (by omega))) ?_
 refine lw_v (.int .i64 (n - ((l : Int)))) (dv_assign (T rfl rfl)) ?_
 refine lw_nil ?_
 refine rk_seq ?_
 refine rk_seq ?_
 refine rk_reg ?_
 refine lw_v (.int .i64 (n - ((l : Int)))) (dv_move (T rfl rfl)) ?_
 refine lw_v (.bool (decide ((n - ((l : Int))) < 0))) (dv_lss (a := n - ((l : Int))) (b := 0) (T rfl rfl) C) ?_
 refine lw_nil ?_
 by_cases hb1 : (n - ((l : Int))) < 0
 · refine rk_ct (T rfl (congrArg Value.bool (decide_eq_true hb1))) ?_
   refine rk_seq ?_
   refine rk_reg ?_
   refine lw_v (.int .i64 (-1)) (dv_assign C) ?_
   refine lw_nil ?_
   refine rk_ret Tryd.func33 (v := .int .i64 (-1)) (res1 Tryd.results33 (rv_tmp rfl rfl)) ⟨_, rfl, ?_⟩
   exact ⟨(vi (by unfold szV; first | rw [if_pos (by omega)] | rw [if_neg (by omega)])), E0⟩
 · refine rk_cf (T rfl (congrArg Value.bool (decide_eq_false hb1))) ?_
   refine rk_skip ?_
   refine rk_seq ?_
   refine rk_reg ?_
   refine lw_v (.int .i64 (n - ((l : Int)))) (dv_move (T rfl rfl)) ?_
   refine lw_v (.int .i64 (n - ((l : Int)))) (dv_assign (T rfl rfl)) ?_
   refine lw_nil ?_
   refine rk_ret Tryd.func33 (v := .int .i64 (n - ((l : Int)))) (res1 Tryd.results33 (rv_tmp rfl rfl)) ⟨_, rfl, ?_⟩
   exact ⟨(vi (by unfold szV; first | rw [if_pos (by omega)] | rw [if_neg (by omega)])), E0⟩
set_option maxHeartbeats 1000000 in
theorem szRing_ok {w : World} {Ai : Option Addr} {l c : Nat} {n : Int} (hl : l ≤ 9223372036854775807) (hn : 0 ≤ n ∧ n ≤ 1048576) : Ct Tryd.prog 21 [.agg #[.slice Ai l c], .int .i64 n] w fun v w1 => v = .int .i64 (szV l n) ∧ Ext w w1 := by
 refine ct_run (n := 12) Tryd.func21 rfl Tryd.ntmps21 rfl ?_
 have E0 : Below w.heap.size w w := Below.refl _ _
 refine rk_seq ?_
 refine rk_reg ?_
 refine lw_e (oe_box (v := .agg #[.slice Ai l c]) (cs := #[.slice Ai l c]) (T rfl rfl) rfl ?_)
 intro b1 w2 n3
 have N4 : w.heap.size ≤ b1 := n3.eq ▸ E0.size
 have E5 := below_ext E0 E0.size n3.ext
 refine lw_v (.int .i64 0) (dv_assign C) ?_
 refine lw_nil ?_
 refine rk_seq ?_
 refine rk_reg ?_
 refine lw_v (.pointer (some ⟨b1, 0, none⟩)) (dv_fieldAddr (a := ⟨b1, 0, none⟩) (a' := ⟨b1, 0, none⟩) fo48_0 (T rfl rfl) rfl) ?_
 refine lw_v (.slice Ai l c) (dv_load1 (b := b1) (o := 0) agt46 (T rfl rfl) n3.blk rfl) ?_
 refine lw_v (.int .i64 n) (dv_move (T rfl rfl)) ?_
 refine lw_e (oe_callf (vs := [.slice Ai l c, .int .i64 n]) co33 (ar2 (T rfl rfl) (T rfl rfl)) (szSpotS_ok (A := Ai) (c := c) (by omega) (by omega)) ?_)
 rintro _ w6 ⟨rfl, e7⟩
 have E8 := below_ext E5 E5.size e7
 refine lw_v (.int .i64 (szV l n)) (dv_assign (T rfl rfl)) ?_
 refine lw_nil ?_
 refine rk_seq ?_
 refine rk_seq ?_
 refine rk_reg ?_
 refine lw_v (.int .i64 (szV l n)) (dv_move (T rfl rfl)) ?_
 refine lw_v (.bool (decide ((szV l n) < 0))) (dv_lss (a := szV l n) (b := 0) (T rfl rfl) C) ?_
 refine lw_nil ?_
 by_cases hb9 : (szV l n) < 0
 · refine rk_ct (T rfl (congrArg Value.bool (decide_eq_true hb9))) ?_
   refine rk_seq ?_
   refine rk_reg ?_
   refine lw_v (.int .i64 (-1)) (dv_assign C) ?_
   refine lw_nil ?_
   refine rk_ret Tryd.func21 (v := .int .i64 (-1)) (res1 Tryd.results21 (rv_tmp rfl rfl)) ⟨_, rfl, ?_⟩
   exact ⟨(vi (szV_neg (by assumption)).symm), E8⟩
 · refine rk_cf (T rfl (congrArg Value.bool (decide_eq_false hb9))) ?_
   refine rk_skip ?_
   refine rk_seq ?_
   refine rk_reg ?_
   refine lw_v (.int .i64 (szV l n)) (dv_move (T rfl rfl)) ?_
   refine lw_v (.int .i64 (szV l n)) (dv_assign (T rfl rfl)) ?_
   refine lw_nil ?_
   refine rk_ret Tryd.func21 (v := .int .i64 (szV l n)) (res1 Tryd.results21 (rv_tmp rfl rfl)) ⟨_, rfl, ?_⟩
   exact ⟨rfl, E8⟩
set_option maxHeartbeats 1000000 in
theorem szRingS_ok {w : World} {A : Option Addr} {l c : Nat} {N : Nat → Nat} {E : Nat → List Int} {SL : SlF} {lo hi : Nat} {n : Int} (hx : RR w lo hi A l N E SL) (hlm : l ≤ 9223372036854775807) (hEm : ∀ i, i < l → N i ≤ 9223372036854775807) (hn : 0 ≤ n ∧ n ≤ 1048576) : Ct Tryd.prog 10 [.slice A l c, .int .i64 n] w fun v w1 => ∃ r, v = .int .i64 r ∧ (0 ≤ r → l ≤ 1048576 ∧ ∀ i, i < l → N i ≤ 1048576) ∧ Ext w w1 := by
 refine ct_run (n := 27) Tryd.func10 rfl Tryd.ntmps10 rfl ?_
 have E0 : Below w.heap.size w w := Below.refl _ _
 refine rk_seq ?_
 refine rk_reg ?_
 refine lw_v (.int .i64 0) (dv_assign C) ?_
 refine lw_nil ?_
 refine rk_seq ?_
 refine rk_reg ?_
 refine lw_v (.int .i64 n) (dv_move (T rfl rfl)) ?_
 refine lw_v (.slice A l c) (dv_move (T rfl rfl)) ?_
 refine lw_v (.int .i64 ((l : Int))) (dv_len (ad := A) (l := l) (c := c) us28 (T rfl rfl)) ?_
 refine lw_v (.int .i64 (n - ((l : Int)))) (dv_sub (a := n) (b := (l : Int)) (z := n - ((l : Int))) (T rfl rfl) (T rfl rfl) (wr_i64 (by omega) (by omega))) ?_
 refine lw_v (.int .i64 (n - ((l : Int)))) (dv_assign (T rfl rfl)) ?_
 refine lw_nil ?_
 refine rk_seq ?_
 refine rk_seq ?_
 refine rk_reg ?_
 refine lw_v (.int .i64 (n - ((l : Int)))) (dv_move (T rfl rfl)) ?_
 refine lw_v (.bool (decide ((n - ((l : Int))) < 0))) (dv_lss (a := n - ((l : Int))) (b := 0) (T rfl rfl) C) ?_
 refine lw_nil ?_
 by_cases hb1 : (n - ((l : Int))) < 0
 · refine rk_ct (T rfl (congrArg Value.bool (decide_eq_true hb1))) ?_
   refine rk_seq ?_
   refine rk_reg ?_
   refine lw_v (.int .i64 (-1)) (dv_assign C) ?_
   refine lw_nil ?_
   refine rk_ret Tryd.func10 (v := .int .i64 (-1)) (res1 Tryd.results10 (rv_tmp rfl rfl)) ⟨_, rfl, ?_⟩
   exact ⟨-1, rfl, (fun h_ => absurd h_ (by decide)), E0⟩
 · refine rk_cf (T rfl (congrArg Value.bool (decide_eq_false hb1))) ?_
   refine rk_skip ?_
   refine rk_seq ?_
   refine rk_seq ?_
   refine rk_reg ?_
   refine lw_v (.int .i64 0) (dv_assign C) ?_
   refine lw_nil ?_
   refine rk_block ?_
   refine rk_loop (fun dm_ fr wl => ∃ (i : Nat) (z : Int), dm_ = l - i ∧ fr 0 = .slice A l c ∧ fr 1 = .int .i64 z ∧ fr 5 = .int .i64 ((i : Int)) ∧ Below w.heap.size w wl ∧ (i ≤ l) ∧ (0 ≤ z ∧ z ≤ n) ∧ (∀ k, k < i → N k ≤ 1048576)) (l - 0) ⟨0, n - ((l : Int)), rfl, rfl, rfl, (vi (by omega)), E0, (Nat.zero_le _), (by omega), (fun k hk => absurd hk (by omega))⟩ ?_
   intro d6 fr5 w2 hI3 ih4
   obtain ⟨i, z, hd11, f7, f8, f9, E10, hi, hz, hE⟩ := hI3
   obtain ⟨As12, hAs14⟩ : ∃ q_ : Option Addr, q_ = (SL i).1 := ⟨_, rfl⟩
   obtain ⟨cs13, hcs15⟩ : ∃ q_ : Nat, q_ = (SL i).2 := ⟨_, rfl⟩
   have hem : i < l → N i ≤ 9223372036854775807 := fun h_ => hEm i h_
   refine rk_seq ?_
   refine rk_seq ?_
   refine rk_reg ?_
   refine lw_v (.int .i64 ((i : Int))) (dv_move (T rfl f9)) ?_
   refine lw_v (.slice A l c) (dv_move (T rfl f7)) ?_
   refine lw_v (.int .i64 ((l : Int))) (dv_len (ad := A) (l := l) (c := c) us28 (T rfl rfl)) ?_
   refine lw_v (.bool (decide (((i : Int)) < ((l : Int))))) (dv_lss (a := (i : Int)) (b := (l : Int)) (T rfl rfl) (T rfl rfl)) ?_
   refine lw_nil ?_
   by_cases hb16 : ((i : Int)) < ((l : Int))
   · refine rk_ct (T rfl (congrArg Value.bool (decide_eq_true hb16))) ?_
     refine rk_skip ?_
     refine rk_seq ?_
     refine rk_block ?_
     refine rk_seq ?_
     refine rk_reg ?_
     refine lw_v (.slice A l c) (dv_move (T rfl f7)) ?_
     refine lw_v (.int .i64 ((i : Int))) (dv_move (T rfl f9)) ?_
     have h19 := (hx.ext E10)
     obtain ⟨g17, o18, rfl⟩ := RR.at h19 (by first | omega | (simp; done) | (simp; omega))
     refine lw_v (.pointer (some ⟨g17, o18 + i, none⟩)) (dv_indexW (g := g17) (o := o18) (l := l) (c := c) (i := i) (j := (i : Int)) us28 sz48 (T rfl rfl) (T rfl rfl) (by omega) (by first | omega | (simp; done) | (simp; omega))) ?_
     refine lw_v (.agg #[.slice As12 (N i) cs13]) (dv_loadsR (l := [.slice As12 (N i) cs13]) agt48 sz48 (T rfl rfl) rfl (RR.sl1 (i := i) h19 (by first | omega | (simp; done) | (simp; omega)) hAs14 hcs15)) ?_
     refine lw_v (.int .i64 z) (dv_move (T rfl f8)) ?_
     refine lw_e (oe_callf (vs := [.agg #[.slice As12 (N i) cs13], .int .i64 z]) co21 (ar2 (T rfl rfl) (T rfl rfl)) (szRing_ok (Ai := As12) (c := cs13) (by omega) (by omega)) ?_)
     rintro _ w20 ⟨rfl, e21⟩
     have E22 := below_ext E10 E10.size e21
     refine lw_v (.int .i64 (szV (N i) z)) (dv_assign (T rfl rfl)) ?_
     refine lw_nil ?_
     refine rk_seq ?_
     refine rk_reg ?_
     refine lw_v (.int .i64 (szV (N i) z)) (dv_move (T rfl rfl)) ?_
     refine lw_v (.bool (decide ((szV (N i) z) < 0))) (dv_lss (a := szV (N i) z) (b := 0) (T rfl rfl) C) ?_
     refine lw_nil ?_
     by_cases hb23 : (szV (N i) z) < 0
     · refine rk_ct (T rfl (congrArg Value.bool (decide_eq_true hb23))) ?_
       refine rk_seq ?_
       refine rk_reg ?_
       refine lw_v (.int .i64 (-1)) (dv_assign C) ?_
       refine lw_nil ?_
       refine rk_ret Tryd.func10 (v := .int .i64 (-1)) (res1 Tryd.results10 (rv_tmp rfl rfl)) ⟨_, rfl, ?_⟩
       exact ⟨-1, rfl, (fun h_ => absurd h_ (by decide)), E22⟩
     · refine rk_cf (T rfl (congrArg Value.bool (decide_eq_false hb23))) ?_
       refine rk_skip ?_
       refine rk_inBlock ?_
       refine rk_reg ?_
       refine lw_v (.int .i64 ((i : Int))) (dv_move (T rfl f9)) ?_
       refine lw_v (.int .i64 (((i : Int)) + 1)) (dv_add (a := (i : Int)) (b := 1) (z := ((i : Int)) + 1) (T rfl rfl) C (wr_i64 (by omega) (by omega))) ?_
       refine lw_v (.int .i64 (((i : Int)) + 1)) (dv_assign (T rfl rfl)) ?_
       refine lw_nil ?_
       exact ih4 (l - ((i + 1))) _ _ (by rw [hd11]; omega) ⟨(i + 1), szV (N i) z, rfl, f7, rfl, (vi (by omega)), E22, (by omega), (by have h_ := szV_rg (by assumption : ¬ szV (N i) z < 0); unfold szV; split <;> omega), (le_step (E := N) hE (by have h_ := szV_rg (by assumption : ¬ szV (N i) z < 0); omega))⟩
   · refine rk_cf (T rfl (congrArg Value.bool (decide_eq_false hb16))) ?_
     refine rk_exit rfl ?_
     refine rk_seq ?_
     refine rk_reg ?_
     refine lw_v (.int .i64 z) (dv_move (T rfl f8)) ?_
     refine lw_v (.int .i64 z) (dv_assign (T rfl rfl)) ?_
     refine lw_nil ?_
     refine rk_ret Tryd.func10 (v := .int .i64 z) (res1 Tryd.results10 (rv_tmp rfl rfl)) ⟨_, rfl, ?_⟩
     exact ⟨z, rfl, (fun _ => ⟨by omega, fun i_ hi_ => hE i_ (by omega)⟩), E10⟩
set_option maxHeartbeats 1000000 in
theorem toSpotS_ok {w : World} {A : Option Addr} {l c : Nat} {xs : List Int} (hx : RdI w .i64 A xs) (hxl : xs.length = l * 2) (hxb : l ≤ 1048576) : Ct Tryd.prog 37 [.slice A l c] w fun v w1 => ∃ b, v = .slice (some ⟨b, 0, none⟩) l l ∧ Ext w w1 ∧ w1.heap[b]? = some (.cells (xs.map (Value.int .i64)).toArray 41) ∧ w.heap.size ≤ b := by
 refine ct_run (n := 23) Tryd.func37 rfl Tryd.ntmps37 rfl ?_
 have E0 : Below w.heap.size w w := Below.refl _ _
 refine rk_seq ?_
 refine rk_reg ?_
 refine lw_v (.slice none 0 0) (dv_assign C) ?_
 refine lw_nil ?_
 refine rk_seq ?_
 refine rk_reg ?_
 refine lw_v (.slice A l c) (dv_move (T rfl rfl)) ?_
 refine lw_v (.int .i64 ((l : Int))) (dv_len (ad := A) (l := l) (c := c) us46 (T rfl rfl)) ?_
 refine lw_e (oe_makeM (l := l) (j := (l : Int)) (m := 2) (k := .i64) us35 in41 rfl (by decide) (T rfl rfl) (T rfl rfl) (by omega) (by first | omega | (simp; done) | (simp; omega)) (by first | omega | (simp; done) | (simp; omega)) ?_)
 intro b1 w2 n3
 have N4 : w.heap.size ≤ b1 := n3.eq ▸ E0.size
 have E5 := below_ext E0 E0.size n3.ext
 refine lw_v (.slice (some ⟨b1, 0, none⟩) l l) (dv_assign (T rfl rfl)) ?_
 refine lw_nil ?_
 refine rk_seq ?_
 refine rk_seq ?_
 refine rk_reg ?_
 refine lw_v (.int .i64 0) (dv_assign C) ?_
 refine lw_nil ?_
 refine rk_block ?_
 refine rk_loop (fun dm_ fr wl => ∃ (i : Nat) (M : List Int), dm_ = l - i ∧ fr 0 = .slice A l c ∧ fr 2 = .slice none 0 0 ∧ fr 3 = .slice (some ⟨b1, 0, none⟩) l l ∧ fr 4 = .int .i64 ((i : Int)) ∧ Below w.heap.size w wl ∧ wl.heap[b1]? = some (.cells (M.map (Value.int .i64)).toArray 41) ∧ (i ≤ l) ∧ (M.length = l * 2) ∧ (M.take (i * 2) = xs.take (i * 2))) (l - 0) ⟨0, (List.replicate (l * 2) (0 : Int)), rfl, rfl, rfl, rfl, (vi (by omega)), E5, n3.blk, (Nat.zero_le _), (by simp), (by simp)⟩ ?_
 intro d10 fr9 w6 hI7 ih8
 obtain ⟨i, M, hd17, f11, f12, f13, f14, E15, H16, hi, hMl, hMt⟩ := hI7
 refine rk_seq ?_
 refine rk_seq ?_
 refine rk_reg ?_
 refine lw_v (.int .i64 ((i : Int))) (dv_move (T rfl f14)) ?_
 refine lw_v (.slice A l c) (dv_move (T rfl f11)) ?_
 refine lw_v (.int .i64 ((l : Int))) (dv_len (ad := A) (l := l) (c := c) us46 (T rfl rfl)) ?_
 refine lw_v (.bool (decide (((i : Int)) < ((l : Int))))) (dv_lss (a := (i : Int)) (b := (l : Int)) (T rfl rfl) (T rfl rfl)) ?_
 refine lw_nil ?_
 by_cases hb18 : ((i : Int)) < ((l : Int))
 · refine rk_ct (T rfl (congrArg Value.bool (decide_eq_true hb18))) ?_
   refine rk_skip ?_
   refine rk_seq ?_
   refine rk_block ?_
   refine rk_reg ?_
   refine lw_v (.slice (some ⟨b1, 0, none⟩) l l) (dv_move (T rfl f13)) ?_
   refine lw_v (.int .i64 ((i : Int))) (dv_move (T rfl f14)) ?_
   refine lw_v (.slice A l c) (dv_move (T rfl f11)) ?_
   refine lw_v (.int .i64 ((i : Int))) (dv_move (T rfl f14)) ?_
   have h19 := (hx.ext E15)
   obtain ⟨g20, o21, rfl⟩ := RdI.at h19 (by first | omega | (simp; done) | (simp; omega))
   refine lw_v (.pointer (some ⟨g20, o21 + i * 2, none⟩)) (dv_indexM (g := g20) (o := o21) (l := l) (c := c) (i := i) (j := (i : Int)) (m := 2) us46 sz90 (T rfl rfl) (T rfl rfl) (by omega) (by first | omega | (simp; done) | (simp; omega))) ?_
   refine lw_v (.agg #[.int .i64 (xs.getD (i * 2) 0), .int .i64 (xs.getD (i * 2 + 1) 0)]) (dv_loadsI (i := i * 2) (m := 2) (k := .i64) (L := xs) (l := [.int .i64 (xs.getD (i * 2) 0), .int .i64 (xs.getD (i * 2 + 1) 0)]) agt90 sz90 (T rfl rfl) h19 (by first | omega | (simp; done) | (simp; omega)) rfl) ?_
   refine lw_e (oe_callf (vs := [.agg #[.int .i64 (xs.getD (i * 2) 0), .int .i64 (xs.getD (i * 2 + 1) 0)]]) co52 (ar1 (T rfl rfl)) (toSpot_ok (x := xs.getD (i * 2) 0) (y := xs.getD (i * 2 + 1) 0)  ) ?_)
   rintro _ w22 ⟨rfl, e23⟩
   have E24 := below_ext E15 E15.size e23
   refine lw_v (.pointer (some ⟨b1, (i * 2), none⟩)) (dv_indexOM (g := b1) (l := l) (c := l) (i := i) (j := (i : Int)) (m := 2) us35 sz41 (T rfl rfl) (T rfl rfl) (by omega) (by first | omega | (simp; done) | (simp; omega))) ?_
   have H25 := (e23.blk H16)
   refine lw_e (oe_storeM (L := M) (i := i * 2) (m := 2) (k := .i64) (zs := [(xs.getD (i * 2) 0), (xs.getD (i * 2 + 1) 0)]) sz41 (T rfl rfl) (T rfl rfl) rfl rfl H25 (by first | omega | (simp; done) | (simp; omega)) ?_)
   intro w26 s27 H28
   have E29 := below_st E24 N4 s27
   refine lw_nil ?_
   refine rk_inBlock ?_
   refine rk_reg ?_
   refine lw_v (.int .i64 ((i : Int))) (dv_move (T rfl f14)) ?_
   refine lw_v (.int .i64 (((i : Int)) + 1)) (dv_add (a := (i : Int)) (b := 1) (z := ((i : Int)) + 1) (T rfl rfl) C (wr_i64 (by omega) (by omega))) ?_
   refine lw_v (.int .i64 (((i : Int)) + 1)) (dv_assign (T rfl rfl)) ?_
   refine lw_nil ?_
   exact ih8 (l - ((i + 1))) _ _ (by rw [hd17]; omega) ⟨(i + 1), (setM M (i * 2) [(xs.getD (i * 2) 0), (xs.getD (i * 2 + 1) 0)]), rfl, f11, f12, f13, (vi (by omega)), E29, H28, (by omega), (by simp [setM_len, hMl]), (by rw [Nat.add_mul, Nat.one_mul]; exact set_inv hMt (by omega) (by omega) rfl)⟩
 · refine rk_cf (T rfl (congrArg Value.bool (decide_eq_false hb18))) ?_
   refine rk_exit rfl ?_
   refine rk_seq ?_
   refine rk_reg ?_
   refine lw_v (.slice (some ⟨b1, 0, none⟩) l l) (dv_move (T rfl f13)) ?_
   refine lw_v (.slice (some ⟨b1, 0, none⟩) l l) (dv_assign (T rfl rfl)) ?_
   refine lw_nil ?_
   refine rk_ret Tryd.func37 (v := .slice (some ⟨b1, 0, none⟩) l l) (res1 Tryd.results37 (rv_tmp rfl rfl)) ⟨_, rfl, ?_⟩
   have hM : M = xs := take_all hMt (by omega) (by omega)
   exact ⟨_, rfl, E15, by rw [← hM]; exact H16, N4⟩
set_option maxHeartbeats 1000000 in
theorem toRing_ok {w : World} {A : Option Addr} {l c : Nat} {xs : List Int} (hx : RdI w .i64 A xs) (hxl : xs.length = l * 2) (hxb : l ≤ 1048576) : Ct Tryd.prog 24 [.agg #[.slice A l c]] w fun v w1 => ∃ A2, v = .agg #[.slice A2 l l] ∧ Ext w w1 ∧ RdI w1 .i64 A2 xs ∧ ∀ g o, A2 = some ⟨g, o, none⟩ → w.heap.size ≤ g ∧ g < w1.heap.size := by
 refine ct_run (n := 9) Tryd.func24 rfl Tryd.ntmps24 rfl ?_
 have E0 : Below w.heap.size w w := Below.refl _ _
 refine rk_seq ?_
 refine rk_reg ?_
 refine lw_e (oe_box (v := .agg #[.slice A l c]) (cs := #[.slice A l c]) (T rfl rfl) rfl ?_)
 intro b1 w2 n3
 have N4 : w.heap.size ≤ b1 := n3.eq ▸ E0.size
 have E5 := below_ext E0 E0.size n3.ext
 refine lw_e (oe_alloc ze37 ?_)
 intro b6 w7 n8
 have N9 : w.heap.size ≤ b6 := n8.eq ▸ E5.size
 have : b1 < b6 := n8.eq ▸ lt_of_blk n3.blk
 have E10 := below_ext E5 E5.size n8.ext
 refine lw_nil ?_
 refine rk_seq ?_
 refine rk_reg ?_
 refine lw_e (oe_alloc ze37 ?_)
 intro b11 w12 n13
 have N14 : w.heap.size ≤ b11 := n13.eq ▸ E10.size
 have : b6 < b11 := n13.eq ▸ lt_of_blk n8.blk
 have E15 := below_ext E10 E10.size n13.ext
 refine lw_nil ?_
 refine rk_seq ?_
 refine rk_reg ?_
 refine lw_v (.pointer (some ⟨b1, 0, none⟩)) (dv_fieldAddr (a := ⟨b1, 0, none⟩) (a' := ⟨b1, 0, none⟩) fo48_0 (T rfl rfl) rfl) ?_
 have H16 := (n13.ext.blk (n8.ext.blk n3.blk))
 refine lw_v (.slice A l c) (dv_load1 (b := b1) (o := 0) agt46 (T rfl rfl) H16 rfl) ?_
 have h17 := (((hx.ext n3.ext).ext n8.ext).ext n13.ext)
 have : b1 < w12.heap.size := lt_of_blk H16
 have H23 := (n13.ext.blk n8.blk)
 have : b6 < w12.heap.size := lt_of_blk H23
 have : b11 < w12.heap.size := lt_of_blk n13.blk
 have : w.heap.size ≤ w12.heap.size := E15.size
 refine lw_e (oe_callf (vs := [.slice A l c]) co37 (ar1 (T rfl rfl)) (toSpotS_ok (l := l) (c := c) (xs := xs) h17 (by first | omega | (simp; done) | (simp; omega)) (by first | omega | (simp; done) | (simp; omega))) ?_)
 rintro _ w21 ⟨b18, rfl, e22, H19, hN20⟩
 have E24 := below_ext E15 E15.size e22
 have : b1 < b18 := by omega
 have : b6 < b18 := by omega
 have : b11 < b18 := by omega
 have N25 : w.heap.size ≤ b18 := by omega
 refine lw_v (.pointer (some ⟨b11, 0, none⟩)) (dv_fieldAddr (a := ⟨b11, 0, none⟩) (a' := ⟨b11, 0, none⟩) fo37_0 (T rfl rfl) rfl) ?_
 have H26 := (e22.blk n13.blk)
 refine lw_e (oe_store (v := .slice (some ⟨b18, 0, none⟩) l l) (vs := [.slice (some ⟨b18, 0, none⟩) l l]) (l := [.slice (some ⟨b18, 0, none⟩) l l]) (T rfl rfl) (T rfl rfl) sz35 rfl rfl rfl H26 rfl ?_)
 intro w27 s28 H29
 have E30 := below_st E24 N14 s28
 refine lw_nil ?_
 refine rk_seq ?_
 refine rk_reg ?_
 refine lw_v (.agg #[.slice (some ⟨b18, 0, none⟩) l l]) (dv_loads (l := [.slice (some ⟨b18, 0, none⟩) l l]) agt37 sz37 (T rfl rfl) H29 rfl) ?_
 have H31 := (s28.blk (e22.blk H23) (by omega))
 refine lw_e (oe_store (v := .agg #[.slice (some ⟨b18, 0, none⟩) l l]) (vs := [.slice (some ⟨b18, 0, none⟩) l l]) (l := [.slice (some ⟨b18, 0, none⟩) l l]) (T rfl rfl) (T rfl rfl) sz37 rfl rfl rfl H31 rfl ?_)
 intro w32 s33 H34
 have E35 := below_st E30 N9 s33
 refine lw_nil ?_
 refine rk_ret Tryd.func24 (v := .agg #[.slice (some ⟨b18, 0, none⟩) l l]) (res1 Tryd.results24 (rv_cells (l := [.slice (some ⟨b18, 0, none⟩) l l]) agt37 sz37 rfl rfl H34 rfl)) ⟨_, rfl, ?_⟩
 have H36 := (s33.blk (s28.blk H19 (by omega)) (by omega))
 exact ⟨_, rfl, E35, (Wd.ownW H36).rdI, fun g_ o_ h_ => by injection h_ with h_; injection h_ with h_ _ _; subst h_; exact ⟨N25, lt_of_blk H36⟩⟩
set_option maxHeartbeats 1000000 in
theorem toRingS_ok {w : World} {A : Option Addr} {l c : Nat} {N : Nat → Nat} {E : Nat → List Int} {SL : SlF} {lo hi : Nat} (hx : RR w lo hi A l N E SL) (hxb : l ≤ 1048576) (hxn : ∀ i, i < l → N i ≤ 1048576) : Ct Tryd.prog 12 [.slice A l c] w fun v w1 => ∃ A2 S2, v = .slice A2 l l ∧ Ext w w1 ∧ RR w1 w.heap.size w1.heap.size A2 l N E S2 := by
 refine ct_run (n := 23) Tryd.func12 rfl Tryd.ntmps12 rfl ?_
 have E0 : Below w.heap.size w w := Below.refl _ _
 refine rk_seq ?_
 refine rk_reg ?_
 refine lw_v (.slice none 0 0) (dv_assign C) ?_
 refine lw_nil ?_
 refine rk_seq ?_
 refine rk_reg ?_
 refine lw_v (.slice A l c) (dv_move (T rfl rfl)) ?_
 refine lw_v (.int .i64 ((l : Int))) (dv_len (ad := A) (l := l) (c := c) us28 (T rfl rfl)) ?_
 refine lw_e (oe_makeR (N := N) (E := E) (SL := fun _ => (none, 0)) (m := l) (j := (l : Int)) us22 in37 rfl (T rfl rfl) (T rfl rfl) (by omega) (by first | omega | (simp; done) | (simp; omega)) (by first | omega | (simp; done) | (simp; omega)) ?_)
 intro Am1 w2 hR3 e4
 have E5 := below_ext E0 E0.size e4
 refine lw_v (.slice Am1 l l) (dv_assign (T rfl rfl)) ?_
 refine lw_nil ?_
 refine rk_seq ?_
 refine rk_seq ?_
 refine rk_reg ?_
 refine lw_v (.int .i64 0) (dv_assign C) ?_
 refine lw_nil ?_
 refine rk_block ?_
 refine rk_loop (fun dm_ fr wl => ∃ (i : Nat) (S : SlF), dm_ = l - i ∧ fr 0 = .slice A l c ∧ fr 2 = .slice none 0 0 ∧ fr 3 = .slice Am1 l l ∧ fr 4 = .int .i64 ((i : Int)) ∧ Below w.heap.size w wl ∧ RO wl w.heap.size wl.heap.size 37 w.heap.size Am1 i l N E S ∧ (i ≤ l)) (l - 0) ⟨0, (fun _ => (none, 0)), rfl, rfl, rfl, rfl, (vi (by omega)), E5, hR3, (Nat.zero_le _)⟩ ?_
 intro d10 fr9 w6 hI7 ih8
 obtain ⟨i, S, hd17, f11, f12, f13, f14, E15, h16, hi_⟩ := hI7
 obtain ⟨As18, hAs20⟩ : ∃ q_ : Option Addr, q_ = (SL i).1 := ⟨_, rfl⟩
 obtain ⟨cs19, hcs21⟩ : ∃ q_ : Nat, q_ = (SL i).2 := ⟨_, rfl⟩
 have hel := fun h_ : i < l => RR.len hx (i := i) h_; have hnn := fun h_ : i < l => hxn i h_
 refine rk_seq ?_
 refine rk_seq ?_
 refine rk_reg ?_
 refine lw_v (.int .i64 ((i : Int))) (dv_move (T rfl f14)) ?_
 refine lw_v (.slice A l c) (dv_move (T rfl f11)) ?_
 refine lw_v (.int .i64 ((l : Int))) (dv_len (ad := A) (l := l) (c := c) us28 (T rfl rfl)) ?_
 refine lw_v (.bool (decide (((i : Int)) < ((l : Int))))) (dv_lss (a := (i : Int)) (b := (l : Int)) (T rfl rfl) (T rfl rfl)) ?_
 refine lw_nil ?_
 by_cases hb22 : ((i : Int)) < ((l : Int))
 · refine rk_ct (T rfl (congrArg Value.bool (decide_eq_true hb22))) ?_
   refine rk_skip ?_
   refine rk_seq ?_
   refine rk_block ?_
   refine rk_reg ?_
   refine lw_v (.slice Am1 l l) (dv_move (T rfl f13)) ?_
   refine lw_v (.int .i64 ((i : Int))) (dv_move (T rfl f14)) ?_
   refine lw_v (.slice A l c) (dv_move (T rfl f11)) ?_
   refine lw_v (.int .i64 ((i : Int))) (dv_move (T rfl f14)) ?_
   have h25 := (hx.ext E15)
   obtain ⟨g23, o24, rfl⟩ := RR.at h25 (by first | omega | (simp; done) | (simp; omega))
   refine lw_v (.pointer (some ⟨g23, o24 + i, none⟩)) (dv_indexW (g := g23) (o := o24) (l := l) (c := c) (i := i) (j := (i : Int)) us28 sz48 (T rfl rfl) (T rfl rfl) (by omega) (by first | omega | (simp; done) | (simp; omega))) ?_
   refine lw_v (.agg #[.slice As18 (N i) cs19]) (dv_loadsR (l := [.slice As18 (N i) cs19]) agt48 sz48 (T rfl rfl) rfl (RR.sl1 (i := i) h25 (by first | omega | (simp; done) | (simp; omega)) hAs20 hcs21)) ?_
   refine lw_e (oe_callf (vs := [.agg #[.slice As18 (N i) cs19]]) co24 (ar1 (T rfl rfl)) (toRing_ok (c := cs19) (RR.rd (i := i) h25 (by first | omega | (simp; done) | (simp; omega)) hAs20) (by omega) (by first | omega | (simp; done) | (simp; omega))) ?_)
   rintro _ w29 ⟨At26, rfl, e30, hOt27, hrt28⟩
   have E31 := below_ext E15 E15.size e30
   have h34 := (h16.ext e30)
   obtain ⟨g32, o33, rfl⟩ := RO.at h34 (by first | omega | (simp; done) | (simp; omega))
   refine lw_v (.pointer (some ⟨g32, o33 + i, none⟩)) (dv_indexW (g := g32) (o := o33) (l := l) (c := l) (i := i) (j := (i : Int)) us22 sz37 (T rfl rfl) (T rfl rfl) (by omega) (by first | omega | (simp; done) | (simp; omega))) ?_
   refine lw_e (oe_storeR (lo := w.heap.size) (hi := w6.heap.size) (l := i) (c := l) (g := g32) (o := o33) (s := w6.heap.size) (m := N i) (A' := At26) (c' := N i) (es := E i) sz37 (T rfl rfl) (T rfl rfl) rfl h34 (by first | omega | (simp; done) | (simp; omega)) (by omega) hOt27 (by omega) hrt28 (by omega) rfl rfl ?_)
   intro w35 hR36 x37
   have E38 := below_mid E31 (Nat.le_refl _) E31.size x37
   refine lw_nil ?_
   refine rk_inBlock ?_
   refine rk_reg ?_
   refine lw_v (.int .i64 ((i : Int))) (dv_move (T rfl f14)) ?_
   refine lw_v (.int .i64 (((i : Int)) + 1)) (dv_add (a := (i : Int)) (b := 1) (z := ((i : Int)) + 1) (T rfl rfl) C (wr_i64 (by omega) (by omega))) ?_
   refine lw_v (.int .i64 (((i : Int)) + 1)) (dv_assign (T rfl rfl)) ?_
   refine lw_nil ?_
   exact ih8 (l - ((i + 1))) _ _ (by rw [hd17]; omega) ⟨(i + 1), (updA S i (At26, N i)), rfl, f11, f12, f13, (vi (by omega)), E38, hR36, (by omega)⟩
 · refine rk_cf (T rfl (congrArg Value.bool (decide_eq_false hb22))) ?_
   refine rk_exit rfl ?_
   refine rk_seq ?_
   refine rk_reg ?_
   refine lw_v (.slice Am1 l l) (dv_move (T rfl f13)) ?_
   refine lw_v (.slice Am1 l l) (dv_assign (T rfl rfl)) ?_
   refine lw_nil ?_
   refine rk_ret Tryd.func12 (v := .slice Am1 l l) (res1 Tryd.results12 (rv_tmp rfl rfl)) ⟨_, rfl, ?_⟩
   obtain rfl : i = l := by omega
   exact ⟨_, _, rfl, E15, h16.rr⟩
set_option maxHeartbeats 1000000 in
theorem eqSpotS_ok {w : World} {A : Option Addr} {l c : Nat} {xs : List Int} (hx : RdI w .i64 A xs) (hxl : xs.length = l * 2) (hxb : l ≤ 1048576) {D : Option Addr} {m d : Nat} {ys : List Int} (hy : RdI w .i64 D ys) (hyl : ys.length = m * 2) (hyb : m ≤ 1048576) : Ct Tryd.prog 32 [.slice A l c, .slice D m d] w fun v w1 => v = .bool (decide ((xs : List Int) = ys)) ∧ Ext w w1 := by
 refine ct_run (n := 27) Tryd.func32 rfl Tryd.ntmps32 rfl ?_
 have E0 : Below w.heap.size w w := Below.refl _ _
 refine rk_seq ?_
 refine rk_reg ?_
 refine lw_v (.bool false) (dv_assign C) ?_
 refine lw_nil ?_
 refine rk_seq ?_
 refine rk_seq ?_
 refine rk_reg ?_
 refine lw_v (.slice A l c) (dv_move (T rfl rfl)) ?_
 refine lw_v (.int .i64 ((l : Int))) (dv_len (ad := A) (l := l) (c := c) us35 (T rfl rfl)) ?_
 refine lw_v (.slice D m d) (dv_move (T rfl rfl)) ?_
 refine lw_v (.int .i64 ((m : Int))) (dv_len (ad := D) (l := m) (c := d) us35 (T rfl rfl)) ?_
 refine lw_v (.bool (decide (((l : Int)) ≠ ((m : Int))))) (dv_neq (a := (l : Int)) (b := (m : Int)) (T rfl rfl) (T rfl rfl)) ?_
 refine lw_nil ?_
 by_cases hb1 : ((l : Int)) ≠ ((m : Int))
 · refine rk_ct (T rfl (congrArg Value.bool (decide_eq_true hb1))) ?_
   refine rk_seq ?_
   refine rk_reg ?_
   refine lw_v (.bool false) (dv_assign C) ?_
   refine lw_nil ?_
   refine rk_ret Tryd.func32 (v := .bool false) (res1 Tryd.results32 (rv_tmp rfl rfl)) ⟨_, rfl, ?_⟩
   exact ⟨(vf (by intro hh; have := congrArg List.length hh; omega)), E0⟩
 · refine rk_cf (T rfl (congrArg Value.bool (decide_eq_false hb1))) ?_
   refine rk_skip ?_
   refine rk_seq ?_
   refine rk_seq ?_
   refine rk_reg ?_
   refine lw_v (.int .i64 0) (dv_assign C) ?_
   refine lw_nil ?_
   refine rk_block ?_
   refine rk_loop (fun dm_ fr wl => ∃ (i : Nat), dm_ = l - i ∧ fr 0 = .slice A l c ∧ fr 1 = .slice D m d ∧ fr 5 = .int .i64 ((i : Int)) ∧ Below w.heap.size w wl ∧ (i ≤ l) ∧ (xs.take (i * 2) = ys.take (i * 2))) (l - 0) ⟨0, rfl, rfl, rfl, (vi (by omega)), E0, (Nat.zero_le _), (by simp)⟩ ?_
   intro d6 fr5 w2 hI3 ih4
   obtain ⟨i, hd11, f7, f8, f9, E10, hi, hqt⟩ := hI3
   refine rk_seq ?_
   refine rk_seq ?_
   refine rk_reg ?_
   refine lw_v (.int .i64 ((i : Int))) (dv_move (T rfl f9)) ?_
   refine lw_v (.slice A l c) (dv_move (T rfl f7)) ?_
   refine lw_v (.int .i64 ((l : Int))) (dv_len (ad := A) (l := l) (c := c) us35 (T rfl rfl)) ?_
   refine lw_v (.bool (decide (((i : Int)) < ((l : Int))))) (dv_lss (a := (i : Int)) (b := (l : Int)) (T rfl rfl) (T rfl rfl)) ?_
   refine lw_nil ?_
   by_cases hb12 : ((i : Int)) < ((l : Int))
   · refine rk_ct (T rfl (congrArg Value.bool (decide_eq_true hb12))) ?_
     refine rk_skip ?_
     refine rk_seq ?_
     refine rk_block ?_
     refine rk_seq ?_
     have h13 := (hx.ext E10)
     have h14 := (hy.ext E10)
     refine rk_any (fun w => RdI w .i64 A xs ∧ RdI w .i64 D ys) [] mo ?_
     intro w15 d16
     have E17 := below_ext E10 E10.size d16.ext
     have h18 := (h13.ext d16.ext)
     have h19 := (h14.ext d16.ext)
     refine aw_pure 0 (.slice A l c) rfl (by kernel_rfl) .none ⟨h18, h19⟩ (fun _ => dv_move (T rfl f7)) ?_
     refine aw_pure 1 (.int .i64 ((i : Int))) rfl (by kernel_rfl) .none ⟨h18, h19⟩ (fun _ => dv_move (T rfl f9)) ?_
     obtain ⟨g20, o21, rfl⟩ := RdI.at h18 (by first | omega | (simp; done) | (simp; omega))
     refine aw_pure 2 (.pointer (some ⟨g20, o21 + i * 2, none⟩)) rfl (by kernel_rfl) .none ⟨h18, h19⟩ (fun _ => dv_indexM (g := g20) (o := o21) (l := l) (c := c) (i := i) (j := (i : Int)) (m := 2) us35 sz41 (T rfl rfl) (T rfl rfl) (by omega) (by first | omega | (simp; done) | (simp; omega))) ?_
     refine aw_load 3 (.agg #[.int .i64 (xs.getD (i * 2) 0), .int .i64 (xs.getD (i * 2 + 1) 0)]) rfl (by kernel_rfl) .none ⟨h18, h19⟩ (fun _ s => dv_loadsI (i := i * 2) (m := 2) (k := .i64) (L := xs) (l := [.int .i64 (xs.getD (i * 2) 0), .int .i64 (xs.getD (i * 2 + 1) 0)]) agt41 sz41 (T rfl rfl) s.1 (by first | omega | (simp; done) | (simp; omega)) rfl) ?_
     refine aw_pure 4 (.slice D m d) rfl (by kernel_rfl) .none ⟨h18, h19⟩ (fun _ => dv_move (T rfl f8)) ?_
     refine aw_pure 5 (.int .i64 ((i : Int))) rfl (by kernel_rfl) .none ⟨h18, h19⟩ (fun _ => dv_move (T rfl f9)) ?_
     obtain ⟨g22, o23, rfl⟩ := RdI.at h19 (by first | omega | (simp; done) | (simp; omega))
     refine aw_pure 6 (.pointer (some ⟨g22, o23 + i * 2, none⟩)) rfl (by kernel_rfl) .none ⟨h18, h19⟩ (fun _ => dv_indexM (g := g22) (o := o23) (l := m) (c := d) (i := i) (j := (i : Int)) (m := 2) us35 sz41 (T rfl rfl) (T rfl rfl) (by omega) (by first | omega | (simp; done) | (simp; omega))) ?_
     refine aw_load 7 (.agg #[.int .i64 (ys.getD (i * 2) 0), .int .i64 (ys.getD (i * 2 + 1) 0)]) rfl (by kernel_rfl) .none ⟨h18, h19⟩ (fun _ s => dv_loadsI (i := i * 2) (m := 2) (k := .i64) (L := ys) (l := [.int .i64 (ys.getD (i * 2) 0), .int .i64 (ys.getD (i * 2 + 1) 0)]) agt41 sz41 (T rfl rfl) s.2 (by first | omega | (simp; done) | (simp; omega)) rfl) ?_
     refine aw_one 8 rfl (by kernel_rfl) .none (oe_callf (vs := [.agg #[.int .i64 (xs.getD (i * 2) 0), .int .i64 (xs.getD (i * 2 + 1) 0)], .agg #[.int .i64 (ys.getD (i * 2) 0), .int .i64 (ys.getD (i * 2 + 1) 0)]]) co50 (ar2 (T rfl rfl) (T rfl rfl)) (eqSpot_ok (ax := xs.getD (i * 2) 0) (ay := xs.getD (i * 2 + 1) 0) (bx := ys.getD (i * 2) 0) (b_y := ys.getD (i * 2 + 1) 0)  ) ?_)
     rintro _ w24 ⟨rfl, e25⟩
     have E26 := below_ext E17 E17.size e25
     have h27 := (h18.ext e25)
     have h28 := (h19.ext e25)
     refine ⟨.inr ⟨h27, h28⟩, ?_⟩
     refine aw_pure 9 (.bool (decide (¬ ((xs.getD (i * 2) 0) = (ys.getD (i * 2) 0) ∧ (xs.getD (i * 2 + 1) 0) = (ys.getD (i * 2 + 1) 0))))) rfl (by kernel_rfl) .none ⟨h27, h28⟩ (fun _ => dv_notd (p := (xs.getD (i * 2) 0) = (ys.getD (i * 2) 0) ∧ (xs.getD (i * 2 + 1) 0) = (ys.getD (i * 2 + 1) 0)) (T rfl rfl)) ?_
     refine aw_done (by kernel_rfl) ?_
     by_cases hb29 : (xs.getD (i * 2) 0) = (ys.getD (i * 2) 0) ∧ (xs.getD (i * 2 + 1) 0) = (ys.getD (i * 2 + 1) 0)
     · refine rk_cf (T rfl (congrArg Value.bool (decide_eq_false (not_not_intro hb29)))) ?_
       refine rk_skip ?_
       refine rk_inBlock ?_
       refine rk_reg ?_
       refine lw_v (.int .i64 ((i : Int))) (dv_move (T rfl f9)) ?_
       refine lw_v (.int .i64 (((i : Int)) + 1)) (dv_add (a := (i : Int)) (b := 1) (z := ((i : Int)) + 1) (T rfl rfl) C (wr_i64 (by omega) (by omega))) ?_
       refine lw_v (.int .i64 (((i : Int)) + 1)) (dv_assign (T rfl rfl)) ?_
       refine lw_nil ?_
       exact ih4 (l - ((i + 1))) _ _ (by rw [hd11]; omega) ⟨(i + 1), rfl, f7, f8, (vi (by omega)), E26, (by omega), (by have hq := ‹_ ∧ _›; rw [Nat.add_mul, Nat.one_mul]; exact take_eq2 hqt (by omega) (by omega) hq.1 hq.2)⟩
     · refine rk_ct (T rfl (congrArg Value.bool (decide_eq_true hb29))) ?_
       refine rk_seq ?_
       refine rk_reg ?_
       refine lw_v (.bool false) (dv_assign C) ?_
       refine lw_nil ?_
       refine rk_ret Tryd.func32 (v := .bool false) (res1 Tryd.results32 (rv_tmp rfl rfl)) ⟨_, rfl, ?_⟩
       exact ⟨(vf (by intro hh; subst hh; exact hb29 ⟨rfl, rfl⟩)), E26⟩
   · refine rk_cf (T rfl (congrArg Value.bool (decide_eq_false hb12))) ?_
     refine rk_exit rfl ?_
     refine rk_seq ?_
     refine rk_reg ?_
     refine lw_v (.bool true) (dv_assign C) ?_
     refine lw_nil ?_
     refine rk_ret Tryd.func32 (v := .bool true) (res1 Tryd.results32 (rv_tmp rfl rfl)) ⟨_, rfl, ?_⟩
     exact ⟨(vt (take_all hqt (by omega) (by omega))), E10⟩
set_option maxHeartbeats 1000000 in
theorem eqRing_ok {w : World} {A D : Option Addr} {l c d : Nat} {xs : List Int} (hx : RdI w .i64 A xs) (hy : RdI w .i64 D xs) (hxl : xs.length = l * 2) (hxb : l ≤ 1048576) : Ct Tryd.prog 18 [.agg #[.slice A l c], .agg #[.slice D l d]] w fun v w1 => v = .bool true ∧ Ext w w1 := by
 refine ct_run (n := 11) Tryd.func18 rfl Tryd.ntmps18 rfl ?_
 have E0 : Below w.heap.size w w := Below.refl _ _
 refine rk_seq ?_
 refine rk_reg ?_
 refine lw_e (oe_box (v := .agg #[.slice A l c]) (cs := #[.slice A l c]) (T rfl rfl) rfl ?_)
 intro b1 w2 n3
 have N4 : w.heap.size ≤ b1 := n3.eq ▸ E0.size
 have E5 := below_ext E0 E0.size n3.ext
 refine lw_e (oe_box (v := .agg #[.slice D l d]) (cs := #[.slice D l d]) (T rfl rfl) rfl ?_)
 intro b6 w7 n8
 have N9 : w.heap.size ≤ b6 := n8.eq ▸ E5.size
 have : b1 < b6 := n8.eq ▸ lt_of_blk n3.blk
 have E10 := below_ext E5 E5.size n8.ext
 refine lw_v (.bool false) (dv_assign C) ?_
 refine lw_nil ?_
 refine rk_seq ?_
 refine rk_seq ?_
 refine rk_reg ?_
 refine lw_v (.pointer (some ⟨b1, 0, none⟩)) (dv_fieldAddr (a := ⟨b1, 0, none⟩) (a' := ⟨b1, 0, none⟩) fo37_0 (T rfl rfl) rfl) ?_
 have H11 := (n8.ext.blk n3.blk)
 refine lw_v (.slice A l c) (dv_load1 (b := b1) (o := 0) agt35 (T rfl rfl) H11 rfl) ?_
 refine lw_v (.pointer (some ⟨b6, 0, none⟩)) (dv_fieldAddr (a := ⟨b6, 0, none⟩) (a' := ⟨b6, 0, none⟩) fo37_0 (T rfl rfl) rfl) ?_
 refine lw_v (.slice D l d) (dv_load1 (b := b6) (o := 0) agt35 (T rfl rfl) n8.blk rfl) ?_
 have h12 := ((hx.ext n3.ext).ext n8.ext)
 have h13 := ((hy.ext n3.ext).ext n8.ext)
 refine lw_e (oe_callf (vs := [.slice A l c, .slice D l d]) co32 (ar2 (T rfl rfl) (T rfl rfl)) (eqSpotS_ok (l := l) (m := l) (c := c) (d := d) (xs := xs) (ys := xs) h12 (by first | omega | (simp; done) | (simp; omega)) (by first | omega | (simp; done) | (simp; omega)) h13 (by first | omega | (simp; done) | (simp; omega)) (by first | omega | (simp; done) | (simp; omega))) ?_)
 rintro _ w14 ⟨rfl, e15⟩
 have E16 := below_ext E10 E10.size e15
 refine lw_v (.bool (decide (¬ ((xs : List Int) = xs)))) (dv_notd (p := (xs : List Int) = xs) (T rfl rfl)) ?_
 refine lw_nil ?_
 by_cases hb17 : (xs : List Int) = xs
 · refine rk_cf (T rfl (congrArg Value.bool (decide_eq_false (not_not_intro hb17)))) ?_
   refine rk_skip ?_
   refine rk_seq ?_
   refine rk_reg ?_
   refine lw_v (.bool true) (dv_assign C) ?_
   refine lw_nil ?_
   refine rk_ret Tryd.func18 (v := .bool true) (res1 Tryd.results18 (rv_tmp rfl rfl)) ⟨_, rfl, ?_⟩
   exact ⟨rfl, E16⟩
 · refine rk_ct (T rfl (congrArg Value.bool (decide_eq_true hb17))) ?_
   refine rk_seq ?_
   refine rk_reg ?_
   refine lw_v (.bool false) (dv_assign C) ?_
   refine lw_nil ?_
   refine rk_ret Tryd.func18 (v := .bool false) (res1 Tryd.results18 (rv_tmp rfl rfl)) ⟨_, rfl, ?_⟩
   exact ⟨(by exfalso; first | contradiction | exact absurd rfl (by assumption) | omega), E16⟩
set_option maxHeartbeats 1000000 in
theorem eqRingS_ok {w : World} {A : Option Addr} {l c : Nat} {N : Nat → Nat} {E : Nat → List Int} {SL : SlF} {lo hi : Nat} (hx : RR w lo hi A l N E SL) (hxb : l ≤ 1048576) (hxn : ∀ i, i < l → N i ≤ 1048576) {D : Option Addr} {d : Nat} {SM : SlF} {lo2 hi2 : Nat} (hy : RR w lo2 hi2 D l N E SM) : Ct Tryd.prog 7 [.slice A l c, .slice D l d] w fun v w1 => v = .bool true ∧ Ext w w1 := by
 refine ct_run (n := 27) Tryd.func7 rfl Tryd.ntmps7 rfl ?_
 have E0 : Below w.heap.size w w := Below.refl _ _
 refine rk_seq ?_
 refine rk_reg ?_
 refine lw_v (.bool false) (dv_assign C) ?_
 refine lw_nil ?_
 refine rk_seq ?_
 refine rk_seq ?_
 refine rk_reg ?_
 refine lw_v (.slice A l c) (dv_move (T rfl rfl)) ?_
 refine lw_v (.int .i64 ((l : Int))) (dv_len (ad := A) (l := l) (c := c) us22 (T rfl rfl)) ?_
 refine lw_v (.slice D l d) (dv_move (T rfl rfl)) ?_
 refine lw_v (.int .i64 ((l : Int))) (dv_len (ad := D) (l := l) (c := d) us22 (T rfl rfl)) ?_
 refine lw_v (.bool (decide (((l : Int)) ≠ ((l : Int))))) (dv_neq (a := (l : Int)) (b := (l : Int)) (T rfl rfl) (T rfl rfl)) ?_
 refine lw_nil ?_
 by_cases hb1 : ((l : Int)) ≠ ((l : Int))
 · refine rk_ct (T rfl (congrArg Value.bool (decide_eq_true hb1))) ?_
   refine rk_seq ?_
   refine rk_reg ?_
   refine lw_v (.bool false) (dv_assign C) ?_
   refine lw_nil ?_
   refine rk_ret Tryd.func7 (v := .bool false) (res1 Tryd.results7 (rv_tmp rfl rfl)) ⟨_, rfl, ?_⟩
   exact ⟨(by exfalso; first | contradiction | exact absurd rfl (by assumption) | omega), E0⟩
 · refine rk_cf (T rfl (congrArg Value.bool (decide_eq_false hb1))) ?_
   refine rk_skip ?_
   refine rk_seq ?_
   refine rk_seq ?_
   refine rk_reg ?_
   refine lw_v (.int .i64 0) (dv_assign C) ?_
   refine lw_nil ?_
   refine rk_block ?_
   refine rk_loop (fun dm_ fr wl => ∃ (i : Nat), dm_ = l - i ∧ fr 0 = .slice A l c ∧ fr 1 = .slice D l d ∧ fr 5 = .int .i64 ((i : Int)) ∧ Below w.heap.size w wl ∧ (i ≤ l)) (l - 0) ⟨0, rfl, rfl, rfl, (vi (by omega)), E0, (Nat.zero_le _)⟩ ?_
   intro d6 fr5 w2 hI3 ih4
   obtain ⟨i, hd11, f7, f8, f9, E10, hi_⟩ := hI3
   obtain ⟨As12, hAs14⟩ : ∃ q_ : Option Addr, q_ = (SL i).1 := ⟨_, rfl⟩
   obtain ⟨cs13, hcs15⟩ : ∃ q_ : Nat, q_ = (SL i).2 := ⟨_, rfl⟩
   obtain ⟨As16, hAs18⟩ : ∃ q_ : Option Addr, q_ = (SM i).1 := ⟨_, rfl⟩
   obtain ⟨cs17, hcs19⟩ : ∃ q_ : Nat, q_ = (SM i).2 := ⟨_, rfl⟩
   have hel := fun h_ : i < l => RR.len hx (i := i) h_; have hnn := fun h_ : i < l => hxn i h_
   refine rk_seq ?_
   refine rk_seq ?_
   refine rk_reg ?_
   refine lw_v (.int .i64 ((i : Int))) (dv_move (T rfl f9)) ?_
   refine lw_v (.slice A l c) (dv_move (T rfl f7)) ?_
   refine lw_v (.int .i64 ((l : Int))) (dv_len (ad := A) (l := l) (c := c) us22 (T rfl rfl)) ?_
   refine lw_v (.bool (decide (((i : Int)) < ((l : Int))))) (dv_lss (a := (i : Int)) (b := (l : Int)) (T rfl rfl) (T rfl rfl)) ?_
   refine lw_nil ?_
   by_cases hb20 : ((i : Int)) < ((l : Int))
   · refine rk_ct (T rfl (congrArg Value.bool (decide_eq_true hb20))) ?_
     refine rk_skip ?_
     refine rk_seq ?_
     refine rk_block ?_
     refine rk_seq ?_
     refine rk_any (fun w => RR w lo hi A l N E SL ∧ RR w lo2 hi2 D l N E SM) [] mo ?_
     intro w21 d22
     have E23 := below_ext E10 E10.size d22.ext
     have h24 := ((hx.ext E10).ext d22.ext)
     have h25 := ((hy.ext E10).ext d22.ext)
     refine aw_pure 0 (.slice A l c) rfl (by kernel_rfl) .none ⟨h24, h25⟩ (fun _ => dv_move (T rfl f7)) ?_
     refine aw_pure 1 (.int .i64 ((i : Int))) rfl (by kernel_rfl) .none ⟨h24, h25⟩ (fun _ => dv_move (T rfl f9)) ?_
     obtain ⟨g26, o27, rfl⟩ := RR.at h24 (by first | omega | (simp; done) | (simp; omega))
     refine aw_pure 2 (.pointer (some ⟨g26, o27 + i, none⟩)) rfl (by kernel_rfl) .none ⟨h24, h25⟩ (fun _ => dv_indexW (g := g26) (o := o27) (l := l) (c := c) (i := i) (j := (i : Int)) us22 sz37 (T rfl rfl) (T rfl rfl) (by omega) (by first | omega | (simp; done) | (simp; omega))) ?_
     refine aw_load 3 (.agg #[.slice As12 (N i) cs13]) rfl (by kernel_rfl) .none ⟨h24, h25⟩ (fun _ s => dv_loadsR (l := [.slice As12 (N i) cs13]) agt37 sz37 (T rfl rfl) rfl (RR.sl1 (i := i) s.1 (by first | omega | (simp; done) | (simp; omega)) hAs14 hcs15)) ?_
     refine aw_pure 4 (.slice D l d) rfl (by kernel_rfl) .none ⟨h24, h25⟩ (fun _ => dv_move (T rfl f8)) ?_
     refine aw_pure 5 (.int .i64 ((i : Int))) rfl (by kernel_rfl) .none ⟨h24, h25⟩ (fun _ => dv_move (T rfl f9)) ?_
     obtain ⟨g28, o29, rfl⟩ := RR.at h25 (by first | omega | (simp; done) | (simp; omega))
     refine aw_pure 6 (.pointer (some ⟨g28, o29 + i, none⟩)) rfl (by kernel_rfl) .none ⟨h24, h25⟩ (fun _ => dv_indexW (g := g28) (o := o29) (l := l) (c := d) (i := i) (j := (i : Int)) us22 sz37 (T rfl rfl) (T rfl rfl) (by omega) (by first | omega | (simp; done) | (simp; omega))) ?_
     refine aw_load 7 (.agg #[.slice As16 (N i) cs17]) rfl (by kernel_rfl) .none ⟨h24, h25⟩ (fun _ s => dv_loadsR (l := [.slice As16 (N i) cs17]) agt37 sz37 (T rfl rfl) rfl (RR.sl1 (i := i) s.2 (by first | omega | (simp; done) | (simp; omega)) hAs18 hcs19)) ?_
     refine aw_one 8 rfl (by kernel_rfl) .none (oe_callf (vs := [.agg #[.slice As12 (N i) cs13], .agg #[.slice As16 (N i) cs17]]) co18 (ar2 (T rfl rfl) (T rfl rfl)) (eqRing_ok (c := cs13) (d := cs17) (RR.rd (i := i) h24 (by first | omega | (simp; done) | (simp; omega)) hAs14) (RR.rd (i := i) h25 (by first | omega | (simp; done) | (simp; omega)) hAs18) (by omega) (by first | omega | (simp; done) | (simp; omega))) ?_)
     rintro _ w30 ⟨rfl, e31⟩
     have E32 := below_ext E23 E23.size e31
     have h33 := (h24.ext e31)
     have h34 := (h25.ext e31)
     refine ⟨.inr ⟨h33, h34⟩, ?_⟩
     refine aw_pure 9 (.bool false) rfl (by kernel_rfl) .none ⟨h33, h34⟩ (fun _ => dv_not (b := true) (T rfl rfl)) ?_
     refine aw_done (by kernel_rfl) ?_
     refine rk_cf (T rfl rfl) ?_
     refine rk_skip ?_
     refine rk_inBlock ?_
     refine rk_reg ?_
     refine lw_v (.int .i64 ((i : Int))) (dv_move (T rfl f9)) ?_
     refine lw_v (.int .i64 (((i : Int)) + 1)) (dv_add (a := (i : Int)) (b := 1) (z := ((i : Int)) + 1) (T rfl rfl) C (wr_i64 (by omega) (by omega))) ?_
     refine lw_v (.int .i64 (((i : Int)) + 1)) (dv_assign (T rfl rfl)) ?_
     refine lw_nil ?_
     exact ih4 (l - ((i + 1))) _ _ (by rw [hd11]; omega) ⟨(i + 1), rfl, f7, f8, (vi (by omega)), E32, (by omega)⟩
   · refine rk_cf (T rfl (congrArg Value.bool (decide_eq_false hb20))) ?_
     refine rk_exit rfl ?_
     refine rk_seq ?_
     refine rk_reg ?_
     refine lw_v (.bool true) (dv_assign C) ?_
     refine lw_nil ?_
     refine rk_ret Tryd.func7 (v := .bool true) (res1 Tryd.results7 (rv_tmp rfl rfl)) ⟨_, rfl, ?_⟩
     exact ⟨rfl, E10⟩
end Go.Proofs.YtmbpomcbdopgnaaDoor.W
set_option linter.unusedVariables false
set_option linter.unusedSimpArgs false
namespace Go.Proofs.YtmbpomcbdopgnaaDoor.W
open Go Go.RowKit Go.Proofs.YtmbpomcbdopgnaaDoor.Fw
attribute [local irreducible] RunK LW AW DV OE Ct
theorem co34 : callOk Tryd.prog 34 = true := by kernel_rfl
theorem co35 : callOk Tryd.prog 35 = true := by kernel_rfl
theorem co36 : callOk Tryd.prog 36 = true := by kernel_rfl
def TB (w : World) : Prop := Lib.TabIs Tryd.prog w "internal/strconv.uint64pow10" .u64 Lib.pow10Tab
theorem tbG : Tryd.prog.globalNamed "internal/strconv.uint64pow10" = some 0 := by kernel_rfl
theorem TB.ext {w w' : World} (h : TB w) (e : Ext w w') : TB w' := Joins.var_stays tbG h e (Nat.le_refl _)
theorem fmt_ok {w : World} {x : Int} (h0 : -9223372036854775808 ≤ x) (h1 : x ≤ 9223372036854775807) (ht : TB w) : Ct Tryd.prog 27 [.int .i64 x, .int .i64 10] w fun v w1 => v = .string (bOf (txtL x)) ∧ Ext w w1 := by
 unfold Ct
 refine Calls.mono (Tryd.strconv_FormatInt_10 x h0 h1 w ht) fun e w' ⟨he, k, os, hw⟩ => ⟨_, he, ?_, ?_⟩
 · rw [itoa_txt]; rfl
 · subst hw; exact Lib.below_grow _ w (Nat.le_refl _) k os
theorem join_ok {w : World} {A : Option Addr} {c base T : Nat} {L : List (List Int)} {sep : List Int} (hO : Ors w base T A c L) (hl : (joinL sep L).length ≤ 1000000) (hn : L.length ≤ 1000000) : Ct Tryd.prog 28 [.slice A L.length c, .string (bOf sep)] w fun v w1 => v = .string (bOf (joinL sep L)) ∧ Ext w w1 := by
 unfold Ct
 rcases hO.1.2 with ⟨hv, h0⟩ | ⟨g, cap, cur, hv, hb, hg, h1, h2, h3, h4⟩
 · have hL : L = [] := List.eq_nil_of_length_eq_zero h0
   subst hL
   refine Calls.mono (Tryd.strings_Join_none A c (bOf sep) w) fun e w' ⟨he, hw⟩ => ⟨_, he, rfl, ?_⟩
   subst hw; exact Below.refl _ _
 · injection hv with hA _ hc
   subst hA
   have e1 : (L.map bOf).map (fun x => x.data.toList) = L.map u8 := by rw [List.map_map]; rfl
   have h5 := Tryd.strings_Join g 0 c (L.map bOf) (bOf sep) w (fun j x hj => by
    have hjl : j < L.length := by have := (List.getElem?_eq_some_iff.1 hj).1; simpa using this
    rw [hO.cell hjl]
    rw [List.getElem?_map, List.getElem?_eq_getElem hjl] at hj
    simp only [Option.map_some, Option.some.injEq] at hj
    rw [← hj]
    simp [List.getD_eq_getElem?_getD, hjl]) (lt_of_blk hg) (by simp; omega) (by simpa using hO.cap) (by
     rw [e1, bOf_data, u8_join]
     simp only [u8, List.length_map]
     omega)
   rw [List.length_map] at h5
   refine Calls.mono h5 fun e w' ⟨he, hw⟩ => ⟨_, he, ?_, hw⟩
   rw [e1, bOf_data, u8_join]
   rfl
set_option maxHeartbeats 1000000 in
theorem l6Short_ok {w : World} {x : Int}   : Ct Tryd.prog 22 [.int .i64 x] w fun v w1 => v = .bool (decide (short x)) ∧ Ext w w1 := by
 refine ct_run (n := 5) Tryd.func22 rfl Tryd.ntmps22 rfl ?_
 have E0 : Below w.heap.size w w := Below.refl _ _
 refine rk_seq ?_
 refine rk_reg ?_
 refine lw_v (.bool false) (dv_assign C) ?_
 refine lw_nil ?_
 refine rk_seq ?_
 refine rk_reg ?_
 refine lw_v (.int .i64 x) (dv_move (T rfl rfl)) ?_
 refine lw_e (oe_callf (vs := [.int .i64 x, .int .i64 (-999999999999999), .int .i64 999999999999999]) co34 (ar3 (T rfl rfl) C C) (l1In_ok (n := x) (lo := -999999999999999) (hi := 999999999999999)  ) ?_)
 rintro _ w1 ⟨rfl, e2⟩
 have E3 := below_ext E0 E0.size e2
 refine lw_v (.bool (decide ((-999999999999999 : Int) ≤ x ∧ x ≤ (999999999999999 : Int)))) (dv_assign (T rfl rfl)) ?_
 refine lw_nil ?_
 refine rk_ret Tryd.func22 (v := .bool (decide ((-999999999999999 : Int) ≤ x ∧ x ≤ (999999999999999 : Int)))) (res1 Tryd.results22 (rv_tmp rfl rfl)) ⟨_, rfl, ?_⟩
 exact ⟨(vb (by exact Iff.rfl)), E3⟩
set_option maxHeartbeats 1000000 in
theorem l6Num_ok {w : World} {x : Int}  (hx : -9223372036854775808 ≤ x ∧ x ≤ 9223372036854775807) : Ct Tryd.prog 23 [.int .i64 x] w fun v w1 => v = .string (bOf (txtL x)) ∧ Ext w w1 := by
 refine ct_run (n := 6) Tryd.func23 rfl Tryd.ntmps23 rfl ?_
 have E0 : Below w.heap.size w w := Below.refl _ _
 refine rk_seq ?_
 refine rk_reg ?_
 refine lw_v (.string (bOf [])) (dv_assign C) ?_
 refine lw_nil ?_
 refine rk_seq ?_
 refine rk_reg ?_
 refine lw_v (.int .i64 x) (dv_move (T rfl rfl)) ?_
 refine lw_e (oe_callf (vs := [.int .i64 x]) co36 (ar1 (T rfl rfl)) (l1Int_ok  (by omega)) ?_)
 rintro _ w6 ⟨nr1, A2, n3, c4, rfl, e7, h5⟩
 have E8 := below_ext E0 E0.size e7
 have lh5 := Num.len (by decide) h5
 refine lw_e (oe_callf (vs := [.agg #[.bool nr1, .slice A2 n3 c4]]) co35 (ar1 (T rfl rfl)) (l1Text_ok h5 (by first | decide | omega)) ?_)
 rintro _ w10 ⟨rfl, e11⟩
 have E12 := below_ext E8 E8.size e11
 have ht9 := txt_len (h5).lt
 refine lw_v (.string (bOf (txtL x))) (dv_assign (T rfl rfl)) ?_
 refine lw_nil ?_
 refine rk_ret Tryd.func23 (v := .string (bOf (txtL x))) (res1 Tryd.results23 (rv_tmp rfl rfl)) ⟨_, rfl, ?_⟩
 exact ⟨rfl, E12⟩
set_option maxHeartbeats 1000000 in
theorem spotsIn_ok {w : World} {A : Option Addr} {l c : Nat} {N : Nat → Nat} {E : Nat → List Int} {SL : SlF} {lo hi : Nat} (hx : RR w lo hi A l N E SL) (hxb : l ≤ 1048576) (hxn : ∀ i, i < l → N i ≤ 1048576) : Ct Tryd.prog 25 [.slice A l c] w fun v w1 => v = .int .i64 (tot N l : Int) ∧ Ext w w1 := by
 refine ct_run (n := 19) Tryd.func25 rfl Tryd.ntmps25 rfl ?_
 have E0 : Below w.heap.size w w := Below.refl _ _
 have hhi := hx.lh
 refine rk_seq ?_
 refine rk_reg ?_
 refine lw_v (.int .i64 0) (dv_assign C) ?_
 refine lw_nil ?_
 refine rk_seq ?_
 refine rk_reg ?_
 refine lw_v (.int .i64 0) (dv_assign C) ?_
 refine lw_nil ?_
 refine rk_seq ?_
 refine rk_seq ?_
 refine rk_reg ?_
 refine lw_v (.slice A l c) (dv_move (T rfl rfl)) ?_
 refine lw_v (.int .i64 ((l : Int))) (dv_len (ad := A) (l := l) (c := c) us22 (T rfl rfl)) ?_
 refine lw_v (.int .i64 0) (dv_move C) ?_
 refine lw_nil ?_
 refine rk_block ?_
 refine rk_loop (fun dm_ fr wl => ∃ (i : Nat), dm_ = l - i ∧ fr 2 = .int .i64 0 ∧ fr 3 = .int .i64 ((tot N i : Int)) ∧ fr 6 = .slice A l c ∧ fr 7 = .int .i64 ((l : Int)) ∧ fr 8 = .int .i64 ((i : Int)) ∧ Below w.heap.size w wl ∧ (i ≤ l)) (l - 0) ⟨0, rfl, rfl, (vi (by simp [tot])), rfl, rfl, (vi (by omega)), E0, (Nat.zero_le _)⟩ ?_
 intro d5 fr4 w1 hI2 ih3
 obtain ⟨i, hd12, f6, f7, f8, f9, f10, E11, hi_⟩ := hI2
 obtain ⟨As13, hAs15⟩ : ∃ q_ : Option Addr, q_ = (SL i).1 := ⟨_, rfl⟩
 obtain ⟨cs14, hcs16⟩ : ∃ q_ : Nat, q_ = (SL i).2 := ⟨_, rfl⟩
 have hel := fun h_ : i < l => RR.len hx (i := i) h_; have hnn := fun h_ : i < l => hxn i h_
 have htb := tot_bd hxn hi_
 refine rk_seq ?_
 refine rk_reg ?_
 refine lw_v (.bool (decide (((i : Int)) < ((l : Int))))) (dv_lss (a := (i : Int)) (b := (l : Int)) (T rfl f10) (T rfl f9)) ?_
 refine lw_nil ?_
 refine rk_seq ?_
 by_cases hb17 : ((i : Int)) < ((l : Int))
 · refine rk_ct (T rfl (congrArg Value.bool (decide_eq_true hb17))) ?_
   refine rk_skip ?_
   refine rk_seq ?_
   refine rk_block ?_
   refine rk_seq ?_
   refine rk_reg ?_
   have h20 := (hx.ext E11)
   obtain ⟨g18, o19, rfl⟩ := RR.at h20 (by first | omega | (simp; done) | (simp; omega))
   refine lw_v (.pointer (some ⟨g18, o19 + i, none⟩)) (dv_indexW (g := g18) (o := o19) (l := l) (c := c) (i := i) (j := (i : Int)) us22 sz37 (T rfl f8) (T rfl f10) (by omega) (by first | omega | (simp; done) | (simp; omega))) ?_
   refine lw_v (.agg #[.slice As13 (N i) cs14]) (dv_loadsR (l := [.slice As13 (N i) cs14]) agt37 sz37 (T rfl rfl) rfl (RR.sl1 (i := i) h20 (by first | omega | (simp; done) | (simp; omega)) hAs15 hcs16)) ?_
   refine lw_e (oe_alloc ze37 ?_)
   intro b21 w22 n23
   have N24 : w.heap.size ≤ b21 := n23.eq ▸ E11.size
   have := n23.eq; have := n23.size
   have := Below.fresh n23.ext
   have E25 := below_ext E11 E11.size n23.ext
   refine lw_e (oe_store (v := .agg #[.slice As13 (N i) cs14]) (vs := [.slice As13 (N i) cs14]) (l := [.slice As13 (N i) cs14]) (T rfl rfl) (T rfl rfl) sz37 rfl rfl rfl n23.blk rfl ?_)
   intro w26 s27 H28
   have := s27.size
   have E29 := below_st E25 N24 s27
   refine lw_nil ?_
   refine rk_reg ?_
   refine lw_v (.int .i64 ((tot N i : Int))) (dv_move (T rfl f7)) ?_
   refine lw_v (.pointer (some ⟨b21, 0, none⟩)) (dv_fieldAddr (a := ⟨b21, 0, none⟩) (a' := ⟨b21, 0, none⟩) fo37_0 (T rfl rfl) rfl) ?_
   refine lw_v (.slice As13 (N i) cs14) (dv_load1 (b := b21) (o := 0) agt35 (T rfl rfl) H28 rfl) ?_
   refine lw_v (.int .i64 ((N i : Int))) (dv_len (ad := As13) (l := N i) (c := cs14) us35 (T rfl rfl)) ?_
   refine lw_v (.int .i64 (((tot N i : Int)) + ((N i : Int)))) (dv_add (a := (tot N i : Int)) (b := (N i : Int)) (z := ((tot N i : Int)) + ((N i : Int))) (T rfl rfl) (T rfl rfl) (wr_i64 (by omega) (by omega))) ?_
   refine lw_v (.int .i64 (((tot N i : Int)) + ((N i : Int)))) (dv_assign (T rfl rfl)) ?_
   refine lw_nil ?_
   refine rk_inBlock ?_
   refine rk_reg ?_
   refine lw_v (.int .i64 (((i : Int)) + 1)) (dv_add (a := (i : Int)) (b := 1) (z := ((i : Int)) + 1) (T rfl f10) C (wr_i64 (by omega) (by omega))) ?_
   refine lw_v (.int .i64 (((i : Int)) + 1)) (dv_move (T rfl rfl)) ?_
   refine lw_nil ?_
   exact ih3 (l - ((i + 1))) _ _ (by rw [hd12]; omega) ⟨(i + 1), rfl, f6, (vi (by simp [tot])), f8, f9, (vi (by omega)), E29, (by omega)⟩
 · refine rk_cf (T rfl (congrArg Value.bool (decide_eq_false hb17))) ?_
   refine rk_exit rfl ?_
   refine rk_seq ?_
   refine rk_reg ?_
   refine lw_v (.int .i64 ((tot N i : Int))) (dv_move (T rfl f7)) ?_
   refine lw_v (.int .i64 ((tot N i : Int))) (dv_assign (T rfl rfl)) ?_
   refine lw_nil ?_
   refine rk_ret Tryd.func25 (v := .int .i64 ((tot N i : Int))) (res1 Tryd.results25 (rv_tmp rfl rfl)) ⟨_, rfl, ?_⟩
   obtain rfl : i = l := by omega
   exact ⟨rfl, E11⟩
end Go.Proofs.YtmbpomcbdopgnaaDoor.W
set_option linter.unusedVariables false
set_option linter.unusedSimpArgs false
namespace Go.Proofs.YtmbpomcbdopgnaaDoor.W
open Go Go.RowKit Go.Proofs.YtmbpomcbdopgnaaDoor.Fw
attribute [local irreducible] RunK LW AW DV OE Ct
theorem co22 : callOk Tryd.prog 22 = true := by kernel_rfl
theorem co23 : callOk Tryd.prog 23 = true := by kernel_rfl
theorem co25 : callOk Tryd.prog 25 = true := by kernel_rfl
theorem co26 : callOk Tryd.prog 26 = true := by kernel_rfl
theorem co27 : callOk Tryd.prog 27 = true := by kernel_rfl
theorem co28 : callOk Tryd.prog 28 = true := by kernel_rfl
theorem in9 : (Tryd.prog.info? 9).map (fun i => (i.zero, i.size, i.bytes)) = some (some (.string ⟨#[]⟩), 1, 16) := by kernel_rfl
theorem sz9 : sizeB Tryd.prog 9 = some 1 := by kernel_rfl
theorem us33 : Tryd.prog.underlying 33 = some (.slice 9) := by kernel_rfl
theorem zc9 : zcB Tryd.prog 9 = some [.string ⟨#[]⟩] := by kernel_rfl
set_option maxHeartbeats 4000000 in
theorem iLayerText_ok {w : World} {A : Option Addr} {l c : Nat} {N : Nat → Nat} {E : Nat → List Int} {SL : SlF} {lo hi : Nat} (hx : RR w lo hi A l N E SL) (hxb : l ≤ 1048576) (hxn : ∀ i, i < l → N i ≤ 1048576) (ht : TB w) : Ct Tryd.prog 13 [.slice A l c] w fun v w1 => v = .string (bOf (layR l N E)) ∧ Ext w w1 := by
 refine ct_run (n := 66) Tryd.func13 rfl Tryd.ntmps13 rfl ?_
 have E0 : Below w.heap.size w w := Below.refl _ _
 have hhi := hx.lh
 refine rk_seq ?_
 refine rk_reg ?_
 refine lw_v (.string (bOf [])) (dv_assign C) ?_
 refine lw_nil ?_
 refine rk_seq ?_
 refine rk_seq ?_
 refine rk_reg ?_
 refine lw_v (.slice A l c) (dv_move (T rfl rfl)) ?_
 refine lw_v (.int .i64 ((l : Int))) (dv_len (ad := A) (l := l) (c := c) us22 (T rfl rfl)) ?_
 refine lw_v (.bool (decide (6 < ((l : Int))))) (dv_gtr (a := (l : Int)) (b := 6) (T rfl rfl) C) ?_
 refine lw_v (.bool (decide (6 < ((l : Int))))) (dv_move (T rfl rfl)) ?_
 by_cases hb1 : 6 < ((l : Int))
 · refine lw_no (d := 12) rfl rfl (congrArg Value.bool (decide_eq_true hb1)) ?_
   refine lw_no (d := 12) rfl rfl (congrArg Value.bool (decide_eq_true hb1)) ?_
   refine lw_no (d := 12) rfl rfl (congrArg Value.bool (decide_eq_true hb1)) ?_
   refine lw_v (.bool true) (dv_pick_t (T rfl (congrArg Value.bool (decide_eq_true hb1))) C) ?_
   refine lw_nil ?_
   refine rk_ct (T rfl rfl) ?_
   refine rk_seq ?_
   refine rk_reg ?_
   refine lw_v (.string (bOf [])) (dv_assign C) ?_
   refine lw_nil ?_
   refine rk_ret Tryd.func13 (v := .string (bOf [])) (res1 Tryd.results13 (rv_tmp rfl rfl)) ⟨_, rfl, ?_⟩
   have hl0 : l ≠ 0 := by first | omega | exact tot_ne (by omega)
   have hS : ¬ layS l N E := fun hh => by have h1_ := hh.1; have h2_ := hh.2.1; omega
   exact ⟨congrArg (fun l_ => Value.string (bOf l_)) (by rw [layR_f hl0 hS]), E0⟩
 · refine lw_vy (.slice A l c) (d := 12) rfl rfl (congrArg Value.bool (decide_eq_false hb1)) (dv_move (T rfl rfl)) ?_
   have := tot_bd hxn (Nat.le_refl l)
   refine lw_ey (d := 12) rfl rfl (congrArg Value.bool (decide_eq_false hb1)) (oe_callf (vs := [.slice A l c]) co25 (ar1 (T rfl rfl)) (spotsIn_ok (c := c) hx (by omega) hxn) ?_)
   rintro _ w2 ⟨rfl, e3⟩
   have := Below.fresh e3
   have E4 := below_ext E0 E0.size e3
   refine lw_vy (.bool (decide (20 < ((tot N l : Int))))) (d := 12) rfl rfl (congrArg Value.bool (decide_eq_false hb1)) (dv_gtr (a := (tot N l : Int)) (b := 20) (T rfl rfl) C) ?_
   refine lw_v (.bool (decide (20 < ((tot N l : Int))))) (dv_pick_f (T rfl (congrArg Value.bool (decide_eq_false hb1))) (T rfl rfl)) ?_
   refine lw_nil ?_
   by_cases hb5 : 20 < ((tot N l : Int))
   · refine rk_ct (T rfl (congrArg Value.bool (decide_eq_true hb5))) ?_
     refine rk_seq ?_
     refine rk_reg ?_
     refine lw_v (.string (bOf [])) (dv_assign C) ?_
     refine lw_nil ?_
     refine rk_ret Tryd.func13 (v := .string (bOf [])) (res1 Tryd.results13 (rv_tmp rfl rfl)) ⟨_, rfl, ?_⟩
     have hl0 : l ≠ 0 := by first | omega | exact tot_ne (by omega)
     have hS : ¬ layS l N E := fun hh => by have h1_ := hh.1; have h2_ := hh.2.1; omega
     exact ⟨congrArg (fun l_ => Value.string (bOf l_)) (by rw [layR_f hl0 hS]), E4⟩
   · refine rk_cf (T rfl (congrArg Value.bool (decide_eq_false hb5))) ?_
     refine rk_skip ?_
     refine rk_seq ?_
     refine rk_seq ?_
     refine rk_reg ?_
     refine lw_v (.slice A l c) (dv_move (T rfl rfl)) ?_
     refine lw_v (.int .i64 ((l : Int))) (dv_len (ad := A) (l := l) (c := c) us22 (T rfl rfl)) ?_
     refine lw_v (.bool (decide (((l : Int)) = 0))) (dv_eql (a := (l : Int)) (b := 0) (T rfl rfl) C) ?_
     refine lw_nil ?_
     by_cases hb6 : ((l : Int)) = 0
     · refine rk_ct (T rfl (congrArg Value.bool (decide_eq_true hb6))) ?_
       refine rk_seq ?_
       refine rk_reg ?_
       refine lw_v (.string (bOf [110, 111, 110, 101])) (dv_assign C) ?_
       refine lw_nil ?_
       refine rk_ret Tryd.func13 (v := .string (bOf [110, 111, 110, 101])) (res1 Tryd.results13 (rv_tmp rfl rfl)) ⟨_, rfl, ?_⟩
       exact ⟨congrArg (fun l_ => Value.string (bOf l_)) (by rw [layR_0 (by omega)]), E4⟩
     · refine rk_cf (T rfl (congrArg Value.bool (decide_eq_false hb6))) ?_
       refine rk_skip ?_
       refine rk_seq ?_
       refine rk_reg ?_
       refine lw_e (oe_buildSlice0 us33 sz9 ?_)
       intro b7 w8 n9
       have N11 : w.heap.size ≤ b7 := n9.eq ▸ E4.size
       have := n9.eq
       have := Below.fresh n9.ext
       have E12 := below_ext E4 E4.size n9.ext
       have hO10 := Ors.made n9
       refine lw_v (.slice (some ⟨b7, 0, none⟩) (([] : List (List Int)).length) 0) (dv_assign (T rfl rfl)) ?_
       refine lw_nil ?_
       refine rk_seq ?_
       refine rk_seq ?_
       refine rk_reg ?_
       refine lw_v (.slice A l c) (dv_move (T rfl rfl)) ?_
       refine lw_v (.int .i64 ((l : Int))) (dv_len (ad := A) (l := l) (c := c) us22 (T rfl rfl)) ?_
       refine lw_v (.int .i64 0) (dv_move C) ?_
       refine lw_nil ?_
       refine rk_block ?_
       refine rk_loop (fun dm_ fr wl => ∃ (i : Nat) (L : List (List Int)) (A3 : Option Addr) (c3 : Nat), dm_ = l - i ∧ fr 3 = .slice A3 (L.length) c3 ∧ fr 21 = .slice A l c ∧ fr 22 = .int .i64 ((l : Int)) ∧ fr 23 = .int .i64 ((i : Int)) ∧ Below w.heap.size w wl ∧ Ors wl b7 9 A3 c3 L ∧ (i ≤ l) ∧ (L = ringsL N E i) ∧ (∀ q, q < i → 0 < N q ∧ ringS (E q) (N q))) (l - 0) ⟨0, ([] : List (List Int)), (some ⟨b7, 0, none⟩), 0, rfl, rfl, rfl, rfl, (vi (by omega)), E12, hO10, (Nat.zero_le _), rfl, (fun q hq => absurd hq (by omega))⟩ ?_
       intro d17 fr16 w13 hI14 ih15
       obtain ⟨i, L, A3, c3, hd24, f18, f19, f20, f21, E22, h23, hi_, hL, hall⟩ := hI14
       obtain ⟨As25, hAs27⟩ : ∃ q_ : Option Addr, q_ = (SL i).1 := ⟨_, rfl⟩
       obtain ⟨cs26, hcs28⟩ : ∃ q_ : Nat, q_ = (SL i).2 := ⟨_, rfl⟩
       have hel := fun h_ : i < l => RR.len hx (i := i) h_; have hnn := fun h_ : i < l => hxn i h_
       have hLl : L.length = i := by rw [hL, ringsL_len]
       have htot := fun h_ : i + 1 ≤ l => tot_le (N := N) h_
       have hts : tot N (i + 1) = tot N i + N i := rfl
       refine rk_seq ?_
       refine rk_reg ?_
       refine lw_v (.bool (decide (((i : Int)) < ((l : Int))))) (dv_lss (a := (i : Int)) (b := (l : Int)) (T rfl f21) (T rfl f20)) ?_
       refine lw_nil ?_
       refine rk_seq ?_
       by_cases hb29 : ((i : Int)) < ((l : Int))
       · refine rk_ct (T rfl (congrArg Value.bool (decide_eq_true hb29))) ?_
         refine rk_skip ?_
         refine rk_seq ?_
         refine rk_block ?_
         refine rk_seq ?_
         refine rk_reg ?_
         have h32 := (hx.ext E22)
         obtain ⟨g30, o31, rfl⟩ := RR.at h32 (by first | omega | (simp; done) | (simp; omega))
         refine lw_v (.pointer (some ⟨g30, o31 + i, none⟩)) (dv_indexW (g := g30) (o := o31) (l := l) (c := c) (i := i) (j := (i : Int)) us22 sz37 (T rfl f19) (T rfl f21) (by omega) (by first | omega | (simp; done) | (simp; omega))) ?_
         refine lw_v (.agg #[.slice As25 (N i) cs26]) (dv_loadsR (l := [.slice As25 (N i) cs26]) agt37 sz37 (T rfl rfl) rfl (RR.sl1 (i := i) h32 (by first | omega | (simp; done) | (simp; omega)) hAs27 hcs28)) ?_
         refine lw_e (oe_alloc ze37 ?_)
         intro b33 w34 n35
         have N36 : w.heap.size ≤ b33 := n35.eq ▸ E22.size
         have := n35.eq; have := n35.size
         have := Below.fresh n35.ext
         have E37 := below_ext E22 E22.size n35.ext
         refine lw_e (oe_store (v := .agg #[.slice As25 (N i) cs26]) (vs := [.slice As25 (N i) cs26]) (l := [.slice As25 (N i) cs26]) (T rfl rfl) (T rfl rfl) sz37 rfl rfl rfl n35.blk rfl ?_)
         intro w38 s39 H40
         have := s39.size
         have E41 := below_st E37 N36 s39
         refine lw_nil ?_
         refine rk_seq ?_
         refine rk_reg ?_
         have h48 := ((h23.ext n35.ext).st s39 n35.blk (by decide))
         have lt47 := Ors.lt h48
         refine lw_e (oe_buildSlice0 us33 sz9 ?_)
         intro b42 w43 n44
         have N46 : w.heap.size ≤ b42 := n44.eq ▸ E41.size
         have := n44.eq
         have : b33 < b42 := n44.eq ▸ lt_of_blk H40
         have := Below.fresh n44.ext
         have E49 := below_ext E41 E41.size n44.ext
         have hO45 := Ors.made n44
         refine lw_v (.slice (some ⟨b42, 0, none⟩) (([] : List (List Int)).length) 0) (dv_assign (T rfl rfl)) ?_
         refine lw_nil ?_
         refine rk_seq ?_
         refine rk_seq ?_
         refine rk_reg ?_
         refine lw_v (.pointer (some ⟨b33, 0, none⟩)) (dv_fieldAddr (a := ⟨b33, 0, none⟩) (a' := ⟨b33, 0, none⟩) fo37_0 (T rfl rfl) rfl) ?_
         have H50 := (n44.ext.blk H40)
         refine lw_v (.slice As25 (N i) cs26) (dv_load1 (b := b33) (o := 0) agt35 (T rfl rfl) H50 rfl) ?_
         refine lw_v (.int .i64 ((N i : Int))) (dv_len (ad := As25) (l := N i) (c := cs26) us35 (T rfl rfl)) ?_
         refine lw_v (.int .i64 0) (dv_move C) ?_
         refine lw_nil ?_
         refine rk_block ?_
         have h51 := (h48.ext n44.ext)
         refine rk_loop (fun dm_ fr wl => ∃ (k : Nat) (M : List (List Int)) (A6 : Option Addr) (c6 : Nat), dm_ = N i - k ∧ fr 3 = .slice A3 (L.length) c3 ∧ fr 5 = .pointer (some ⟨b33, 0, none⟩) ∧ fr 6 = .slice A6 (M.length) c6 ∧ fr 21 = .slice (some ⟨g30, o31, none⟩) l c ∧ fr 22 = .int .i64 ((l : Int)) ∧ fr 23 = .int .i64 ((i : Int)) ∧ fr 24 = .bool (decide (((i : Int)) < ((l : Int)))) ∧ fr 25 = .pointer (some ⟨g30, o31 + i, none⟩) ∧ fr 26 = .agg #[.slice As25 (N i) cs26] ∧ fr 27 = .slice (some ⟨b42, 0, none⟩) (([] : List (List Int)).length) 0 ∧ fr 28 = .pointer (some ⟨b33, 0, none⟩) ∧ fr 29 = .slice As25 (N i) cs26 ∧ fr 30 = .int .i64 ((N i : Int)) ∧ fr 31 = .int .i64 ((k : Int)) ∧ Below w.heap.size w wl ∧ wl.heap[b33]? = some (.cells #[.slice As25 (N i) cs26] 37) ∧ Ors wl b7 9 A3 c3 L ∧ Ors wl b42 9 A6 c6 M ∧ (k ≤ N i) ∧ (M = wordL (E i) k) ∧ (∀ q, q < k → short ((E i).getD (q * 2) 0) ∧ short ((E i).getD (q * 2 + 1) 0))) (N i - 0) ⟨0, ([] : List (List Int)), (some ⟨b42, 0, none⟩), 0, rfl, f18, rfl, rfl, f19, f20, f21, rfl, rfl, rfl, rfl, rfl, rfl, rfl, (vi (by omega)), E49, H50, h51, hO45, (Nat.zero_le _), rfl, (fun q hq => absurd hq (by omega))⟩ ?_
         intro d56 fr55 w52 hI53 ih54
         obtain ⟨k, M, A6, c6, hd75, f57, f58, f59, f60, f61, f62, f63, f64, f65, f66, f67, f68, f69, f70, E71, H72, h73, h74, hk_, hM, hin⟩ := hI53
         have hMl : M.length = k * 2 := by rw [hM, wordL_len]
         refine rk_seq ?_
         refine rk_reg ?_
         refine lw_v (.bool (decide (((k : Int)) < ((N i : Int))))) (dv_lss (a := (k : Int)) (b := (N i : Int)) (T rfl f70) (T rfl f69)) ?_
         refine lw_nil ?_
         refine rk_seq ?_
         by_cases hb76 : ((k : Int)) < ((N i : Int))
         · refine rk_ct (T rfl (congrArg Value.bool (decide_eq_true hb76))) ?_
           refine rk_skip ?_
           refine rk_seq ?_
           refine rk_block ?_
           refine rk_seq ?_
           refine rk_reg ?_
           have h77 := (hx.ext E71)
           obtain ⟨g78, o79, rfl⟩ := RdI.at (RR.rd (i := i) h77 (by first | omega | (simp; done) | (simp; omega)) hAs27) (by first | omega | (simp; done) | (simp; omega))
           refine lw_v (.pointer (some ⟨g78, o79 + k * 2, none⟩)) (dv_indexM (g := g78) (o := o79) (l := N i) (c := cs26) (i := k) (j := (k : Int)) (m := 2) us35 sz41 (T rfl f68) (T rfl f70) (by omega) (by first | omega | (simp; done) | (simp; omega))) ?_
           refine lw_v (.agg #[.int .i64 ((E i).getD (k * 2) 0), .int .i64 ((E i).getD (k * 2 + 1) 0)]) (dv_loadsI (i := k * 2) (m := 2) (k := .i64) (L := E i) (l := [.int .i64 ((E i).getD (k * 2) 0), .int .i64 ((E i).getD (k * 2 + 1) 0)]) agt41 sz41 (T rfl rfl) (RR.rd (i := i) h77 (by first | omega | (simp; done) | (simp; omega)) hAs27) (by first | omega | (simp; done) | (simp; omega)) rfl) ?_
           refine lw_e (oe_alloc ze41 ?_)
           intro b80 w81 n82
           have N83 : w.heap.size ≤ b80 := n82.eq ▸ E71.size
           have : b33 < b80 := n82.eq ▸ lt_of_blk H72
           have := n82.eq; have := n82.size
           have := Below.fresh n82.ext
           have E84 := below_ext E71 E71.size n82.ext
           refine lw_e (oe_store (v := .agg #[.int .i64 ((E i).getD (k * 2) 0), .int .i64 ((E i).getD (k * 2 + 1) 0)]) (vs := [.int .i64 ((E i).getD (k * 2) 0), .int .i64 ((E i).getD (k * 2 + 1) 0)]) (l := [.int .i64 ((E i).getD (k * 2) 0), .int .i64 ((E i).getD (k * 2 + 1) 0)]) (T rfl rfl) (T rfl rfl) sz41 rfl rfl rfl n82.blk rfl ?_)
           intro w85 s86 H87
           have := s86.size
           have E88 := below_st E84 N83 s86
           refine lw_nil ?_
           refine rk_seq ?_
           refine rk_seq ?_
           refine rk_reg ?_
           refine lw_v (.pointer (some ⟨b80, 0, none⟩)) (dv_fieldAddr (a := ⟨b80, 0, none⟩) (a' := ⟨b80, 0, none⟩) fo41_0 (T rfl rfl) rfl) ?_
           refine lw_v (.int .i64 ((E i).getD (k * 2) 0)) (dv_load1 (b := b80) (o := 0) agt2 (T rfl rfl) H87 rfl) ?_
           refine lw_e (oe_callf (vs := [.int .i64 ((E i).getD (k * 2) 0), .int .i64 (-999999999999999), .int .i64 999999999999999]) co26 (ar3 (T rfl rfl) C C) (within_ok (n := (E i).getD (k * 2) 0) (lo := -999999999999999) (hi := 999999999999999)  ) ?_)
           rintro _ w89 ⟨rfl, e90⟩
           have := Below.fresh e90
           have E91 := below_ext E88 E88.size e90
           refine lw_v (.bool (decide (¬ ((-999999999999999 : Int) ≤ ((E i).getD (k * 2) 0) ∧ ((E i).getD (k * 2) 0) ≤ (999999999999999 : Int))))) (dv_notd (p := (-999999999999999 : Int) ≤ ((E i).getD (k * 2) 0) ∧ ((E i).getD (k * 2) 0) ≤ (999999999999999 : Int)) (T rfl rfl)) ?_
           refine lw_v (.bool (decide (¬ ((-999999999999999 : Int) ≤ ((E i).getD (k * 2) 0) ∧ ((E i).getD (k * 2) 0) ≤ (999999999999999 : Int))))) (dv_move (T rfl rfl)) ?_
           by_cases hb92 : (-999999999999999 : Int) ≤ ((E i).getD (k * 2) 0) ∧ ((E i).getD (k * 2) 0) ≤ (999999999999999 : Int)
           · have := txt_short (show short _ from hb92)
             refine lw_vy (.pointer (some ⟨b80, 1, none⟩)) (d := 39) rfl rfl (congrArg Value.bool (decide_eq_false (not_not_intro hb92))) (dv_fieldAddr (a := ⟨b80, 0, none⟩) (a' := ⟨b80, 1, none⟩) fo41_1 (T rfl rfl) rfl) ?_
             have H93 := (e90.blk H87)
             refine lw_vy (.int .i64 ((E i).getD (k * 2 + 1) 0)) (d := 39) rfl rfl (congrArg Value.bool (decide_eq_false (not_not_intro hb92))) (dv_load1 (b := b80) (o := 1) agt2 (T rfl rfl) H93 rfl) ?_
             refine lw_ey (d := 39) rfl rfl (congrArg Value.bool (decide_eq_false (not_not_intro hb92))) (oe_callf (vs := [.int .i64 ((E i).getD (k * 2 + 1) 0), .int .i64 (-999999999999999), .int .i64 999999999999999]) co26 (ar3 (T rfl rfl) C C) (within_ok (n := (E i).getD (k * 2 + 1) 0) (lo := -999999999999999) (hi := 999999999999999)  ) ?_)
             rintro _ w94 ⟨rfl, e95⟩
             have := Below.fresh e95
             have E96 := below_ext E91 E91.size e95
             refine lw_vy (.bool (decide (¬ ((-999999999999999 : Int) ≤ ((E i).getD (k * 2 + 1) 0) ∧ ((E i).getD (k * 2 + 1) 0) ≤ (999999999999999 : Int))))) (d := 39) rfl rfl (congrArg Value.bool (decide_eq_false (not_not_intro hb92))) (dv_notd (p := (-999999999999999 : Int) ≤ ((E i).getD (k * 2 + 1) 0) ∧ ((E i).getD (k * 2 + 1) 0) ≤ (999999999999999 : Int)) (T rfl rfl)) ?_
             refine lw_v (.bool (decide (¬ ((-999999999999999 : Int) ≤ ((E i).getD (k * 2 + 1) 0) ∧ ((E i).getD (k * 2 + 1) 0) ≤ (999999999999999 : Int))))) (dv_pick_f (T rfl (congrArg Value.bool (decide_eq_false (not_not_intro hb92)))) (T rfl rfl)) ?_
             refine lw_nil ?_
             by_cases hb97 : (-999999999999999 : Int) ≤ ((E i).getD (k * 2 + 1) 0) ∧ ((E i).getD (k * 2 + 1) 0) ≤ (999999999999999 : Int)
             · have := txt_short (show short _ from hb97)
               refine rk_cf (T rfl (congrArg Value.bool (decide_eq_false (not_not_intro hb97)))) ?_
               refine rk_skip ?_
               refine rk_any (fun w => w.heap[b80]? = some (.cells #[.int .i64 ((E i).getD (k * 2) 0), .int .i64 ((E i).getD (k * 2 + 1) 0)] 41)) [9] mo ?_
               intro w98 d99
               have := Below.fresh d99.ext
               have E100 := below_ext E96 E96.size d99.ext
               have H101 := (d99.ext.blk (e95.blk H93))
               refine aw_pure 0 (.slice A6 (M.length) c6) rfl (by kernel_rfl) .none H101 (fun _ => dv_move (T rfl f59)) ?_
               refine aw_pure 1 (.pointer (some ⟨b80, 0, none⟩)) rfl (by kernel_rfl) .none H101 (fun _ => dv_fieldAddr (a := ⟨b80, 0, none⟩) (a' := ⟨b80, 0, none⟩) fo41_0 (T rfl rfl) rfl) ?_
               refine aw_load 2 (.int .i64 ((E i).getD (k * 2) 0)) rfl (by kernel_rfl) .none H101 (fun _ s => dv_load1 (b := b80) (o := 0) agt2 (T rfl rfl) s rfl) ?_
               refine aw_pure 4 (.pointer (some ⟨b80, 1, none⟩)) rfl (by kernel_rfl) .none H101 (fun _ => dv_fieldAddr (a := ⟨b80, 0, none⟩) (a' := ⟨b80, 1, none⟩) fo41_1 (T rfl rfl) rfl) ?_
               refine aw_load 5 (.int .i64 ((E i).getD (k * 2 + 1) 0)) rfl (by kernel_rfl) .none H101 (fun _ s => dv_load1 (b := b80) (o := 1) agt2 (T rfl rfl) s rfl) ?_
               have h102 := ht.ext E100
               refine aw_one 3 rfl (by kernel_rfl) .none (oe_callf (vs := [.int .i64 ((E i).getD (k * 2) 0), .int .i64 10]) co27 (ar2 (T rfl rfl) C) (fmt_ok (x := (E i).getD (k * 2) 0) (by omega) (by omega) h102) ?_)
               rintro _ w103 ⟨rfl, e104⟩
               have := Below.fresh e104
               have E105 := below_ext E100 E100.size e104
               have H106 := (e104.blk H101)
               refine ⟨.inr H106, ?_⟩
               have h107 := (h102.ext e104)
               refine aw_one 6 rfl (by kernel_rfl) .none (oe_callf (vs := [.int .i64 ((E i).getD (k * 2 + 1) 0), .int .i64 10]) co27 (ar2 (T rfl rfl) C) (fmt_ok (x := (E i).getD (k * 2 + 1) 0) (by omega) (by omega) h107) ?_)
               rintro _ w108 ⟨rfl, e109⟩
               have := Below.fresh e109
               have E110 := below_ext E105 E105.size e109
               have H111 := (e109.blk H106)
               refine ⟨.inr H111, ?_⟩
               refine aw_one 7 rfl (by kernel_rfl) .none (oe_buildSlice (pv := [(0, .string (bOf (txtL ((E i).getD (k * 2) 0)))), (1, .string (bOf (txtL ((E i).getD (k * 2 + 1) 0))))]) (init := [.string ⟨#[]⟩, .string ⟨#[]⟩]) (l := [.string (bOf (txtL ((E i).getD (k * 2) 0))), .string (bOf (txtL ((E i).getD (k * 2 + 1) 0)))]) us33 sz9 rfl rfl zc9 (by kernel_rfl) ⟨rfl, (T rfl rfl), ⟨rfl, (T rfl rfl), trivial⟩⟩ rfl ?_)
               intro b112 w113 n114
               have N115 : w.heap.size ≤ b112 := n114.eq ▸ E110.size
               have : b80 < b112 := n114.eq ▸ lt_of_blk H111
               have := n114.eq; have := n114.size
               have := Below.fresh n114.ext
               have E116 := below_ext E110 E110.size n114.ext
               have H117 := (n114.ext.blk H111)
               refine ⟨.inr H117, ?_⟩
               have h118 := ((((((((h74.ext n82.ext).st s86 n82.blk (by decide)).ext e90).ext e95).ext d99.ext).ext e104).ext e109).ext n114.ext)
               refine aw_one 8 rfl (by kernel_rfl) .none (oe_appendSs (base := b42) (L := M) (Ms := [(txtL ((E i).getD (k * 2) 0)), (txtL ((E i).getD (k * 2 + 1) 0))]) (m := 2) us33 in9 (T rfl rfl) (T rfl rfl) rfl h118 n114.blk (by first | omega | (simp; done) | (simp; omega)) (by first | omega | (simp; done) | (simp; omega)) ?_)
               intro Ad119 c120 w121 hO122 x123 bt124
               have E125 := below_bl E116 N46 x123
               have H126 := (by first | exact bl_blk x123 H117 (by omega) | exact bt_blkT bt124 H117 (by decide))
               refine ⟨.inr H126, ?_⟩
               refine aw_last 9 (.slice Ad119 ((M ++ [(txtL ((E i).getD (k * 2) 0)), (txtL ((E i).getD (k * 2 + 1) 0))]).length) c120) rfl (by kernel_rfl) .none (fun _ => dv_assign (T rfl rfl)) ?_
               refine aw_done (by kernel_rfl) ?_
               refine rk_inBlock ?_
               refine rk_reg ?_
               refine lw_v (.int .i64 (((k : Int)) + 1)) (dv_add (a := (k : Int)) (b := 1) (z := ((k : Int)) + 1) (T rfl f70) C (wr_i64 (by omega) (by omega))) ?_
               refine lw_v (.int .i64 (((k : Int)) + 1)) (dv_move (T rfl rfl)) ?_
               refine lw_nil ?_
               have h127 := (((((((((h73.ext n82.ext).st s86 n82.blk (by decide)).ext e90).ext e95).ext d99.ext).ext e104).ext e109).ext n114.ext).bl x123 (fun g_ o_ h_ => by have := lt47 g_ o_ h_; omega))
               have H128 := (by first | exact bl_blk x123 (n114.ext.blk (e109.blk (e104.blk (d99.ext.blk (e95.blk (e90.blk (s86.blk (n82.ext.blk H72) (by omega)))))))) (by omega) | exact bt_blkT bt124 (n114.ext.blk (e109.blk (e104.blk (d99.ext.blk (e95.blk (e90.blk (s86.blk (n82.ext.blk H72) (by omega)))))))) (by decide))
               exact ih54 (N i - ((k + 1))) _ _ (by rw [hd75]; omega) ⟨(k + 1), (M ++ [(txtL ((E i).getD (k * 2) 0)), (txtL ((E i).getD (k * 2 + 1) 0))]), Ad119, c120, rfl, f57, f58, rfl, f60, f61, f62, f63, f64, f65, f66, f67, f68, f69, (vi (by omega)), E125, H128, h127, hO122, (by omega), (by rw [hM]; simp [wordL, List.append_assoc]), (all_step hin ⟨by assumption, by assumption⟩)⟩
             · refine rk_ct (T rfl (congrArg Value.bool (decide_eq_true hb97))) ?_
               refine rk_seq ?_
               refine rk_reg ?_
               refine lw_v (.string (bOf [])) (dv_assign C) ?_
               refine lw_nil ?_
               refine rk_ret Tryd.func13 (v := .string (bOf [])) (res1 Tryd.results13 (rv_tmp rfl rfl)) ⟨_, rfl, ?_⟩
               have hl0 : l ≠ 0 := by first | omega | exact tot_ne (by omega)
               have hS : ¬ layS l N E := fun hh => by have h_ := (hh.2.2 i (by omega)).2; first | (have h1_ := h_ k (by omega); first | exact absurd h1_.1 (by assumption) | exact absurd h1_.2 (by assumption)) | (have h1_ := (hh.2.2 i (by omega)).1; omega)
               exact ⟨congrArg (fun l_ => Value.string (bOf l_)) (by rw [layR_f hl0 hS]), E96⟩
           · refine lw_no (d := 39) rfl rfl (congrArg Value.bool (decide_eq_true hb92)) ?_
             refine lw_no (d := 39) rfl rfl (congrArg Value.bool (decide_eq_true hb92)) ?_
             refine lw_no (d := 39) rfl rfl (congrArg Value.bool (decide_eq_true hb92)) ?_
             refine lw_no (d := 39) rfl rfl (congrArg Value.bool (decide_eq_true hb92)) ?_
             refine lw_v (.bool true) (dv_pick_t (T rfl (congrArg Value.bool (decide_eq_true hb92))) C) ?_
             refine lw_nil ?_
             refine rk_ct (T rfl rfl) ?_
             refine rk_seq ?_
             refine rk_reg ?_
             refine lw_v (.string (bOf [])) (dv_assign C) ?_
             refine lw_nil ?_
             refine rk_ret Tryd.func13 (v := .string (bOf [])) (res1 Tryd.results13 (rv_tmp rfl rfl)) ⟨_, rfl, ?_⟩
             have hl0 : l ≠ 0 := by first | omega | exact tot_ne (by omega)
             have hS : ¬ layS l N E := fun hh => by have h_ := (hh.2.2 i (by omega)).2; first | (have h1_ := h_ k (by omega); first | exact absurd h1_.1 (by assumption) | exact absurd h1_.2 (by assumption)) | (have h1_ := (hh.2.2 i (by omega)).1; omega)
             exact ⟨congrArg (fun l_ => Value.string (bOf l_)) (by rw [layR_f hl0 hS]), E91⟩
         · refine rk_cf (T rfl (congrArg Value.bool (decide_eq_false hb76))) ?_
           refine rk_exit rfl ?_
           refine rk_seq ?_
           refine rk_seq ?_
           refine rk_reg ?_
           refine lw_v (.slice A6 (M.length) c6) (dv_move (T rfl f59)) ?_
           refine lw_v (.int .i64 ((M.length : Int))) (dv_len (ad := A6) (l := M.length) (c := c6) us33 (T rfl rfl)) ?_
           refine lw_v (.bool (decide (((M.length : Int)) = 0))) (dv_eql (a := (M.length : Int)) (b := 0) (T rfl rfl) C) ?_
           refine lw_nil ?_
           by_cases hb129 : ((M.length : Int)) = 0
           · refine rk_ct (T rfl (congrArg Value.bool (decide_eq_true hb129))) ?_
             refine rk_seq ?_
             refine rk_reg ?_
             refine lw_v (.string (bOf [])) (dv_assign C) ?_
             refine lw_nil ?_
             refine rk_ret Tryd.func13 (v := .string (bOf [])) (res1 Tryd.results13 (rv_tmp rfl rfl)) ⟨_, rfl, ?_⟩
             have hl0 : l ≠ 0 := by first | omega | exact tot_ne (by omega)
             have hS : ¬ layS l N E := fun hh => by have h_ := (hh.2.2 i (by omega)).2; first | (have h1_ := h_ k (by omega); first | exact absurd h1_.1 (by assumption) | exact absurd h1_.2 (by assumption)) | (have h1_ := (hh.2.2 i (by omega)).1; omega)
             exact ⟨congrArg (fun l_ => Value.string (bOf l_)) (by rw [layR_f hl0 hS]), E71⟩
           · refine rk_cf (T rfl (congrArg Value.bool (decide_eq_false hb129))) ?_
             refine rk_skip ?_
             refine rk_reg ?_
             refine lw_v (.slice A3 (L.length) c3) (dv_move (T rfl f57)) ?_
             refine lw_v (.slice A6 (M.length) c6) (dv_move (T rfl f59)) ?_
             refine lw_e (oe_callf (vs := [.slice A6 (M.length) c6, .string (bOf [32])]) co28 (ar2 (T rfl rfl) C) (join_ok h74 (by have h_ := ringT_len (k := k) hin; rw [hM]; show (ringT (E i) k).length ≤ _; omega) (by omega)) ?_)
             rintro _ w130 ⟨rfl, e131⟩
             have := Below.fresh e131
             have E132 := below_ext E71 E71.size e131
             refine lw_e (oe_buildSlice (pv := [(0, .string (bOf (joinL [32] M)))]) (init := [.string ⟨#[]⟩]) (l := [.string (bOf (joinL [32] M))]) us33 sz9 rfl rfl zc9 (by kernel_rfl) ⟨rfl, (T rfl rfl), trivial⟩ rfl ?_)
             intro b133 w134 n135
             have N136 : w.heap.size ≤ b133 := n135.eq ▸ E132.size
             have H137 := (e131.blk H72)
             have : b33 < b133 := n135.eq ▸ lt_of_blk H137
             have := n135.eq; have := n135.size
             have := Below.fresh n135.ext
             have E138 := below_ext E132 E132.size n135.ext
             have h139 := ((h73.ext e131).ext n135.ext)
             refine lw_e (oe_appendS (base := b7) (L := L) (M := (joinL [32] M)) us33 in9 (T rfl rfl) (T rfl rfl) h139 n135.blk (by first | omega | (simp; done) | (simp; omega)) (by first | omega | (simp; done) | (simp; omega)) ?_)
             intro Ad140 c141 w142 hO143 x144 bt145
             have E146 := below_bl E138 N11 x144
             refine lw_v (.slice Ad140 ((L ++ [(joinL [32] M)]).length) c141) (dv_assign (T rfl rfl)) ?_
             refine lw_nil ?_
             refine rk_inBlock ?_
             refine rk_reg ?_
             refine lw_v (.int .i64 (((i : Int)) + 1)) (dv_add (a := (i : Int)) (b := 1) (z := ((i : Int)) + 1) (T rfl f62) C (wr_i64 (by omega) (by omega))) ?_
             refine lw_v (.int .i64 (((i : Int)) + 1)) (dv_move (T rfl rfl)) ?_
             refine lw_nil ?_
             exact ih15 (l - ((i + 1))) _ _ (by rw [hd24]; omega) ⟨(i + 1), (L ++ [(joinL [32] M)]), Ad140, c141, rfl, rfl, f60, f61, (vi (by omega)), E146, hO143, (by omega), (by rw [hL, hM, show k = N i by omega]; rfl), (all_step hall ⟨by omega, fun q hq => hin q (by omega)⟩)⟩
       · refine rk_cf (T rfl (congrArg Value.bool (decide_eq_false hb29))) ?_
         refine rk_exit rfl ?_
         refine rk_seq ?_
         refine rk_reg ?_
         refine lw_v (.slice A3 (L.length) c3) (dv_move (T rfl f18)) ?_
         refine lw_e (oe_callf (vs := [.slice A3 (L.length) c3, .string (bOf [32, 47, 32])]) co28 (ar2 (T rfl rfl) C) (join_ok h23 (by have h_ := layT_len (i := i) (fun q hq => ⟨by have h1_ := tot_le (N := N) (show q + 1 ≤ l by omega); have h2_ : tot N (q + 1) = tot N q + N q := rfl; omega, (hall q hq).2⟩); rw [hL]; show (layT N E i).length ≤ _; omega) (by omega)) ?_)
         rintro _ w147 ⟨rfl, e148⟩
         have := Below.fresh e148
         have E149 := below_ext E22 E22.size e148
         refine lw_v (.string (bOf (joinL [32, 47, 32] L))) (dv_assign (T rfl rfl)) ?_
         refine lw_nil ?_
         refine rk_ret Tryd.func13 (v := .string (bOf (joinL [32, 47, 32] L))) (res1 Tryd.results13 (rv_tmp rfl rfl)) ⟨_, rfl, ?_⟩
         have hS : layS l N E := ⟨by omega, by omega, fun q hq => hall q (by omega)⟩
         exact ⟨congrArg (fun l_ => Value.string (bOf l_)) (by rw [layR_t (by omega) hS, hL, show i = l by omega]; rfl), E149⟩
set_option maxHeartbeats 4000000 in
theorem sLayerText_ok {w : World} {A : Option Addr} {l c : Nat} {N : Nat → Nat} {E : Nat → List Int} {SL : SlF} {lo hi : Nat} (hx : RR w lo hi A l N E SL) (hxb : l ≤ 1048576) (hxn : ∀ i, i < l → N i ≤ 1048576) : Ct Tryd.prog 11 [.slice A l c] w fun v w1 => v = .string (bOf (layR l N E)) ∧ Ext w w1 := by
 refine ct_run (n := 86) Tryd.func11 rfl Tryd.ntmps11 rfl ?_
 have E0 : Below w.heap.size w w := Below.refl _ _
 have hhi := hx.lh
 refine rk_seq ?_
 refine rk_reg ?_
 refine lw_v (.string (bOf [])) (dv_assign C) ?_
 refine lw_nil ?_
 refine rk_seq ?_
 refine rk_seq ?_
 refine rk_reg ?_
 refine lw_v (.slice A l c) (dv_move (T rfl rfl)) ?_
 refine lw_v (.int .i64 ((l : Int))) (dv_len (ad := A) (l := l) (c := c) us22 (T rfl rfl)) ?_
 refine lw_v (.bool (decide (((l : Int)) = 0))) (dv_eql (a := (l : Int)) (b := 0) (T rfl rfl) C) ?_
 refine lw_nil ?_
 by_cases hb1 : ((l : Int)) = 0
 · refine rk_ct (T rfl (congrArg Value.bool (decide_eq_true hb1))) ?_
   refine rk_seq ?_
   refine rk_reg ?_
   refine lw_v (.string (bOf [110, 111, 110, 101])) (dv_assign C) ?_
   refine lw_nil ?_
   refine rk_ret Tryd.func11 (v := .string (bOf [110, 111, 110, 101])) (res1 Tryd.results11 (rv_tmp rfl rfl)) ⟨_, rfl, ?_⟩
   exact ⟨congrArg (fun l_ => Value.string (bOf l_)) (by rw [layR_0 (by omega)]), E0⟩
 · refine rk_cf (T rfl (congrArg Value.bool (decide_eq_false hb1))) ?_
   refine rk_skip ?_
   refine rk_seq ?_
   refine rk_seq ?_
   refine rk_reg ?_
   refine lw_v (.slice A l c) (dv_move (T rfl rfl)) ?_
   refine lw_v (.int .i64 ((l : Int))) (dv_len (ad := A) (l := l) (c := c) us22 (T rfl rfl)) ?_
   refine lw_v (.bool (decide (6 < ((l : Int))))) (dv_gtr (a := (l : Int)) (b := 6) (T rfl rfl) C) ?_
   refine lw_nil ?_
   by_cases hb2 : 6 < ((l : Int))
   · refine rk_ct (T rfl (congrArg Value.bool (decide_eq_true hb2))) ?_
     refine rk_seq ?_
     refine rk_reg ?_
     refine lw_v (.string (bOf [])) (dv_assign C) ?_
     refine lw_nil ?_
     refine rk_ret Tryd.func11 (v := .string (bOf [])) (res1 Tryd.results11 (rv_tmp rfl rfl)) ⟨_, rfl, ?_⟩
     have hl0 : l ≠ 0 := by omega
     have hS : ¬ layS l N E := fun hh => by have h1_ := hh.1; omega
     exact ⟨congrArg (fun l_ => Value.string (bOf l_)) (by rw [layR_f hl0 hS]), E0⟩
   · refine rk_cf (T rfl (congrArg Value.bool (decide_eq_false hb2))) ?_
     refine rk_skip ?_
     refine rk_seq ?_
     refine rk_reg ?_
     refine lw_v (.string (bOf [])) (dv_assign C) ?_
     refine lw_nil ?_
     refine rk_seq ?_
     refine rk_reg ?_
     refine lw_v (.int .i64 0) (dv_assign C) ?_
     refine lw_nil ?_
     refine rk_seq ?_
     refine rk_seq ?_
     refine rk_reg ?_
     refine lw_v (.int .i64 0) (dv_assign C) ?_
     refine lw_nil ?_
     refine rk_block ?_
     refine rk_loop (fun dm_ fr wl => ∃ (i : Nat) (S0 : List Int), dm_ = l - i ∧ fr 0 = .slice A l c ∧ fr 3 = .string (bOf S0) ∧ fr 4 = .int .i64 ((tot N i : Int)) ∧ fr 5 = .int .i64 ((i : Int)) ∧ Below w.heap.size w wl ∧ (i ≤ l) ∧ (S0 = layT N E i) ∧ (∀ q, q < i → 0 < N q ∧ ringS (E q) (N q)) ∧ (tot N i ≤ 20)) (l - 0) ⟨0, [], rfl, rfl, rfl, (vi (by first | rfl | (rw [hts]; omega))), (vi (by omega)), E0, (Nat.zero_le _), rfl, (fun q hq => absurd hq (by omega)), (by show 0 ≤ 20; decide)⟩ ?_
     intro d7 fr6 w3 hI4 ih5
     obtain ⟨i, S0, hd13, f8, f9, f10, f11, E12, hi_, hS0, hall, ht20⟩ := hI4
     obtain ⟨As14, hAs16⟩ : ∃ q_ : Option Addr, q_ = (SL i).1 := ⟨_, rfl⟩
     obtain ⟨cs15, hcs17⟩ : ∃ q_ : Nat, q_ = (SL i).2 := ⟨_, rfl⟩
     have hel := fun h_ : i < l => RR.len hx (i := i) h_; have hnn := fun h_ : i < l => hxn i h_
     have htot := fun h_ : i + 1 ≤ l => tot_le (N := N) h_
     have hts : tot N (i + 1) = tot N i + N i := rfl
     have hSl := layT_len (i := i) (fun q hq => ⟨by have h1_ := tot_le (N := N) (show q + 1 ≤ i by omega); have h2_ : tot N (q + 1) = tot N q + N q := rfl; omega, (hall q hq).2⟩)
     rw [← hS0] at hSl
     refine rk_seq ?_
     refine rk_seq ?_
     refine rk_reg ?_
     refine lw_v (.int .i64 ((i : Int))) (dv_move (T rfl f11)) ?_
     refine lw_v (.slice A l c) (dv_move (T rfl f8)) ?_
     refine lw_v (.int .i64 ((l : Int))) (dv_len (ad := A) (l := l) (c := c) us22 (T rfl rfl)) ?_
     refine lw_v (.bool (decide (((i : Int)) < ((l : Int))))) (dv_lss (a := (i : Int)) (b := (l : Int)) (T rfl rfl) (T rfl rfl)) ?_
     refine lw_nil ?_
     by_cases hb18 : ((i : Int)) < ((l : Int))
     · refine rk_ct (T rfl (congrArg Value.bool (decide_eq_true hb18))) ?_
       refine rk_skip ?_
       refine rk_seq ?_
       refine rk_block ?_
       refine rk_seq ?_
       refine rk_reg ?_
       refine lw_v (.int .i64 ((tot N i : Int))) (dv_move (T rfl f10)) ?_
       refine lw_v (.slice A l c) (dv_move (T rfl f8)) ?_
       refine lw_v (.int .i64 ((i : Int))) (dv_move (T rfl f11)) ?_
       have h21 := (hx.ext E12)
       obtain ⟨g19, o20, rfl⟩ := RR.at h21 (by first | omega | (simp; done) | (simp; omega))
       refine lw_v (.pointer (some ⟨g19, o20 + i, none⟩)) (dv_indexW (g := g19) (o := o20) (l := l) (c := c) (i := i) (j := (i : Int)) us22 sz37 (T rfl rfl) (T rfl rfl) (by omega) (by first | omega | (simp; done) | (simp; omega))) ?_
       refine lw_v (.pointer (some ⟨g19, o20 + i, none⟩)) (dv_fieldW (g := g19) (o := o20) (i := i) fo37_0 (T rfl rfl)) ?_
       refine lw_v (.slice As14 (N i) cs15) (dv_load agt35 (T rfl rfl) (RR.sl (i := i) h21 (by first | omega | (simp; done) | (simp; omega)) hAs16 hcs17)) ?_
       refine lw_v (.int .i64 ((N i : Int))) (dv_len (ad := As14) (l := N i) (c := cs15) us35 (T rfl rfl)) ?_
       refine lw_v (.int .i64 (((tot N i : Int)) + ((N i : Int)))) (dv_add (a := (tot N i : Int)) (b := (N i : Int)) (z := ((tot N i : Int)) + ((N i : Int))) (T rfl rfl) (T rfl rfl) (wr_i64 (by omega) (by omega))) ?_
       refine lw_v (.int .i64 (((tot N i : Int)) + ((N i : Int)))) (dv_assign (T rfl rfl)) ?_
       refine lw_nil ?_
       refine rk_seq ?_
       refine rk_seq ?_
       refine rk_reg ?_
       refine lw_v (.slice (some ⟨g19, o20, none⟩) l c) (dv_move (T rfl f8)) ?_
       refine lw_v (.int .i64 ((i : Int))) (dv_move (T rfl f11)) ?_
       refine lw_v (.pointer (some ⟨g19, o20 + i, none⟩)) (dv_indexW (g := g19) (o := o20) (l := l) (c := c) (i := i) (j := (i : Int)) us22 sz37 (T rfl rfl) (T rfl rfl) (by omega) (by first | omega | (simp; done) | (simp; omega))) ?_
       refine lw_v (.pointer (some ⟨g19, o20 + i, none⟩)) (dv_fieldW (g := g19) (o := o20) (i := i) fo37_0 (T rfl rfl)) ?_
       refine lw_v (.slice As14 (N i) cs15) (dv_load agt35 (T rfl rfl) (RR.sl (i := i) h21 (by first | omega | (simp; done) | (simp; omega)) hAs16 hcs17)) ?_
       refine lw_v (.int .i64 ((N i : Int))) (dv_len (ad := As14) (l := N i) (c := cs15) us35 (T rfl rfl)) ?_
       refine lw_v (.bool (decide (((N i : Int)) = 0))) (dv_eql (a := (N i : Int)) (b := 0) (T rfl rfl) C) ?_
       refine lw_v (.bool (decide (((N i : Int)) = 0))) (dv_move (T rfl rfl)) ?_
       by_cases hb22 : ((N i : Int)) = 0
       · refine lw_no (d := 35) rfl rfl (congrArg Value.bool (decide_eq_true hb22)) ?_
         refine lw_no (d := 35) rfl rfl (congrArg Value.bool (decide_eq_true hb22)) ?_
         refine lw_v (.bool true) (dv_pick_t (T rfl (congrArg Value.bool (decide_eq_true hb22))) C) ?_
         refine lw_nil ?_
         refine rk_ct (T rfl rfl) ?_
         refine rk_seq ?_
         refine rk_reg ?_
         refine lw_v (.string (bOf [])) (dv_assign C) ?_
         refine lw_nil ?_
         refine rk_ret Tryd.func11 (v := .string (bOf [])) (res1 Tryd.results11 (rv_tmp rfl rfl)) ⟨_, rfl, ?_⟩
         have hl0 : l ≠ 0 := by omega
         have hS : ¬ layS l N E := fun hh => by have h0_ := hh.2.2 i (by omega); have h3_ := hh.2.1; have h4_ := htot (by omega); first | omega | (have h1_ := h0_.2 k (by omega); first | exact absurd h1_.1 (by assumption) | exact absurd h1_.2 (by assumption))
         exact ⟨congrArg (fun l_ => Value.string (bOf l_)) (by rw [layR_f hl0 hS]), E12⟩
       · refine lw_vy (.int .i64 (((tot N i : Int)) + ((N i : Int)))) (d := 35) rfl rfl (congrArg Value.bool (decide_eq_false hb22)) (dv_move (T rfl rfl)) ?_
         refine lw_vy (.bool (decide (20 < (((tot N i : Int)) + ((N i : Int)))))) (d := 35) rfl rfl (congrArg Value.bool (decide_eq_false hb22)) (dv_gtr (a := ((tot N i : Int)) + ((N i : Int))) (b := 20) (T rfl rfl) C) ?_
         refine lw_v (.bool (decide (20 < (((tot N i : Int)) + ((N i : Int)))))) (dv_pick_f (T rfl (congrArg Value.bool (decide_eq_false hb22))) (T rfl rfl)) ?_
         refine lw_nil ?_
         by_cases hb23 : 20 < (((tot N i : Int)) + ((N i : Int)))
         · refine rk_ct (T rfl (congrArg Value.bool (decide_eq_true hb23))) ?_
           refine rk_seq ?_
           refine rk_reg ?_
           refine lw_v (.string (bOf [])) (dv_assign C) ?_
           refine lw_nil ?_
           refine rk_ret Tryd.func11 (v := .string (bOf [])) (res1 Tryd.results11 (rv_tmp rfl rfl)) ⟨_, rfl, ?_⟩
           have hl0 : l ≠ 0 := by omega
           have hS : ¬ layS l N E := fun hh => by have h0_ := hh.2.2 i (by omega); have h3_ := hh.2.1; have h4_ := htot (by omega); first | omega | (have h1_ := h0_.2 k (by omega); first | exact absurd h1_.1 (by assumption) | exact absurd h1_.2 (by assumption))
           exact ⟨congrArg (fun l_ => Value.string (bOf l_)) (by rw [layR_f hl0 hS]), E12⟩
         · refine rk_cf (T rfl (congrArg Value.bool (decide_eq_false hb23))) ?_
           refine rk_skip ?_
           refine rk_seq ?_
           refine rk_seq ?_
           refine rk_reg ?_
           refine lw_v (.int .i64 ((i : Int))) (dv_move (T rfl f11)) ?_
           refine lw_v (.bool (decide (0 < ((i : Int))))) (dv_gtr (a := (i : Int)) (b := 0) (T rfl rfl) C) ?_
           refine lw_nil ?_
           by_cases hb24 : 0 < ((i : Int))
           · refine rk_ct (T rfl (congrArg Value.bool (decide_eq_true hb24))) ?_
             refine rk_reg ?_
             refine lw_v (.string (bOf S0)) (dv_move (T rfl f9)) ?_
             refine lw_v (.string (bOf (S0 ++ [32, 47]))) (dv_addS (L := S0) (M := [32, 47]) (T rfl rfl) C (by first | omega | (simp only [List.length_append, List.length_cons, List.length_nil]; omega))) ?_
             refine lw_v (.string (bOf (S0 ++ [32, 47]))) (dv_assign (T rfl rfl)) ?_
             refine lw_nil ?_
             refine rk_seq ?_
             refine rk_reg ?_
             refine lw_v (.int .i64 0) (dv_assign C) ?_
             refine lw_nil ?_
             refine rk_block ?_
             refine rk_loop (fun dm_ fr wl => ∃ (k : Nat) (S : List Int), dm_ = N i - k ∧ fr 0 = .slice (some ⟨g19, o20, none⟩) l c ∧ fr 3 = .string (bOf S) ∧ fr 4 = .int .i64 (((tot N i : Int)) + ((N i : Int))) ∧ fr 5 = .int .i64 ((i : Int)) ∧ fr 6 = .int .i64 ((k : Int)) ∧ fr 14 = .int .i64 ((i : Int)) ∧ fr 15 = .slice (some ⟨g19, o20, none⟩) l c ∧ fr 16 = .int .i64 ((l : Int)) ∧ fr 17 = .bool (decide (((i : Int)) < ((l : Int)))) ∧ fr 20 = .int .i64 ((tot N i : Int)) ∧ fr 21 = .slice (some ⟨g19, o20, none⟩) l c ∧ fr 22 = .int .i64 ((i : Int)) ∧ fr 23 = .pointer (some ⟨g19, o20 + i, none⟩) ∧ fr 24 = .pointer (some ⟨g19, o20 + i, none⟩) ∧ fr 25 = .slice As14 (N i) cs15 ∧ fr 26 = .int .i64 ((N i : Int)) ∧ fr 27 = .int .i64 (((tot N i : Int)) + ((N i : Int))) ∧ fr 28 = .slice (some ⟨g19, o20, none⟩) l c ∧ fr 29 = .int .i64 ((i : Int)) ∧ fr 30 = .pointer (some ⟨g19, o20 + i, none⟩) ∧ fr 31 = .pointer (some ⟨g19, o20 + i, none⟩) ∧ fr 32 = .slice As14 (N i) cs15 ∧ fr 33 = .int .i64 ((N i : Int)) ∧ fr 34 = .bool (decide (((N i : Int)) = 0)) ∧ fr 35 = .bool (decide (((N i : Int)) = 0)) ∧ fr 36 = .int .i64 (((tot N i : Int)) + ((N i : Int))) ∧ fr 37 = .bool (decide (20 < (((tot N i : Int)) + ((N i : Int))))) ∧ fr 38 = .bool (decide (20 < (((tot N i : Int)) + ((N i : Int))))) ∧ fr 39 = .int .i64 ((i : Int)) ∧ fr 40 = .bool (decide (0 < ((i : Int)))) ∧ fr 41 = .string (bOf S0) ∧ fr 42 = .string (bOf (S0 ++ [32, 47])) ∧ Below w.heap.size w wl ∧ (k ≤ N i) ∧ (S = specT N E i k) ∧ (∀ q, q < k → short ((E i).getD (q * 2) 0) ∧ short ((E i).getD (q * 2 + 1) 0))) (N i - 0) ⟨0, (S0 ++ [32, 47]), rfl, f8, rfl, rfl, f11, (vi (by omega)), rfl, rfl, rfl, rfl, rfl, rfl, rfl, rfl, rfl, rfl, rfl, rfl, rfl, rfl, rfl, rfl, rfl, rfl, rfl, rfl, rfl, rfl, rfl, rfl, rfl, rfl, rfl, E12, (Nat.zero_le _), (by rw [hS0]; exact (specT_s0 N E (by omega)).symm), (fun q hq => absurd hq (by omega))⟩ ?_
             intro d29 fr28 w25 hI26 ih27
             obtain ⟨k, S, hd63, f30, f31, f32, f33, f34, f35, f36, f37, f38, f39, f40, f41, f42, f43, f44, f45, f46, f47, f48, f49, f50, f51, f52, f53, f54, f55, f56, f57, f58, f59, f60, f61, E62, hk_, hSp, hin⟩ := hI26
             have hSl2 := specT_len (i := i) (k := k) (fun q hq => ⟨by have h1_ := tot_le (N := N) (show q + 1 ≤ i by omega); have h2_ : tot N (q + 1) = tot N q + N q := rfl; omega, (hall q hq).2⟩) hin
             rw [← hSp] at hSl2
             refine rk_seq ?_
             refine rk_seq ?_
             refine rk_reg ?_
             refine lw_v (.int .i64 ((k : Int))) (dv_move (T rfl f34)) ?_
             refine lw_v (.slice (some ⟨g19, o20, none⟩) l c) (dv_move (T rfl f30)) ?_
             refine lw_v (.int .i64 ((i : Int))) (dv_move (T rfl f33)) ?_
             refine lw_v (.pointer (some ⟨g19, o20 + i, none⟩)) (dv_indexW (g := g19) (o := o20) (l := l) (c := c) (i := i) (j := (i : Int)) us22 sz37 (T rfl rfl) (T rfl rfl) (by omega) (by first | omega | (simp; done) | (simp; omega))) ?_
             refine lw_v (.pointer (some ⟨g19, o20 + i, none⟩)) (dv_fieldW (g := g19) (o := o20) (i := i) fo37_0 (T rfl rfl)) ?_
             have h64 := (hx.ext E62)
             refine lw_v (.slice As14 (N i) cs15) (dv_load agt35 (T rfl rfl) (RR.sl (i := i) h64 (by first | omega | (simp; done) | (simp; omega)) hAs16 hcs17)) ?_
             refine lw_v (.int .i64 ((N i : Int))) (dv_len (ad := As14) (l := N i) (c := cs15) us35 (T rfl rfl)) ?_
             refine lw_v (.bool (decide (((k : Int)) < ((N i : Int))))) (dv_lss (a := (k : Int)) (b := (N i : Int)) (T rfl rfl) (T rfl rfl)) ?_
             refine lw_nil ?_
             by_cases hb65 : ((k : Int)) < ((N i : Int))
             · refine rk_ct (T rfl (congrArg Value.bool (decide_eq_true hb65))) ?_
               refine rk_skip ?_
               refine rk_seq ?_
               refine rk_block ?_
               refine rk_seq ?_
               refine rk_reg ?_
               refine lw_v (.slice (some ⟨g19, o20, none⟩) l c) (dv_move (T rfl f30)) ?_
               refine lw_v (.int .i64 ((i : Int))) (dv_move (T rfl f33)) ?_
               refine lw_v (.pointer (some ⟨g19, o20 + i, none⟩)) (dv_indexW (g := g19) (o := o20) (l := l) (c := c) (i := i) (j := (i : Int)) us22 sz37 (T rfl rfl) (T rfl rfl) (by omega) (by first | omega | (simp; done) | (simp; omega))) ?_
               refine lw_v (.pointer (some ⟨g19, o20 + i, none⟩)) (dv_fieldW (g := g19) (o := o20) (i := i) fo37_0 (T rfl rfl)) ?_
               refine lw_v (.slice As14 (N i) cs15) (dv_load agt35 (T rfl rfl) (RR.sl (i := i) h64 (by first | omega | (simp; done) | (simp; omega)) hAs16 hcs17)) ?_
               refine lw_v (.int .i64 ((k : Int))) (dv_move (T rfl f34)) ?_
               obtain ⟨g66, o67, rfl⟩ := RdI.at (RR.rd (i := i) h64 (by first | omega | (simp; done) | (simp; omega)) hAs16) (by first | omega | (simp; done) | (simp; omega))
               refine lw_v (.pointer (some ⟨g66, o67 + k * 2, none⟩)) (dv_indexM (g := g66) (o := o67) (l := N i) (c := cs15) (i := k) (j := (k : Int)) (m := 2) us35 sz41 (T rfl rfl) (T rfl rfl) (by omega) (by first | omega | (simp; done) | (simp; omega))) ?_
               refine lw_v (.agg #[.int .i64 ((E i).getD (k * 2) 0), .int .i64 ((E i).getD (k * 2 + 1) 0)]) (dv_loadsI (i := k * 2) (m := 2) (k := .i64) (L := E i) (l := [.int .i64 ((E i).getD (k * 2) 0), .int .i64 ((E i).getD (k * 2 + 1) 0)]) agt41 sz41 (T rfl rfl) (RR.rd (i := i) h64 (by first | omega | (simp; done) | (simp; omega)) hAs16) (by first | omega | (simp; done) | (simp; omega)) rfl) ?_
               refine lw_e (oe_alloc ze41 ?_)
               intro b68 w69 n70
               have N71 : w.heap.size ≤ b68 := n70.eq ▸ E62.size
               have := n70.eq; have := n70.size
               have := Below.fresh n70.ext
               have E72 := below_ext E62 E62.size n70.ext
               refine lw_e (oe_store (v := .agg #[.int .i64 ((E i).getD (k * 2) 0), .int .i64 ((E i).getD (k * 2 + 1) 0)]) (vs := [.int .i64 ((E i).getD (k * 2) 0), .int .i64 ((E i).getD (k * 2 + 1) 0)]) (l := [.int .i64 ((E i).getD (k * 2) 0), .int .i64 ((E i).getD (k * 2 + 1) 0)]) (T rfl rfl) (T rfl rfl) sz41 rfl rfl rfl n70.blk rfl ?_)
               intro w73 s74 H75
               have := s74.size
               have E76 := below_st E72 N71 s74
               refine lw_nil ?_
               refine rk_seq ?_
               refine rk_seq ?_
               refine rk_reg ?_
               refine lw_v (.pointer (some ⟨b68, 0, none⟩)) (dv_fieldAddr (a := ⟨b68, 0, none⟩) (a' := ⟨b68, 0, none⟩) fo41_0 (T rfl rfl) rfl) ?_
               refine lw_v (.int .i64 ((E i).getD (k * 2) 0)) (dv_load1 (b := b68) (o := 0) agt2 (T rfl rfl) H75 rfl) ?_
               refine lw_e (oe_callf (vs := [.int .i64 ((E i).getD (k * 2) 0)]) co22 (ar1 (T rfl rfl)) (l6Short_ok (x := (E i).getD (k * 2) 0)  ) ?_)
               rintro _ w77 ⟨rfl, e78⟩
               have := Below.fresh e78
               have E79 := below_ext E76 E76.size e78
               refine lw_v (.bool (decide (¬ (short ((E i).getD (k * 2) 0))))) (dv_notd (p := short ((E i).getD (k * 2) 0)) (T rfl rfl)) ?_
               refine lw_v (.bool (decide (¬ (short ((E i).getD (k * 2) 0))))) (dv_move (T rfl rfl)) ?_
               by_cases hb80 : short ((E i).getD (k * 2) 0)
               · have := txt_short hb80; have := hb80; unfold short at this
                 refine lw_vy (.pointer (some ⟨b68, 1, none⟩)) (d := 65) rfl rfl (congrArg Value.bool (decide_eq_false (not_not_intro hb80))) (dv_fieldAddr (a := ⟨b68, 0, none⟩) (a' := ⟨b68, 1, none⟩) fo41_1 (T rfl rfl) rfl) ?_
                 have H81 := (e78.blk H75)
                 refine lw_vy (.int .i64 ((E i).getD (k * 2 + 1) 0)) (d := 65) rfl rfl (congrArg Value.bool (decide_eq_false (not_not_intro hb80))) (dv_load1 (b := b68) (o := 1) agt2 (T rfl rfl) H81 rfl) ?_
                 refine lw_ey (d := 65) rfl rfl (congrArg Value.bool (decide_eq_false (not_not_intro hb80))) (oe_callf (vs := [.int .i64 ((E i).getD (k * 2 + 1) 0)]) co22 (ar1 (T rfl rfl)) (l6Short_ok (x := (E i).getD (k * 2 + 1) 0)  ) ?_)
                 rintro _ w82 ⟨rfl, e83⟩
                 have := Below.fresh e83
                 have E84 := below_ext E79 E79.size e83
                 refine lw_vy (.bool (decide (¬ (short ((E i).getD (k * 2 + 1) 0))))) (d := 65) rfl rfl (congrArg Value.bool (decide_eq_false (not_not_intro hb80))) (dv_notd (p := short ((E i).getD (k * 2 + 1) 0)) (T rfl rfl)) ?_
                 refine lw_v (.bool (decide (¬ (short ((E i).getD (k * 2 + 1) 0))))) (dv_pick_f (T rfl (congrArg Value.bool (decide_eq_false (not_not_intro hb80)))) (T rfl rfl)) ?_
                 refine lw_nil ?_
                 by_cases hb85 : short ((E i).getD (k * 2 + 1) 0)
                 · have := txt_short hb85; have := hb85; unfold short at this
                   refine rk_cf (T rfl (congrArg Value.bool (decide_eq_false (not_not_intro hb85)))) ?_
                   refine rk_skip ?_
                   refine rk_seq ?_
                   refine rk_seq ?_
                   refine rk_reg ?_
                   refine lw_v (.string (bOf S)) (dv_move (T rfl f31)) ?_
                   refine lw_v (.bool (decide ((S : List Int) ≠ ([])))) (dv_neS (L := S) (M := []) (T rfl rfl) C (((hSp ▸ ok_specT _ _ _ _))) ((okC_lit [] (by decide)))) ?_
                   refine lw_nil ?_
                   by_cases hb86 : (S : List Int) ≠ ([])
                   · refine rk_ct (T rfl (congrArg Value.bool (decide_eq_true hb86))) ?_
                     refine rk_reg ?_
                     refine lw_v (.string (bOf S)) (dv_move (T rfl f31)) ?_
                     refine lw_v (.string (bOf (S ++ [32]))) (dv_addS (L := S) (M := [32]) (T rfl rfl) C (by first | omega | (simp only [List.length_append, List.length_cons, List.length_nil]; omega))) ?_
                     refine lw_v (.string (bOf (S ++ [32]))) (dv_assign (T rfl rfl)) ?_
                     refine lw_nil ?_
                     refine rk_any (fun w => w.heap[b68]? = some (.cells #[.int .i64 ((E i).getD (k * 2) 0), .int .i64 ((E i).getD (k * 2 + 1) 0)] 41)) [10] mo ?_
                     intro w87 d88
                     have := Below.fresh d88.ext
                     have E89 := below_ext E84 E84.size d88.ext
                     have H90 := (d88.ext.blk (e83.blk H81))
                     refine aw_pure 0 (.string (bOf (S ++ [32]))) rfl (by kernel_rfl) .none H90 (fun _ => dv_move (T rfl rfl)) ?_
                     refine aw_pure 1 (.pointer (some ⟨b68, 0, none⟩)) rfl (by kernel_rfl) .none H90 (fun _ => dv_fieldAddr (a := ⟨b68, 0, none⟩) (a' := ⟨b68, 0, none⟩) fo41_0 (T rfl rfl) rfl) ?_
                     refine aw_load 2 (.int .i64 ((E i).getD (k * 2) 0)) rfl (by kernel_rfl) .none H90 (fun _ s => dv_load1 (b := b68) (o := 0) agt2 (T rfl rfl) s rfl) ?_
                     refine aw_pure 6 (.pointer (some ⟨b68, 1, none⟩)) rfl (by kernel_rfl) .none H90 (fun _ => dv_fieldAddr (a := ⟨b68, 0, none⟩) (a' := ⟨b68, 1, none⟩) fo41_1 (T rfl rfl) rfl) ?_
                     refine aw_load 7 (.int .i64 ((E i).getD (k * 2 + 1) 0)) rfl (by kernel_rfl) .none H90 (fun _ s => dv_load1 (b := b68) (o := 1) agt2 (T rfl rfl) s rfl) ?_
                     refine aw_one 3 rfl (by kernel_rfl) .none (oe_callf (vs := [.int .i64 ((E i).getD (k * 2) 0)]) co23 (ar1 (T rfl rfl)) (l6Num_ok (x := (E i).getD (k * 2) 0)  (by omega)) ?_)
                     rintro _ w91 ⟨rfl, e92⟩
                     have := Below.fresh e92
                     have E93 := below_ext E89 E89.size e92
                     have H94 := (e92.blk H90)
                     refine ⟨.inr H94, ?_⟩
                     refine aw_pure 4 (.string (bOf ((S ++ [32]) ++ (txtL ((E i).getD (k * 2) 0))))) rfl (by kernel_rfl) .none H94 (fun _ => dv_addS (L := (S ++ [32])) (M := (txtL ((E i).getD (k * 2) 0))) (T rfl rfl) (T rfl rfl) (by first | omega | (simp only [List.length_append, List.length_cons, List.length_nil]; omega))) ?_
                     refine aw_pure 5 (.string (bOf (((S ++ [32]) ++ (txtL ((E i).getD (k * 2) 0))) ++ [32]))) rfl (by kernel_rfl) .none H94 (fun _ => dv_addS (L := ((S ++ [32]) ++ (txtL ((E i).getD (k * 2) 0)))) (M := [32]) (T rfl rfl) C (by first | omega | (simp only [List.length_append, List.length_cons, List.length_nil]; omega))) ?_
                     refine aw_one 8 rfl (by kernel_rfl) .none (oe_callf (vs := [.int .i64 ((E i).getD (k * 2 + 1) 0)]) co23 (ar1 (T rfl rfl)) (l6Num_ok (x := (E i).getD (k * 2 + 1) 0)  (by omega)) ?_)
                     rintro _ w95 ⟨rfl, e96⟩
                     have := Below.fresh e96
                     have E97 := below_ext E93 E93.size e96
                     have H98 := (e96.blk H94)
                     refine ⟨.inr H98, ?_⟩
                     refine aw_pure 9 (.string (bOf ((((S ++ [32]) ++ (txtL ((E i).getD (k * 2) 0))) ++ [32]) ++ (txtL ((E i).getD (k * 2 + 1) 0))))) rfl (by kernel_rfl) .none H98 (fun _ => dv_addS (L := (((S ++ [32]) ++ (txtL ((E i).getD (k * 2) 0))) ++ [32])) (M := (txtL ((E i).getD (k * 2 + 1) 0))) (T rfl rfl) (T rfl rfl) (by first | omega | (simp only [List.length_append, List.length_cons, List.length_nil]; omega))) ?_
                     refine aw_last 10 (.string (bOf ((((S ++ [32]) ++ (txtL ((E i).getD (k * 2) 0))) ++ [32]) ++ (txtL ((E i).getD (k * 2 + 1) 0))))) rfl (by kernel_rfl) .none (fun _ => dv_assign (T rfl rfl)) ?_
                     refine aw_done (by kernel_rfl) ?_
                     refine rk_inBlock ?_
                     refine rk_reg ?_
                     refine lw_v (.int .i64 ((k : Int))) (dv_move (T rfl f34)) ?_
                     refine lw_v (.int .i64 (((k : Int)) + 1)) (dv_add (a := (k : Int)) (b := 1) (z := ((k : Int)) + 1) (T rfl rfl) C (wr_i64 (by omega) (by omega))) ?_
                     refine lw_v (.int .i64 (((k : Int)) + 1)) (dv_assign (T rfl rfl)) ?_
                     refine lw_nil ?_
                     exact ih27 (N i - ((k + 1))) _ _ (by rw [hd63]; omega) ⟨(k + 1), ((((S ++ [32]) ++ (txtL ((E i).getD (k * 2) 0))) ++ [32]) ++ (txtL ((E i).getD (k * 2 + 1) 0))), rfl, f30, rfl, f32, f33, (vi (by omega)), f35, f36, f37, f38, f39, f40, f41, f42, f43, f44, f45, f46, f47, f48, f49, f50, f51, f52, f53, f54, f55, f56, f57, f58, f59, f60, f61, E97, (by omega), (by rw [hSp]; exact specT_t (by rw [← hSp]; first | assumption | exact Decidable.not_not.1 (by assumption))), (all_step hin ⟨by assumption, by assumption⟩)⟩
                   · refine rk_cf (T rfl (congrArg Value.bool (decide_eq_false hb86))) ?_
                     refine rk_skip ?_
                     refine rk_any (fun w => w.heap[b68]? = some (.cells #[.int .i64 ((E i).getD (k * 2) 0), .int .i64 ((E i).getD (k * 2 + 1) 0)] 41)) [10] mo ?_
                     intro w99 d100
                     have := Below.fresh d100.ext
                     have E101 := below_ext E84 E84.size d100.ext
                     have H102 := (d100.ext.blk (e83.blk H81))
                     refine aw_pure 0 (.string (bOf S)) rfl (by kernel_rfl) .none H102 (fun _ => dv_move (T rfl f31)) ?_
                     refine aw_pure 1 (.pointer (some ⟨b68, 0, none⟩)) rfl (by kernel_rfl) .none H102 (fun _ => dv_fieldAddr (a := ⟨b68, 0, none⟩) (a' := ⟨b68, 0, none⟩) fo41_0 (T rfl rfl) rfl) ?_
                     refine aw_load 2 (.int .i64 ((E i).getD (k * 2) 0)) rfl (by kernel_rfl) .none H102 (fun _ s => dv_load1 (b := b68) (o := 0) agt2 (T rfl rfl) s rfl) ?_
                     refine aw_pure 6 (.pointer (some ⟨b68, 1, none⟩)) rfl (by kernel_rfl) .none H102 (fun _ => dv_fieldAddr (a := ⟨b68, 0, none⟩) (a' := ⟨b68, 1, none⟩) fo41_1 (T rfl rfl) rfl) ?_
                     refine aw_load 7 (.int .i64 ((E i).getD (k * 2 + 1) 0)) rfl (by kernel_rfl) .none H102 (fun _ s => dv_load1 (b := b68) (o := 1) agt2 (T rfl rfl) s rfl) ?_
                     refine aw_one 3 rfl (by kernel_rfl) .none (oe_callf (vs := [.int .i64 ((E i).getD (k * 2) 0)]) co23 (ar1 (T rfl rfl)) (l6Num_ok (x := (E i).getD (k * 2) 0)  (by omega)) ?_)
                     rintro _ w103 ⟨rfl, e104⟩
                     have := Below.fresh e104
                     have E105 := below_ext E101 E101.size e104
                     have H106 := (e104.blk H102)
                     refine ⟨.inr H106, ?_⟩
                     refine aw_pure 4 (.string (bOf (S ++ (txtL ((E i).getD (k * 2) 0))))) rfl (by kernel_rfl) .none H106 (fun _ => dv_addS (L := S) (M := (txtL ((E i).getD (k * 2) 0))) (T rfl rfl) (T rfl rfl) (by first | omega | (simp only [List.length_append, List.length_cons, List.length_nil]; omega))) ?_
                     refine aw_pure 5 (.string (bOf ((S ++ (txtL ((E i).getD (k * 2) 0))) ++ [32]))) rfl (by kernel_rfl) .none H106 (fun _ => dv_addS (L := (S ++ (txtL ((E i).getD (k * 2) 0)))) (M := [32]) (T rfl rfl) C (by first | omega | (simp only [List.length_append, List.length_cons, List.length_nil]; omega))) ?_
                     refine aw_one 8 rfl (by kernel_rfl) .none (oe_callf (vs := [.int .i64 ((E i).getD (k * 2 + 1) 0)]) co23 (ar1 (T rfl rfl)) (l6Num_ok (x := (E i).getD (k * 2 + 1) 0)  (by omega)) ?_)
                     rintro _ w107 ⟨rfl, e108⟩
                     have := Below.fresh e108
                     have E109 := below_ext E105 E105.size e108
                     have H110 := (e108.blk H106)
                     refine ⟨.inr H110, ?_⟩
                     refine aw_pure 9 (.string (bOf (((S ++ (txtL ((E i).getD (k * 2) 0))) ++ [32]) ++ (txtL ((E i).getD (k * 2 + 1) 0))))) rfl (by kernel_rfl) .none H110 (fun _ => dv_addS (L := ((S ++ (txtL ((E i).getD (k * 2) 0))) ++ [32])) (M := (txtL ((E i).getD (k * 2 + 1) 0))) (T rfl rfl) (T rfl rfl) (by first | omega | (simp only [List.length_append, List.length_cons, List.length_nil]; omega))) ?_
                     refine aw_last 10 (.string (bOf (((S ++ (txtL ((E i).getD (k * 2) 0))) ++ [32]) ++ (txtL ((E i).getD (k * 2 + 1) 0))))) rfl (by kernel_rfl) .none (fun _ => dv_assign (T rfl rfl)) ?_
                     refine aw_done (by kernel_rfl) ?_
                     refine rk_inBlock ?_
                     refine rk_reg ?_
                     refine lw_v (.int .i64 ((k : Int))) (dv_move (T rfl f34)) ?_
                     refine lw_v (.int .i64 (((k : Int)) + 1)) (dv_add (a := (k : Int)) (b := 1) (z := ((k : Int)) + 1) (T rfl rfl) C (wr_i64 (by omega) (by omega))) ?_
                     refine lw_v (.int .i64 (((k : Int)) + 1)) (dv_assign (T rfl rfl)) ?_
                     refine lw_nil ?_
                     exact ih27 (N i - ((k + 1))) _ _ (by rw [hd63]; omega) ⟨(k + 1), (((S ++ (txtL ((E i).getD (k * 2) 0))) ++ [32]) ++ (txtL ((E i).getD (k * 2 + 1) 0))), rfl, f30, rfl, f32, f33, (vi (by omega)), f35, f36, f37, f38, f39, f40, f41, f42, f43, f44, f45, f46, f47, f48, f49, f50, f51, f52, f53, f54, f55, f56, f57, f58, f59, f60, f61, E109, (by omega), (by rw [hSp]; exact specT_f (by rw [← hSp]; first | assumption | exact Decidable.not_not.1 (by assumption))), (all_step hin ⟨by assumption, by assumption⟩)⟩
                 · refine rk_ct (T rfl (congrArg Value.bool (decide_eq_true hb85))) ?_
                   refine rk_seq ?_
                   refine rk_reg ?_
                   refine lw_v (.string (bOf [])) (dv_assign C) ?_
                   refine lw_nil ?_
                   refine rk_ret Tryd.func11 (v := .string (bOf [])) (res1 Tryd.results11 (rv_tmp rfl rfl)) ⟨_, rfl, ?_⟩
                   have hl0 : l ≠ 0 := by omega
                   have hS : ¬ layS l N E := fun hh => by have h0_ := hh.2.2 i (by omega); have h3_ := hh.2.1; have h4_ := htot (by omega); first | omega | (have h1_ := h0_.2 k (by omega); first | exact absurd h1_.1 (by assumption) | exact absurd h1_.2 (by assumption))
                   exact ⟨congrArg (fun l_ => Value.string (bOf l_)) (by rw [layR_f hl0 hS]), E84⟩
               · refine lw_no (d := 65) rfl rfl (congrArg Value.bool (decide_eq_true hb80)) ?_
                 refine lw_no (d := 65) rfl rfl (congrArg Value.bool (decide_eq_true hb80)) ?_
                 refine lw_no (d := 65) rfl rfl (congrArg Value.bool (decide_eq_true hb80)) ?_
                 refine lw_no (d := 65) rfl rfl (congrArg Value.bool (decide_eq_true hb80)) ?_
                 refine lw_v (.bool true) (dv_pick_t (T rfl (congrArg Value.bool (decide_eq_true hb80))) C) ?_
                 refine lw_nil ?_
                 refine rk_ct (T rfl rfl) ?_
                 refine rk_seq ?_
                 refine rk_reg ?_
                 refine lw_v (.string (bOf [])) (dv_assign C) ?_
                 refine lw_nil ?_
                 refine rk_ret Tryd.func11 (v := .string (bOf [])) (res1 Tryd.results11 (rv_tmp rfl rfl)) ⟨_, rfl, ?_⟩
                 have hl0 : l ≠ 0 := by omega
                 have hS : ¬ layS l N E := fun hh => by have h0_ := hh.2.2 i (by omega); have h3_ := hh.2.1; have h4_ := htot (by omega); first | omega | (have h1_ := h0_.2 k (by omega); first | exact absurd h1_.1 (by assumption) | exact absurd h1_.2 (by assumption))
                 exact ⟨congrArg (fun l_ => Value.string (bOf l_)) (by rw [layR_f hl0 hS]), E79⟩
             · refine rk_cf (T rfl (congrArg Value.bool (decide_eq_false hb65))) ?_
               refine rk_exit rfl ?_
               refine rk_inBlock ?_
               refine rk_reg ?_
               refine lw_v (.int .i64 ((i : Int))) (dv_move (T rfl f33)) ?_
               refine lw_v (.int .i64 (((i : Int)) + 1)) (dv_add (a := (i : Int)) (b := 1) (z := ((i : Int)) + 1) (T rfl rfl) C (wr_i64 (by omega) (by omega))) ?_
               refine lw_v (.int .i64 (((i : Int)) + 1)) (dv_assign (T rfl rfl)) ?_
               refine lw_nil ?_
               exact ih5 (l - ((i + 1))) _ _ (by rw [hd13]; omega) ⟨(i + 1), S, rfl, f30, f31, (f32.trans (vi (by first | rfl | (rw [hts]; omega)))), (vi (by omega)), E62, (by omega), (by rw [hSp, show k = N i by omega]; exact specT_end N E (by omega)), (all_step hall ⟨by omega, fun q hq => hin q (by omega)⟩), (by omega)⟩
           · refine rk_cf (T rfl (congrArg Value.bool (decide_eq_false hb24))) ?_
             refine rk_skip ?_
             refine rk_seq ?_
             refine rk_reg ?_
             refine lw_v (.int .i64 0) (dv_assign C) ?_
             refine lw_nil ?_
             refine rk_block ?_
             refine rk_loop (fun dm_ fr wl => ∃ (k : Nat) (S : List Int), dm_ = N i - k ∧ fr 0 = .slice (some ⟨g19, o20, none⟩) l c ∧ fr 3 = .string (bOf S) ∧ fr 4 = .int .i64 (((tot N i : Int)) + ((N i : Int))) ∧ fr 5 = .int .i64 ((i : Int)) ∧ fr 6 = .int .i64 ((k : Int)) ∧ fr 14 = .int .i64 ((i : Int)) ∧ fr 15 = .slice (some ⟨g19, o20, none⟩) l c ∧ fr 16 = .int .i64 ((l : Int)) ∧ fr 17 = .bool (decide (((i : Int)) < ((l : Int)))) ∧ fr 20 = .int .i64 ((tot N i : Int)) ∧ fr 21 = .slice (some ⟨g19, o20, none⟩) l c ∧ fr 22 = .int .i64 ((i : Int)) ∧ fr 23 = .pointer (some ⟨g19, o20 + i, none⟩) ∧ fr 24 = .pointer (some ⟨g19, o20 + i, none⟩) ∧ fr 25 = .slice As14 (N i) cs15 ∧ fr 26 = .int .i64 ((N i : Int)) ∧ fr 27 = .int .i64 (((tot N i : Int)) + ((N i : Int))) ∧ fr 28 = .slice (some ⟨g19, o20, none⟩) l c ∧ fr 29 = .int .i64 ((i : Int)) ∧ fr 30 = .pointer (some ⟨g19, o20 + i, none⟩) ∧ fr 31 = .pointer (some ⟨g19, o20 + i, none⟩) ∧ fr 32 = .slice As14 (N i) cs15 ∧ fr 33 = .int .i64 ((N i : Int)) ∧ fr 34 = .bool (decide (((N i : Int)) = 0)) ∧ fr 35 = .bool (decide (((N i : Int)) = 0)) ∧ fr 36 = .int .i64 (((tot N i : Int)) + ((N i : Int))) ∧ fr 37 = .bool (decide (20 < (((tot N i : Int)) + ((N i : Int))))) ∧ fr 38 = .bool (decide (20 < (((tot N i : Int)) + ((N i : Int))))) ∧ fr 39 = .int .i64 ((i : Int)) ∧ fr 40 = .bool (decide (0 < ((i : Int)))) ∧ Below w.heap.size w wl ∧ (k ≤ N i) ∧ (S = specT N E i k) ∧ (∀ q, q < k → short ((E i).getD (q * 2) 0) ∧ short ((E i).getD (q * 2 + 1) 0))) (N i - 0) ⟨0, S0, rfl, f8, f9, rfl, f11, (vi (by omega)), rfl, rfl, rfl, rfl, rfl, rfl, rfl, rfl, rfl, rfl, rfl, rfl, rfl, rfl, rfl, rfl, rfl, rfl, rfl, rfl, rfl, rfl, rfl, rfl, rfl, E12, (Nat.zero_le _), (by rw [hS0, show i = 0 by omega]; rfl), (fun q hq => absurd hq (by omega))⟩ ?_
             intro d115 fr114 w111 hI112 ih113
             obtain ⟨k, S, hd147, f116, f117, f118, f119, f120, f121, f122, f123, f124, f125, f126, f127, f128, f129, f130, f131, f132, f133, f134, f135, f136, f137, f138, f139, f140, f141, f142, f143, f144, f145, E146, hk_, hSp, hin⟩ := hI112
             have hSl2 := specT_len (i := i) (k := k) (fun q hq => ⟨by have h1_ := tot_le (N := N) (show q + 1 ≤ i by omega); have h2_ : tot N (q + 1) = tot N q + N q := rfl; omega, (hall q hq).2⟩) hin
             rw [← hSp] at hSl2
             refine rk_seq ?_
             refine rk_seq ?_
             refine rk_reg ?_
             refine lw_v (.int .i64 ((k : Int))) (dv_move (T rfl f120)) ?_
             refine lw_v (.slice (some ⟨g19, o20, none⟩) l c) (dv_move (T rfl f116)) ?_
             refine lw_v (.int .i64 ((i : Int))) (dv_move (T rfl f119)) ?_
             refine lw_v (.pointer (some ⟨g19, o20 + i, none⟩)) (dv_indexW (g := g19) (o := o20) (l := l) (c := c) (i := i) (j := (i : Int)) us22 sz37 (T rfl rfl) (T rfl rfl) (by omega) (by first | omega | (simp; done) | (simp; omega))) ?_
             refine lw_v (.pointer (some ⟨g19, o20 + i, none⟩)) (dv_fieldW (g := g19) (o := o20) (i := i) fo37_0 (T rfl rfl)) ?_
             have h148 := (hx.ext E146)
             refine lw_v (.slice As14 (N i) cs15) (dv_load agt35 (T rfl rfl) (RR.sl (i := i) h148 (by first | omega | (simp; done) | (simp; omega)) hAs16 hcs17)) ?_
             refine lw_v (.int .i64 ((N i : Int))) (dv_len (ad := As14) (l := N i) (c := cs15) us35 (T rfl rfl)) ?_
             refine lw_v (.bool (decide (((k : Int)) < ((N i : Int))))) (dv_lss (a := (k : Int)) (b := (N i : Int)) (T rfl rfl) (T rfl rfl)) ?_
             refine lw_nil ?_
             by_cases hb149 : ((k : Int)) < ((N i : Int))
             · refine rk_ct (T rfl (congrArg Value.bool (decide_eq_true hb149))) ?_
               refine rk_skip ?_
               refine rk_seq ?_
               refine rk_block ?_
               refine rk_seq ?_
               refine rk_reg ?_
               refine lw_v (.slice (some ⟨g19, o20, none⟩) l c) (dv_move (T rfl f116)) ?_
               refine lw_v (.int .i64 ((i : Int))) (dv_move (T rfl f119)) ?_
               refine lw_v (.pointer (some ⟨g19, o20 + i, none⟩)) (dv_indexW (g := g19) (o := o20) (l := l) (c := c) (i := i) (j := (i : Int)) us22 sz37 (T rfl rfl) (T rfl rfl) (by omega) (by first | omega | (simp; done) | (simp; omega))) ?_
               refine lw_v (.pointer (some ⟨g19, o20 + i, none⟩)) (dv_fieldW (g := g19) (o := o20) (i := i) fo37_0 (T rfl rfl)) ?_
               refine lw_v (.slice As14 (N i) cs15) (dv_load agt35 (T rfl rfl) (RR.sl (i := i) h148 (by first | omega | (simp; done) | (simp; omega)) hAs16 hcs17)) ?_
               refine lw_v (.int .i64 ((k : Int))) (dv_move (T rfl f120)) ?_
               obtain ⟨g150, o151, rfl⟩ := RdI.at (RR.rd (i := i) h148 (by first | omega | (simp; done) | (simp; omega)) hAs16) (by first | omega | (simp; done) | (simp; omega))
               refine lw_v (.pointer (some ⟨g150, o151 + k * 2, none⟩)) (dv_indexM (g := g150) (o := o151) (l := N i) (c := cs15) (i := k) (j := (k : Int)) (m := 2) us35 sz41 (T rfl rfl) (T rfl rfl) (by omega) (by first | omega | (simp; done) | (simp; omega))) ?_
               refine lw_v (.agg #[.int .i64 ((E i).getD (k * 2) 0), .int .i64 ((E i).getD (k * 2 + 1) 0)]) (dv_loadsI (i := k * 2) (m := 2) (k := .i64) (L := E i) (l := [.int .i64 ((E i).getD (k * 2) 0), .int .i64 ((E i).getD (k * 2 + 1) 0)]) agt41 sz41 (T rfl rfl) (RR.rd (i := i) h148 (by first | omega | (simp; done) | (simp; omega)) hAs16) (by first | omega | (simp; done) | (simp; omega)) rfl) ?_
               refine lw_e (oe_alloc ze41 ?_)
               intro b152 w153 n154
               have N155 : w.heap.size ≤ b152 := n154.eq ▸ E146.size
               have := n154.eq; have := n154.size
               have := Below.fresh n154.ext
               have E156 := below_ext E146 E146.size n154.ext
               refine lw_e (oe_store (v := .agg #[.int .i64 ((E i).getD (k * 2) 0), .int .i64 ((E i).getD (k * 2 + 1) 0)]) (vs := [.int .i64 ((E i).getD (k * 2) 0), .int .i64 ((E i).getD (k * 2 + 1) 0)]) (l := [.int .i64 ((E i).getD (k * 2) 0), .int .i64 ((E i).getD (k * 2 + 1) 0)]) (T rfl rfl) (T rfl rfl) sz41 rfl rfl rfl n154.blk rfl ?_)
               intro w157 s158 H159
               have := s158.size
               have E160 := below_st E156 N155 s158
               refine lw_nil ?_
               refine rk_seq ?_
               refine rk_seq ?_
               refine rk_reg ?_
               refine lw_v (.pointer (some ⟨b152, 0, none⟩)) (dv_fieldAddr (a := ⟨b152, 0, none⟩) (a' := ⟨b152, 0, none⟩) fo41_0 (T rfl rfl) rfl) ?_
               refine lw_v (.int .i64 ((E i).getD (k * 2) 0)) (dv_load1 (b := b152) (o := 0) agt2 (T rfl rfl) H159 rfl) ?_
               refine lw_e (oe_callf (vs := [.int .i64 ((E i).getD (k * 2) 0)]) co22 (ar1 (T rfl rfl)) (l6Short_ok (x := (E i).getD (k * 2) 0)  ) ?_)
               rintro _ w161 ⟨rfl, e162⟩
               have := Below.fresh e162
               have E163 := below_ext E160 E160.size e162
               refine lw_v (.bool (decide (¬ (short ((E i).getD (k * 2) 0))))) (dv_notd (p := short ((E i).getD (k * 2) 0)) (T rfl rfl)) ?_
               refine lw_v (.bool (decide (¬ (short ((E i).getD (k * 2) 0))))) (dv_move (T rfl rfl)) ?_
               by_cases hb164 : short ((E i).getD (k * 2) 0)
               · have := txt_short hb164; have := hb164; unfold short at this
                 refine lw_vy (.pointer (some ⟨b152, 1, none⟩)) (d := 65) rfl rfl (congrArg Value.bool (decide_eq_false (not_not_intro hb164))) (dv_fieldAddr (a := ⟨b152, 0, none⟩) (a' := ⟨b152, 1, none⟩) fo41_1 (T rfl rfl) rfl) ?_
                 have H165 := (e162.blk H159)
                 refine lw_vy (.int .i64 ((E i).getD (k * 2 + 1) 0)) (d := 65) rfl rfl (congrArg Value.bool (decide_eq_false (not_not_intro hb164))) (dv_load1 (b := b152) (o := 1) agt2 (T rfl rfl) H165 rfl) ?_
                 refine lw_ey (d := 65) rfl rfl (congrArg Value.bool (decide_eq_false (not_not_intro hb164))) (oe_callf (vs := [.int .i64 ((E i).getD (k * 2 + 1) 0)]) co22 (ar1 (T rfl rfl)) (l6Short_ok (x := (E i).getD (k * 2 + 1) 0)  ) ?_)
                 rintro _ w166 ⟨rfl, e167⟩
                 have := Below.fresh e167
                 have E168 := below_ext E163 E163.size e167
                 refine lw_vy (.bool (decide (¬ (short ((E i).getD (k * 2 + 1) 0))))) (d := 65) rfl rfl (congrArg Value.bool (decide_eq_false (not_not_intro hb164))) (dv_notd (p := short ((E i).getD (k * 2 + 1) 0)) (T rfl rfl)) ?_
                 refine lw_v (.bool (decide (¬ (short ((E i).getD (k * 2 + 1) 0))))) (dv_pick_f (T rfl (congrArg Value.bool (decide_eq_false (not_not_intro hb164)))) (T rfl rfl)) ?_
                 refine lw_nil ?_
                 by_cases hb169 : short ((E i).getD (k * 2 + 1) 0)
                 · have := txt_short hb169; have := hb169; unfold short at this
                   refine rk_cf (T rfl (congrArg Value.bool (decide_eq_false (not_not_intro hb169)))) ?_
                   refine rk_skip ?_
                   refine rk_seq ?_
                   refine rk_seq ?_
                   refine rk_reg ?_
                   refine lw_v (.string (bOf S)) (dv_move (T rfl f117)) ?_
                   refine lw_v (.bool (decide ((S : List Int) ≠ ([])))) (dv_neS (L := S) (M := []) (T rfl rfl) C (((hSp ▸ ok_specT _ _ _ _))) ((okC_lit [] (by decide)))) ?_
                   refine lw_nil ?_
                   by_cases hb170 : (S : List Int) ≠ ([])
                   · refine rk_ct (T rfl (congrArg Value.bool (decide_eq_true hb170))) ?_
                     refine rk_reg ?_
                     refine lw_v (.string (bOf S)) (dv_move (T rfl f117)) ?_
                     refine lw_v (.string (bOf (S ++ [32]))) (dv_addS (L := S) (M := [32]) (T rfl rfl) C (by first | omega | (simp only [List.length_append, List.length_cons, List.length_nil]; omega))) ?_
                     refine lw_v (.string (bOf (S ++ [32]))) (dv_assign (T rfl rfl)) ?_
                     refine lw_nil ?_
                     refine rk_any (fun w => w.heap[b152]? = some (.cells #[.int .i64 ((E i).getD (k * 2) 0), .int .i64 ((E i).getD (k * 2 + 1) 0)] 41)) [10] mo ?_
                     intro w171 d172
                     have := Below.fresh d172.ext
                     have E173 := below_ext E168 E168.size d172.ext
                     have H174 := (d172.ext.blk (e167.blk H165))
                     refine aw_pure 0 (.string (bOf (S ++ [32]))) rfl (by kernel_rfl) .none H174 (fun _ => dv_move (T rfl rfl)) ?_
                     refine aw_pure 1 (.pointer (some ⟨b152, 0, none⟩)) rfl (by kernel_rfl) .none H174 (fun _ => dv_fieldAddr (a := ⟨b152, 0, none⟩) (a' := ⟨b152, 0, none⟩) fo41_0 (T rfl rfl) rfl) ?_
                     refine aw_load 2 (.int .i64 ((E i).getD (k * 2) 0)) rfl (by kernel_rfl) .none H174 (fun _ s => dv_load1 (b := b152) (o := 0) agt2 (T rfl rfl) s rfl) ?_
                     refine aw_pure 6 (.pointer (some ⟨b152, 1, none⟩)) rfl (by kernel_rfl) .none H174 (fun _ => dv_fieldAddr (a := ⟨b152, 0, none⟩) (a' := ⟨b152, 1, none⟩) fo41_1 (T rfl rfl) rfl) ?_
                     refine aw_load 7 (.int .i64 ((E i).getD (k * 2 + 1) 0)) rfl (by kernel_rfl) .none H174 (fun _ s => dv_load1 (b := b152) (o := 1) agt2 (T rfl rfl) s rfl) ?_
                     refine aw_one 3 rfl (by kernel_rfl) .none (oe_callf (vs := [.int .i64 ((E i).getD (k * 2) 0)]) co23 (ar1 (T rfl rfl)) (l6Num_ok (x := (E i).getD (k * 2) 0)  (by omega)) ?_)
                     rintro _ w175 ⟨rfl, e176⟩
                     have := Below.fresh e176
                     have E177 := below_ext E173 E173.size e176
                     have H178 := (e176.blk H174)
                     refine ⟨.inr H178, ?_⟩
                     refine aw_pure 4 (.string (bOf ((S ++ [32]) ++ (txtL ((E i).getD (k * 2) 0))))) rfl (by kernel_rfl) .none H178 (fun _ => dv_addS (L := (S ++ [32])) (M := (txtL ((E i).getD (k * 2) 0))) (T rfl rfl) (T rfl rfl) (by first | omega | (simp only [List.length_append, List.length_cons, List.length_nil]; omega))) ?_
                     refine aw_pure 5 (.string (bOf (((S ++ [32]) ++ (txtL ((E i).getD (k * 2) 0))) ++ [32]))) rfl (by kernel_rfl) .none H178 (fun _ => dv_addS (L := ((S ++ [32]) ++ (txtL ((E i).getD (k * 2) 0)))) (M := [32]) (T rfl rfl) C (by first | omega | (simp only [List.length_append, List.length_cons, List.length_nil]; omega))) ?_
                     refine aw_one 8 rfl (by kernel_rfl) .none (oe_callf (vs := [.int .i64 ((E i).getD (k * 2 + 1) 0)]) co23 (ar1 (T rfl rfl)) (l6Num_ok (x := (E i).getD (k * 2 + 1) 0)  (by omega)) ?_)
                     rintro _ w179 ⟨rfl, e180⟩
                     have := Below.fresh e180
                     have E181 := below_ext E177 E177.size e180
                     have H182 := (e180.blk H178)
                     refine ⟨.inr H182, ?_⟩
                     refine aw_pure 9 (.string (bOf ((((S ++ [32]) ++ (txtL ((E i).getD (k * 2) 0))) ++ [32]) ++ (txtL ((E i).getD (k * 2 + 1) 0))))) rfl (by kernel_rfl) .none H182 (fun _ => dv_addS (L := (((S ++ [32]) ++ (txtL ((E i).getD (k * 2) 0))) ++ [32])) (M := (txtL ((E i).getD (k * 2 + 1) 0))) (T rfl rfl) (T rfl rfl) (by first | omega | (simp only [List.length_append, List.length_cons, List.length_nil]; omega))) ?_
                     refine aw_last 10 (.string (bOf ((((S ++ [32]) ++ (txtL ((E i).getD (k * 2) 0))) ++ [32]) ++ (txtL ((E i).getD (k * 2 + 1) 0))))) rfl (by kernel_rfl) .none (fun _ => dv_assign (T rfl rfl)) ?_
                     refine aw_done (by kernel_rfl) ?_
                     refine rk_inBlock ?_
                     refine rk_reg ?_
                     refine lw_v (.int .i64 ((k : Int))) (dv_move (T rfl f120)) ?_
                     refine lw_v (.int .i64 (((k : Int)) + 1)) (dv_add (a := (k : Int)) (b := 1) (z := ((k : Int)) + 1) (T rfl rfl) C (wr_i64 (by omega) (by omega))) ?_
                     refine lw_v (.int .i64 (((k : Int)) + 1)) (dv_assign (T rfl rfl)) ?_
                     refine lw_nil ?_
                     exact ih113 (N i - ((k + 1))) _ _ (by rw [hd147]; omega) ⟨(k + 1), ((((S ++ [32]) ++ (txtL ((E i).getD (k * 2) 0))) ++ [32]) ++ (txtL ((E i).getD (k * 2 + 1) 0))), rfl, f116, rfl, f118, f119, (vi (by omega)), f121, f122, f123, f124, f125, f126, f127, f128, f129, f130, f131, f132, f133, f134, f135, f136, f137, f138, f139, f140, f141, f142, f143, f144, f145, E181, (by omega), (by rw [hSp]; exact specT_t (by rw [← hSp]; first | assumption | exact Decidable.not_not.1 (by assumption))), (all_step hin ⟨by assumption, by assumption⟩)⟩
                   · refine rk_cf (T rfl (congrArg Value.bool (decide_eq_false hb170))) ?_
                     refine rk_skip ?_
                     refine rk_any (fun w => w.heap[b152]? = some (.cells #[.int .i64 ((E i).getD (k * 2) 0), .int .i64 ((E i).getD (k * 2 + 1) 0)] 41)) [10] mo ?_
                     intro w183 d184
                     have := Below.fresh d184.ext
                     have E185 := below_ext E168 E168.size d184.ext
                     have H186 := (d184.ext.blk (e167.blk H165))
                     refine aw_pure 0 (.string (bOf S)) rfl (by kernel_rfl) .none H186 (fun _ => dv_move (T rfl f117)) ?_
                     refine aw_pure 1 (.pointer (some ⟨b152, 0, none⟩)) rfl (by kernel_rfl) .none H186 (fun _ => dv_fieldAddr (a := ⟨b152, 0, none⟩) (a' := ⟨b152, 0, none⟩) fo41_0 (T rfl rfl) rfl) ?_
                     refine aw_load 2 (.int .i64 ((E i).getD (k * 2) 0)) rfl (by kernel_rfl) .none H186 (fun _ s => dv_load1 (b := b152) (o := 0) agt2 (T rfl rfl) s rfl) ?_
                     refine aw_pure 6 (.pointer (some ⟨b152, 1, none⟩)) rfl (by kernel_rfl) .none H186 (fun _ => dv_fieldAddr (a := ⟨b152, 0, none⟩) (a' := ⟨b152, 1, none⟩) fo41_1 (T rfl rfl) rfl) ?_
                     refine aw_load 7 (.int .i64 ((E i).getD (k * 2 + 1) 0)) rfl (by kernel_rfl) .none H186 (fun _ s => dv_load1 (b := b152) (o := 1) agt2 (T rfl rfl) s rfl) ?_
                     refine aw_one 3 rfl (by kernel_rfl) .none (oe_callf (vs := [.int .i64 ((E i).getD (k * 2) 0)]) co23 (ar1 (T rfl rfl)) (l6Num_ok (x := (E i).getD (k * 2) 0)  (by omega)) ?_)
                     rintro _ w187 ⟨rfl, e188⟩
                     have := Below.fresh e188
                     have E189 := below_ext E185 E185.size e188
                     have H190 := (e188.blk H186)
                     refine ⟨.inr H190, ?_⟩
                     refine aw_pure 4 (.string (bOf (S ++ (txtL ((E i).getD (k * 2) 0))))) rfl (by kernel_rfl) .none H190 (fun _ => dv_addS (L := S) (M := (txtL ((E i).getD (k * 2) 0))) (T rfl rfl) (T rfl rfl) (by first | omega | (simp only [List.length_append, List.length_cons, List.length_nil]; omega))) ?_
                     refine aw_pure 5 (.string (bOf ((S ++ (txtL ((E i).getD (k * 2) 0))) ++ [32]))) rfl (by kernel_rfl) .none H190 (fun _ => dv_addS (L := (S ++ (txtL ((E i).getD (k * 2) 0)))) (M := [32]) (T rfl rfl) C (by first | omega | (simp only [List.length_append, List.length_cons, List.length_nil]; omega))) ?_
                     refine aw_one 8 rfl (by kernel_rfl) .none (oe_callf (vs := [.int .i64 ((E i).getD (k * 2 + 1) 0)]) co23 (ar1 (T rfl rfl)) (l6Num_ok (x := (E i).getD (k * 2 + 1) 0)  (by omega)) ?_)
                     rintro _ w191 ⟨rfl, e192⟩
                     have := Below.fresh e192
                     have E193 := below_ext E189 E189.size e192
                     have H194 := (e192.blk H190)
                     refine ⟨.inr H194, ?_⟩
                     refine aw_pure 9 (.string (bOf (((S ++ (txtL ((E i).getD (k * 2) 0))) ++ [32]) ++ (txtL ((E i).getD (k * 2 + 1) 0))))) rfl (by kernel_rfl) .none H194 (fun _ => dv_addS (L := ((S ++ (txtL ((E i).getD (k * 2) 0))) ++ [32])) (M := (txtL ((E i).getD (k * 2 + 1) 0))) (T rfl rfl) (T rfl rfl) (by first | omega | (simp only [List.length_append, List.length_cons, List.length_nil]; omega))) ?_
                     refine aw_last 10 (.string (bOf (((S ++ (txtL ((E i).getD (k * 2) 0))) ++ [32]) ++ (txtL ((E i).getD (k * 2 + 1) 0))))) rfl (by kernel_rfl) .none (fun _ => dv_assign (T rfl rfl)) ?_
                     refine aw_done (by kernel_rfl) ?_
                     refine rk_inBlock ?_
                     refine rk_reg ?_
                     refine lw_v (.int .i64 ((k : Int))) (dv_move (T rfl f120)) ?_
                     refine lw_v (.int .i64 (((k : Int)) + 1)) (dv_add (a := (k : Int)) (b := 1) (z := ((k : Int)) + 1) (T rfl rfl) C (wr_i64 (by omega) (by omega))) ?_
                     refine lw_v (.int .i64 (((k : Int)) + 1)) (dv_assign (T rfl rfl)) ?_
                     refine lw_nil ?_
                     exact ih113 (N i - ((k + 1))) _ _ (by rw [hd147]; omega) ⟨(k + 1), (((S ++ (txtL ((E i).getD (k * 2) 0))) ++ [32]) ++ (txtL ((E i).getD (k * 2 + 1) 0))), rfl, f116, rfl, f118, f119, (vi (by omega)), f121, f122, f123, f124, f125, f126, f127, f128, f129, f130, f131, f132, f133, f134, f135, f136, f137, f138, f139, f140, f141, f142, f143, f144, f145, E193, (by omega), (by rw [hSp]; exact specT_f (by rw [← hSp]; first | assumption | exact Decidable.not_not.1 (by assumption))), (all_step hin ⟨by assumption, by assumption⟩)⟩
                 · refine rk_ct (T rfl (congrArg Value.bool (decide_eq_true hb169))) ?_
                   refine rk_seq ?_
                   refine rk_reg ?_
                   refine lw_v (.string (bOf [])) (dv_assign C) ?_
                   refine lw_nil ?_
                   refine rk_ret Tryd.func11 (v := .string (bOf [])) (res1 Tryd.results11 (rv_tmp rfl rfl)) ⟨_, rfl, ?_⟩
                   have hl0 : l ≠ 0 := by omega
                   have hS : ¬ layS l N E := fun hh => by have h0_ := hh.2.2 i (by omega); have h3_ := hh.2.1; have h4_ := htot (by omega); first | omega | (have h1_ := h0_.2 k (by omega); first | exact absurd h1_.1 (by assumption) | exact absurd h1_.2 (by assumption))
                   exact ⟨congrArg (fun l_ => Value.string (bOf l_)) (by rw [layR_f hl0 hS]), E168⟩
               · refine lw_no (d := 65) rfl rfl (congrArg Value.bool (decide_eq_true hb164)) ?_
                 refine lw_no (d := 65) rfl rfl (congrArg Value.bool (decide_eq_true hb164)) ?_
                 refine lw_no (d := 65) rfl rfl (congrArg Value.bool (decide_eq_true hb164)) ?_
                 refine lw_no (d := 65) rfl rfl (congrArg Value.bool (decide_eq_true hb164)) ?_
                 refine lw_v (.bool true) (dv_pick_t (T rfl (congrArg Value.bool (decide_eq_true hb164))) C) ?_
                 refine lw_nil ?_
                 refine rk_ct (T rfl rfl) ?_
                 refine rk_seq ?_
                 refine rk_reg ?_
                 refine lw_v (.string (bOf [])) (dv_assign C) ?_
                 refine lw_nil ?_
                 refine rk_ret Tryd.func11 (v := .string (bOf [])) (res1 Tryd.results11 (rv_tmp rfl rfl)) ⟨_, rfl, ?_⟩
                 have hl0 : l ≠ 0 := by omega
                 have hS : ¬ layS l N E := fun hh => by have h0_ := hh.2.2 i (by omega); have h3_ := hh.2.1; have h4_ := htot (by omega); first | omega | (have h1_ := h0_.2 k (by omega); first | exact absurd h1_.1 (by assumption) | exact absurd h1_.2 (by assumption))
                 exact ⟨congrArg (fun l_ => Value.string (bOf l_)) (by rw [layR_f hl0 hS]), E163⟩
             · refine rk_cf (T rfl (congrArg Value.bool (decide_eq_false hb149))) ?_
               refine rk_exit rfl ?_
               refine rk_inBlock ?_
               refine rk_reg ?_
               refine lw_v (.int .i64 ((i : Int))) (dv_move (T rfl f119)) ?_
               refine lw_v (.int .i64 (((i : Int)) + 1)) (dv_add (a := (i : Int)) (b := 1) (z := ((i : Int)) + 1) (T rfl rfl) C (wr_i64 (by omega) (by omega))) ?_
               refine lw_v (.int .i64 (((i : Int)) + 1)) (dv_assign (T rfl rfl)) ?_
               refine lw_nil ?_
               exact ih5 (l - ((i + 1))) _ _ (by rw [hd13]; omega) ⟨(i + 1), S, rfl, f116, f117, (f118.trans (vi (by first | rfl | (rw [hts]; omega)))), (vi (by omega)), E146, (by omega), (by rw [hSp, show k = N i by omega]; exact specT_end N E (by omega)), (all_step hall ⟨by omega, fun q hq => hin q (by omega)⟩), (by omega)⟩
     · refine rk_cf (T rfl (congrArg Value.bool (decide_eq_false hb18))) ?_
       refine rk_exit rfl ?_
       refine rk_seq ?_
       refine rk_reg ?_
       refine lw_v (.string (bOf S0)) (dv_move (T rfl f9)) ?_
       refine lw_v (.string (bOf S0)) (dv_assign (T rfl rfl)) ?_
       refine lw_nil ?_
       refine rk_ret Tryd.func11 (v := .string (bOf S0)) (res1 Tryd.results11 (rv_tmp rfl rfl)) ⟨_, rfl, ?_⟩
       have hS : layS l N E := ⟨by omega, by rw [show l = i by omega]; exact ht20, fun q hq => hall q (by omega)⟩
       exact ⟨congrArg (fun l_ => Value.string (bOf l_)) (by rw [layR_t (by omega) hS, hS0, show i = l by omega]), E12⟩
end Go.Proofs.YtmbpomcbdopgnaaDoor.W
set_option linter.unusedVariables false
set_option linter.unusedSimpArgs false
namespace Go.Proofs.YtmbpomcbdopgnaaDoor.W
open Go Go.RowKit Go.Proofs.YtmbpomcbdopgnaaDoor.Fw
attribute [local irreducible] RunK LW AW DV OE Ct
theorem co10 : callOk Tryd.prog 10 = true := by kernel_rfl
theorem co11 : callOk Tryd.prog 11 = true := by kernel_rfl
theorem co12 : callOk Tryd.prog 12 = true := by kernel_rfl
theorem co13 : callOk Tryd.prog 13 = true := by kernel_rfl
theorem co7 : callOk Tryd.prog 7 = true := by kernel_rfl
set_option maxHeartbeats 1000000 in
theorem lawLayerText_ok {w : World} {A : Option Addr} {l c : Nat} {N : Nat → Nat} {E : Nat → List Int} {SL : SlF} (hx : RR w 0 w.heap.size A l N E SL) (hlc : l ≤ c) (hcm : c ≤ 9223372036854775807) (hEm : ∀ i, i < l → N i ≤ 9223372036854775807) (ht : TB w) : Ct Tryd.prog 4 [.slice A l c] w fun v w1 => v = .bool true ∧ Ext w w1 := by
 refine ct_run (n := 27) Tryd.func4 rfl Tryd.ntmps4 rfl ?_
 have E0 : Below w.heap.size w w := Below.refl _ _
 refine rk_seq ?_
 refine rk_reg ?_
 refine lw_v (.bool false) (dv_assign C) ?_
 refine lw_nil ?_
 refine rk_seq ?_
 refine rk_reg ?_
 refine lw_v (.int .i64 1048576) (dv_assign C) ?_
 refine lw_nil ?_
 refine rk_seq ?_
 refine rk_reg ?_
 refine lw_v (.slice A l c) (dv_move (T rfl rfl)) ?_
 refine lw_v (.int .i64 1048576) (dv_move (T rfl rfl)) ?_
 refine lw_e (oe_callf (vs := [.slice A l c, .int .i64 1048576]) co10 (ar2 (T rfl rfl) (T rfl rfl)) (szRingS_ok (c := c) hx (by omega) hEm (by omega)) ?_)
 rintro _ w3 ⟨zs1, rfl, hzs2, e4⟩
 have := Below.fresh e4
 have E5 := below_ext E0 E0.size e4
 have hsz_ := hzs2
 refine lw_v (.int .i64 zs1) (dv_assign (T rfl rfl)) ?_
 refine lw_nil ?_
 refine rk_seq ?_
 refine rk_seq ?_
 refine rk_reg ?_
 refine lw_v (.int .i64 zs1) (dv_move (T rfl rfl)) ?_
 refine lw_v (.bool (decide (zs1 < 0))) (dv_lss (a := zs1) (b := 0) (T rfl rfl) C) ?_
 refine lw_nil ?_
 by_cases hb6 : zs1 < 0
 · refine rk_ct (T rfl (congrArg Value.bool (decide_eq_true hb6))) ?_
   refine rk_seq ?_
   refine rk_reg ?_
   refine lw_v (.bool true) (dv_assign C) ?_
   refine lw_nil ?_
   refine rk_ret Tryd.func4 (v := .bool true) (res1 Tryd.results4 (rv_tmp rfl rfl)) ⟨_, rfl, ?_⟩
   exact ⟨rfl, E5⟩
 · have hxb := (hsz_ (by omega)).1; have hxn := (hsz_ (by omega)).2
   refine rk_cf (T rfl (congrArg Value.bool (decide_eq_false hb6))) ?_
   refine rk_skip ?_
   refine rk_seq ?_
   refine rk_reg ?_
   refine lw_v (.slice A l c) (dv_move (T rfl rfl)) ?_
   have h7 := (hx.ext e4)
   refine lw_e (oe_callf (vs := [.slice A l c]) co12 (ar1 (T rfl rfl)) (toRingS_ok (c := c) h7 (by omega) hxn) ?_)
   rintro _ w11 ⟨At8, St9, rfl, e12, hRt10⟩
   have := Below.fresh e12
   have E13 := below_ext E5 E5.size e12
   refine lw_e (oe_callf (vs := [.slice At8 l l]) co11 (ar1 (T rfl rfl)) (sLayerText_ok (c := l) hRt10 (by omega) hxn) ?_)
   rintro _ w14 ⟨rfl, e15⟩
   have := Below.fresh e15
   have E16 := below_ext E13 E13.size e15
   refine lw_v (.string (bOf (layR l N E))) (dv_assign (T rfl rfl)) ?_
   refine lw_nil ?_
   refine rk_seq ?_
   refine rk_reg ?_
   refine lw_v (.slice A l c) (dv_move (T rfl rfl)) ?_
   have h17 := ((h7.ext e12).ext e15)
   refine lw_e (oe_callf (vs := [.slice A l c]) co12 (ar1 (T rfl rfl)) (toRingS_ok (c := c) h17 (by omega) hxn) ?_)
   rintro _ w21 ⟨At18, St19, rfl, e22, hRt20⟩
   have := Below.fresh e22
   have E23 := below_ext E16 E16.size e22
   refine lw_v (.slice At18 l l) (dv_assign (T rfl rfl)) ?_
   refine lw_nil ?_
   refine rk_seq ?_
   refine rk_reg ?_
   refine lw_v (.slice At18 l l) (dv_move (T rfl rfl)) ?_
   have h24 := ((((ht.ext e4).ext e12).ext e15).ext e22)
   refine lw_e (oe_callf (vs := [.slice At18 l l]) co13 (ar1 (T rfl rfl)) (iLayerText_ok (c := l) hRt20 (by omega) hxn h24) ?_)
   rintro _ w25 ⟨rfl, e26⟩
   have := Below.fresh e26
   have E27 := below_ext E23 E23.size e26
   refine lw_v (.string (bOf (layR l N E))) (dv_assign (T rfl rfl)) ?_
   refine lw_nil ?_
   refine rk_seq ?_
   refine rk_seq ?_
   refine rk_reg ?_
   refine lw_v (.string (bOf (layR l N E))) (dv_move (T rfl rfl)) ?_
   refine lw_v (.string (bOf (layR l N E))) (dv_move (T rfl rfl)) ?_
   refine lw_v (.bool (decide ((((layR l N E)) : List Int) ≠ ((layR l N E))))) (dv_neS (L := (layR l N E)) (M := (layR l N E)) (T rfl rfl) (T rfl rfl) ((ok_layR _ _ _)) ((ok_layR _ _ _))) ?_
   refine lw_nil ?_
   by_cases hb28 : (((layR l N E)) : List Int) ≠ ((layR l N E))
   · refine rk_ct (T rfl (congrArg Value.bool (decide_eq_true hb28))) ?_
     refine rk_seq ?_
     refine rk_reg ?_
     refine lw_v (.bool false) (dv_assign C) ?_
     refine lw_nil ?_
     refine rk_ret Tryd.func4 (v := .bool false) (res1 Tryd.results4 (rv_tmp rfl rfl)) ⟨_, rfl, ?_⟩
     exact ⟨(by exfalso; first | contradiction | exact absurd rfl (by assumption) | omega), E27⟩
   · refine rk_cf (T rfl (congrArg Value.bool (decide_eq_false hb28))) ?_
     refine rk_skip ?_
     refine rk_seq ?_
     refine rk_seq ?_
     refine rk_reg ?_
     refine lw_v (.slice At18 l l) (dv_move (T rfl rfl)) ?_
     refine lw_v (.slice A l c) (dv_move (T rfl rfl)) ?_
     have h29 := ((h17.ext e22).ext e26)
     refine lw_e (oe_callf (vs := [.slice A l c]) co12 (ar1 (T rfl rfl)) (toRingS_ok (c := c) h29 (by omega) hxn) ?_)
     rintro _ w33 ⟨At30, St31, rfl, e34, hRt32⟩
     have := Below.fresh e34
     have E35 := below_ext E27 E27.size e34
     have h36 := ((hRt20.ext e26).ext e34)
     refine lw_e (oe_callf (vs := [.slice At18 l l, .slice At30 l l]) co7 (ar2 (T rfl rfl) (T rfl rfl)) (eqRingS_ok (c := l) (d := l) h36 (by omega) hxn hRt32) ?_)
     rintro _ w37 ⟨rfl, e38⟩
     have := Below.fresh e38
     have E39 := below_ext E35 E35.size e38
     refine lw_v (.bool false) (dv_not (b := true) (T rfl rfl)) ?_
     refine lw_nil ?_
     refine rk_cf (T rfl rfl) ?_
     refine rk_skip ?_
     refine rk_seq ?_
     refine rk_reg ?_
     refine lw_v (.bool true) (dv_assign C) ?_
     refine lw_nil ?_
     refine rk_ret Tryd.func4 (v := .bool true) (res1 Tryd.results4 (rv_tmp rfl rfl)) ⟨_, rfl, ?_⟩
     exact ⟨rfl, E39⟩
end Go.Proofs.YtmbpomcbdopgnaaDoor.W
