/- Walks and plain mathematics, packed by a program of this session: declarations that the rows reach. -/
import Derived.Test.YtmbpomcbdopgnaaDoorPrc
set_option linter.unusedVariables false
set_option linter.unusedSimpArgs false
namespace Go.Proofs.YtmbpomcbdopgnaaDoor.W
open Go Go.RowKit Go.Proofs.YtmbpomcbdopgnaaDoor.Fw
attribute [local irreducible] RunK LW AW DV OE Ct
theorem co22 : callOk Tryd.prog 22 = true := by kernel_rfl
theorem co23 : callOk Tryd.prog 23 = true := by kernel_rfl
theorem co25 : callOk Tryd.prog 25 = true := by kernel_rfl
theorem co26 : callOk Tryd.prog 26 = true := by kernel_rfl
theorem co27 : callOk Tryd.prog 27 = true := by kernel_rfl
theorem co28 : callOk Tryd.prog 28 = true := by kernel_rfl
theorem in9 : (Tryd.prog.info? 9).map (fun i => (i.zero, i.size, i.bytes)) = some (some (.string ⟨#[]⟩), 1, 16) := by kernel_rfl
theorem sz9 : sizeB Tryd.prog 9 = some 1 := by kernel_rfl
theorem us33 : Tryd.prog.underlying 33 = some (.slice 9) := by kernel_rfl
theorem zc9 : zcB Tryd.prog 9 = some [.string ⟨#[]⟩] := by kernel_rfl
set_option maxHeartbeats 4000000 in
theorem iLayerText_ok {w : World} {A : Option Addr} {l c : Nat} {N : Nat → Nat} {E : Nat → List Int} {SL : SlF} {lo hi : Nat} (hx : RR w lo hi A l N E SL) (hxb : l ≤ 1048576) (hxn : ∀ i, i < l → N i ≤ 1048576) (ht : TB w) : Ct Tryd.prog 13 [.slice A l c] w fun v w1 => v = .string (bOf (layR l N E)) ∧ Ext w w1 := by
 refine ct_run (n := 66) Tryd.func13 rfl Tryd.ntmps13 rfl ?_
 have E0 : Below w.heap.size w w := Below.refl _ _
 have hhi := hx.lh
 refine rk_seq ?_
 refine rk_reg ?_
 refine lw_v (.string (bOf [])) (dv_assign C) ?_
 refine lw_nil ?_
 refine rk_seq ?_
 refine rk_seq ?_
 refine rk_reg ?_
 refine lw_v (.slice A l c) (dv_move (T rfl rfl)) ?_
 refine lw_v (.int .i64 ((l : Int))) (dv_len (ad := A) (l := l) (c := c) us22 (T rfl rfl)) ?_
 refine lw_v (.bool (decide (6 < ((l : Int))))) (dv_gtr (a := (l : Int)) (b := 6) (T rfl rfl) C) ?_
 refine lw_v (.bool (decide (6 < ((l : Int))))) (dv_move (T rfl rfl)) ?_
 by_cases hb1 : 6 < ((l : Int))
 · refine lw_no (d := 12) rfl rfl (congrArg Value.bool (decide_eq_true hb1)) ?_
   refine lw_no (d := 12) rfl rfl (congrArg Value.bool (decide_eq_true hb1)) ?_
   refine lw_no (d := 12) rfl rfl (congrArg Value.bool (decide_eq_true hb1)) ?_
   refine lw_v (.bool true) (dv_pick_t (T rfl (congrArg Value.bool (decide_eq_true hb1))) C) ?_
   refine lw_nil ?_
   refine rk_ct (T rfl rfl) ?_
   refine rk_seq ?_
   refine rk_reg ?_
   refine lw_v (.string (bOf [])) (dv_assign C) ?_
   refine lw_nil ?_
   refine rk_ret Tryd.func13 (v := .string (bOf [])) (res1 Tryd.results13 (rv_tmp rfl rfl)) ⟨_, rfl, ?_⟩
   have hl0 : l ≠ 0 := by first | omega | exact tot_ne (by omega)
   have hS : ¬ layS l N E := fun hh => by have h1_ := hh.1; have h2_ := hh.2.1; omega
   exact ⟨congrArg (fun l_ => Value.string (bOf l_)) (by rw [layR_f hl0 hS]), E0⟩
 · refine lw_vy (.slice A l c) (d := 12) rfl rfl (congrArg Value.bool (decide_eq_false hb1)) (dv_move (T rfl rfl)) ?_
   have := tot_bd hxn (Nat.le_refl l)
   refine lw_ey (d := 12) rfl rfl (congrArg Value.bool (decide_eq_false hb1)) (oe_callf (vs := [.slice A l c]) co25 (ar1 (T rfl rfl)) (spotsIn_ok (c := c) hx (by omega) hxn) ?_)
   rintro _ w2 ⟨rfl, e3⟩
   have := Below.fresh e3
   have E4 := below_ext E0 E0.size e3
   refine lw_vy (.bool (decide (20 < ((tot N l : Int))))) (d := 12) rfl rfl (congrArg Value.bool (decide_eq_false hb1)) (dv_gtr (a := (tot N l : Int)) (b := 20) (T rfl rfl) C) ?_
   refine lw_v (.bool (decide (20 < ((tot N l : Int))))) (dv_pick_f (T rfl (congrArg Value.bool (decide_eq_false hb1))) (T rfl rfl)) ?_
   refine lw_nil ?_
   by_cases hb5 : 20 < ((tot N l : Int))
   · refine rk_ct (T rfl (congrArg Value.bool (decide_eq_true hb5))) ?_
     refine rk_seq ?_
     refine rk_reg ?_
     refine lw_v (.string (bOf [])) (dv_assign C) ?_
     refine lw_nil ?_
     refine rk_ret Tryd.func13 (v := .string (bOf [])) (res1 Tryd.results13 (rv_tmp rfl rfl)) ⟨_, rfl, ?_⟩
     have hl0 : l ≠ 0 := by first | omega | exact tot_ne (by omega)
     have hS : ¬ layS l N E := fun hh => by have h1_ := hh.1; have h2_ := hh.2.1; omega
     exact ⟨congrArg (fun l_ => Value.string (bOf l_)) (by rw [layR_f hl0 hS]), E4⟩
   · refine rk_cf (T rfl (congrArg Value.bool (decide_eq_false hb5))) ?_
     refine rk_skip ?_
     refine rk_seq ?_
     refine rk_seq ?_
     refine rk_reg ?_
     refine lw_v (.slice A l c) (dv_move (T rfl rfl)) ?_
     refine lw_v (.int .i64 ((l : Int))) (dv_len (ad := A) (l := l) (c := c) us22 (T rfl rfl)) ?_
     refine lw_v (.bool (decide (((l : Int)) = 0))) (dv_eql (a := (l : Int)) (b := 0) (T rfl rfl) C) ?_
     refine lw_nil ?_
     by_cases hb6 : ((l : Int)) = 0
     · refine rk_ct (T rfl (congrArg Value.bool (decide_eq_true hb6))) ?_
       refine rk_seq ?_
       refine rk_reg ?_
       refine lw_v (.string (bOf [110, 111, 110, 101])) (dv_assign C) ?_
       refine lw_nil ?_
       refine rk_ret Tryd.func13 (v := .string (bOf [110, 111, 110, 101])) (res1 Tryd.results13 (rv_tmp rfl rfl)) ⟨_, rfl, ?_⟩
       exact ⟨congrArg (fun l_ => Value.string (bOf l_)) (by rw [layR_0 (by omega)]), E4⟩
     · refine rk_cf (T rfl (congrArg Value.bool (decide_eq_false hb6))) ?_
       refine rk_skip ?_
       refine rk_seq ?_
       refine rk_reg ?_
       refine lw_e (oe_buildSlice0 us33 sz9 ?_)
       intro b7 w8 n9
       have N11 : w.heap.size ≤ b7 := n9.eq ▸ E4.size
       have := n9.eq
       have := Below.fresh n9.ext
       have E12 := below_ext E4 E4.size n9.ext
       have hO10 := Ors.made n9
       refine lw_v (.slice (some ⟨b7, 0, none⟩) (([] : List (List Int)).length) 0) (dv_assign (T rfl rfl)) ?_
       refine lw_nil ?_
       refine rk_seq ?_
       refine rk_seq ?_
       refine rk_reg ?_
       refine lw_v (.slice A l c) (dv_move (T rfl rfl)) ?_
       refine lw_v (.int .i64 ((l : Int))) (dv_len (ad := A) (l := l) (c := c) us22 (T rfl rfl)) ?_
       refine lw_v (.int .i64 0) (dv_move C) ?_
       refine lw_nil ?_
       refine rk_block ?_
       refine rk_loop (fun dm_ fr wl => ∃ (i : Nat) (L : List (List Int)) (A3 : Option Addr) (c3 : Nat), dm_ = l - i ∧ fr 3 = .slice A3 (L.length) c3 ∧ fr 21 = .slice A l c ∧ fr 22 = .int .i64 ((l : Int)) ∧ fr 23 = .int .i64 ((i : Int)) ∧ Below w.heap.size w wl ∧ Ors wl b7 9 A3 c3 L ∧ (i ≤ l) ∧ (L = ringsL N E i) ∧ (∀ q, q < i → 0 < N q ∧ ringS (E q) (N q))) (l - 0) ⟨0, ([] : List (List Int)), (some ⟨b7, 0, none⟩), 0, rfl, rfl, rfl, rfl, (vi (by omega)), E12, hO10, (Nat.zero_le _), rfl, (fun q hq => absurd hq (by omega))⟩ ?_
       intro d17 fr16 w13 hI14 ih15
       obtain ⟨i, L, A3, c3, hd24, f18, f19, f20, f21, E22, h23, hi_, hL, hall⟩ := hI14
       obtain ⟨As25, hAs27⟩ : ∃ q_ : Option Addr, q_ = (SL i).1 := ⟨_, rfl⟩
       obtain ⟨cs26, hcs28⟩ : ∃ q_ : Nat, q_ = (SL i).2 := ⟨_, rfl⟩
       have hel := fun h_ : i < l => RR.len hx (i := i) h_; have hnn := fun h_ : i < l => hxn i h_
       have hLl : L.length = i := by rw [hL, ringsL_len]
       have htot := fun h_ : i + 1 ≤ l => tot_le (N := N) h_
       have hts : tot N (i + 1) = tot N i + N i := rfl
       refine rk_seq ?_
       refine rk_reg ?_
       refine lw_v (.bool (decide (((i : Int)) < ((l : Int))))) (dv_lss (a := (i : Int)) (b := (l : Int)) (T rfl f21) (T rfl f20)) ?_
       refine lw_nil ?_
       refine rk_seq ?_
       by_cases hb29 : ((i : Int)) < ((l : Int))
       · refine rk_ct (T rfl (congrArg Value.bool (decide_eq_true hb29))) ?_
         refine rk_skip ?_
         refine rk_seq ?_
         refine rk_block ?_
         refine rk_seq ?_
         refine rk_reg ?_
         have h32 := (hx.ext E22)
         obtain ⟨g30, o31, rfl⟩ := RR.at h32 (by first | omega | (simp; done) | (simp; omega))
         refine lw_v (.pointer (some ⟨g30, o31 + i, none⟩)) (dv_indexW (g := g30) (o := o31) (l := l) (c := c) (i := i) (j := (i : Int)) us22 sz37 (T rfl f19) (T rfl f21) (by omega) (by first | omega | (simp; done) | (simp; omega))) ?_
         refine lw_v (.agg #[.slice As25 (N i) cs26]) (dv_loadsR (l := [.slice As25 (N i) cs26]) agt37 sz37 (T rfl rfl) rfl (RR.sl1 (i := i) h32 (by first | omega | (simp; done) | (simp; omega)) hAs27 hcs28)) ?_
         refine lw_e (oe_alloc ze37 ?_)
         intro b33 w34 n35
         have N36 : w.heap.size ≤ b33 := n35.eq ▸ E22.size
         have := n35.eq; have := n35.size
         have := Below.fresh n35.ext
         have E37 := below_ext E22 E22.size n35.ext
         refine lw_e (oe_store (v := .agg #[.slice As25 (N i) cs26]) (vs := [.slice As25 (N i) cs26]) (l := [.slice As25 (N i) cs26]) (T rfl rfl) (T rfl rfl) sz37 rfl rfl rfl n35.blk rfl ?_)
         intro w38 s39 H40
         have := s39.size
         have E41 := below_st E37 N36 s39
         refine lw_nil ?_
         refine rk_seq ?_
         refine rk_reg ?_
         have h48 := ((h23.ext n35.ext).st s39 n35.blk (by decide))
         have lt47 := Ors.lt h48
         refine lw_e (oe_buildSlice0 us33 sz9 ?_)
         intro b42 w43 n44
         have N46 : w.heap.size ≤ b42 := n44.eq ▸ E41.size
         have := n44.eq
         have : b33 < b42 := n44.eq ▸ lt_of_blk H40
         have := Below.fresh n44.ext
         have E49 := below_ext E41 E41.size n44.ext
         have hO45 := Ors.made n44
         refine lw_v (.slice (some ⟨b42, 0, none⟩) (([] : List (List Int)).length) 0) (dv_assign (T rfl rfl)) ?_
         refine lw_nil ?_
         refine rk_seq ?_
         refine rk_seq ?_
         refine rk_reg ?_
         refine lw_v (.pointer (some ⟨b33, 0, none⟩)) (dv_fieldAddr (a := ⟨b33, 0, none⟩) (a' := ⟨b33, 0, none⟩) fo37_0 (T rfl rfl) rfl) ?_
         have H50 := (n44.ext.blk H40)
         refine lw_v (.slice As25 (N i) cs26) (dv_load1 (b := b33) (o := 0) agt35 (T rfl rfl) H50 rfl) ?_
         refine lw_v (.int .i64 ((N i : Int))) (dv_len (ad := As25) (l := N i) (c := cs26) us35 (T rfl rfl)) ?_
         refine lw_v (.int .i64 0) (dv_move C) ?_
         refine lw_nil ?_
         refine rk_block ?_
         have h51 := (h48.ext n44.ext)
         refine rk_loop (fun dm_ fr wl => ∃ (k : Nat) (M : List (List Int)) (A6 : Option Addr) (c6 : Nat), dm_ = N i - k ∧ fr 3 = .slice A3 (L.length) c3 ∧ fr 5 = .pointer (some ⟨b33, 0, none⟩) ∧ fr 6 = .slice A6 (M.length) c6 ∧ fr 21 = .slice (some ⟨g30, o31, none⟩) l c ∧ fr 22 = .int .i64 ((l : Int)) ∧ fr 23 = .int .i64 ((i : Int)) ∧ fr 24 = .bool (decide (((i : Int)) < ((l : Int)))) ∧ fr 25 = .pointer (some ⟨g30, o31 + i, none⟩) ∧ fr 26 = .agg #[.slice As25 (N i) cs26] ∧ fr 27 = .slice (some ⟨b42, 0, none⟩) (([] : List (List Int)).length) 0 ∧ fr 28 = .pointer (some ⟨b33, 0, none⟩) ∧ fr 29 = .slice As25 (N i) cs26 ∧ fr 30 = .int .i64 ((N i : Int)) ∧ fr 31 = .int .i64 ((k : Int)) ∧ Below w.heap.size w wl ∧ wl.heap[b33]? = some (.cells #[.slice As25 (N i) cs26] 37) ∧ Ors wl b7 9 A3 c3 L ∧ Ors wl b42 9 A6 c6 M ∧ (k ≤ N i) ∧ (M = wordL (E i) k) ∧ (∀ q, q < k → short ((E i).getD (q * 2) 0) ∧ short ((E i).getD (q * 2 + 1) 0))) (N i - 0) ⟨0, ([] : List (List Int)), (some ⟨b42, 0, none⟩), 0, rfl, f18, rfl, rfl, f19, f20, f21, rfl, rfl, rfl, rfl, rfl, rfl, rfl, (vi (by omega)), E49, H50, h51, hO45, (Nat.zero_le _), rfl, (fun q hq => absurd hq (by omega))⟩ ?_
         intro d56 fr55 w52 hI53 ih54
         obtain ⟨k, M, A6, c6, hd75, f57, f58, f59, f60, f61, f62, f63, f64, f65, f66, f67, f68, f69, f70, E71, H72, h73, h74, hk_, hM, hin⟩ := hI53
         have hMl : M.length = k * 2 := by rw [hM, wordL_len]
         refine rk_seq ?_
         refine rk_reg ?_
         refine lw_v (.bool (decide (((k : Int)) < ((N i : Int))))) (dv_lss (a := (k : Int)) (b := (N i : Int)) (T rfl f70) (T rfl f69)) ?_
         refine lw_nil ?_
         refine rk_seq ?_
         by_cases hb76 : ((k : Int)) < ((N i : Int))
         · refine rk_ct (T rfl (congrArg Value.bool (decide_eq_true hb76))) ?_
           refine rk_skip ?_
           refine rk_seq ?_
           refine rk_block ?_
           refine rk_seq ?_
           refine rk_reg ?_
           have h77 := (hx.ext E71)
           obtain ⟨g78, o79, rfl⟩ := RdI.at (RR.rd (i := i) h77 (by first | omega | (simp; done) | (simp; omega)) hAs27) (by first | omega | (simp; done) | (simp; omega))
           refine lw_v (.pointer (some ⟨g78, o79 + k * 2, none⟩)) (dv_indexM (g := g78) (o := o79) (l := N i) (c := cs26) (i := k) (j := (k : Int)) (m := 2) us35 sz41 (T rfl f68) (T rfl f70) (by omega) (by first | omega | (simp; done) | (simp; omega))) ?_
           refine lw_v (.agg #[.int .i64 ((E i).getD (k * 2) 0), .int .i64 ((E i).getD (k * 2 + 1) 0)]) (dv_loadsI (i := k * 2) (m := 2) (k := .i64) (L := E i) (l := [.int .i64 ((E i).getD (k * 2) 0), .int .i64 ((E i).getD (k * 2 + 1) 0)]) agt41 sz41 (T rfl rfl) (RR.rd (i := i) h77 (by first | omega | (simp; done) | (simp; omega)) hAs27) (by first | omega | (simp; done) | (simp; omega)) rfl) ?_
           refine lw_e (oe_alloc ze41 ?_)
           intro b80 w81 n82
           have N83 : w.heap.size ≤ b80 := n82.eq ▸ E71.size
           have : b33 < b80 := n82.eq ▸ lt_of_blk H72
           have := n82.eq; have := n82.size
           have := Below.fresh n82.ext
           have E84 := below_ext E71 E71.size n82.ext
           refine lw_e (oe_store (v := .agg #[.int .i64 ((E i).getD (k * 2) 0), .int .i64 ((E i).getD (k * 2 + 1) 0)]) (vs := [.int .i64 ((E i).getD (k * 2) 0), .int .i64 ((E i).getD (k * 2 + 1) 0)]) (l := [.int .i64 ((E i).getD (k * 2) 0), .int .i64 ((E i).getD (k * 2 + 1) 0)]) (T rfl rfl) (T rfl rfl) sz41 rfl rfl rfl n82.blk rfl ?_)
           intro w85 s86 H87
           have := s86.size
           have E88 := below_st E84 N83 s86
           refine lw_nil ?_
           refine rk_seq ?_
           refine rk_seq ?_
           refine rk_reg ?_
           refine lw_v (.pointer (some ⟨b80, 0, none⟩)) (dv_fieldAddr (a := ⟨b80, 0, none⟩) (a' := ⟨b80, 0, none⟩) fo41_0 (T rfl rfl) rfl) ?_
           refine lw_v (.int .i64 ((E i).getD (k * 2) 0)) (dv_load1 (b := b80) (o := 0) agt2 (T rfl rfl) H87 rfl) ?_
           refine lw_e (oe_callf (vs := [.int .i64 ((E i).getD (k * 2) 0), .int .i64 (-999999999999999), .int .i64 999999999999999]) co26 (ar3 (T rfl rfl) C C) (within_ok (n := (E i).getD (k * 2) 0) (lo := -999999999999999) (hi := 999999999999999)  ) ?_)
           rintro _ w89 ⟨rfl, e90⟩
           have := Below.fresh e90
           have E91 := below_ext E88 E88.size e90
           refine lw_v (.bool (decide (¬ ((-999999999999999 : Int) ≤ ((E i).getD (k * 2) 0) ∧ ((E i).getD (k * 2) 0) ≤ (999999999999999 : Int))))) (dv_notd (p := (-999999999999999 : Int) ≤ ((E i).getD (k * 2) 0) ∧ ((E i).getD (k * 2) 0) ≤ (999999999999999 : Int)) (T rfl rfl)) ?_
           refine lw_v (.bool (decide (¬ ((-999999999999999 : Int) ≤ ((E i).getD (k * 2) 0) ∧ ((E i).getD (k * 2) 0) ≤ (999999999999999 : Int))))) (dv_move (T rfl rfl)) ?_
           by_cases hb92 : (-999999999999999 : Int) ≤ ((E i).getD (k * 2) 0) ∧ ((E i).getD (k * 2) 0) ≤ (999999999999999 : Int)
           · have := txt_short (show short _ from hb92)
             refine lw_vy (.pointer (some ⟨b80, 1, none⟩)) (d := 39) rfl rfl (congrArg Value.bool (decide_eq_false (not_not_intro hb92))) (dv_fieldAddr (a := ⟨b80, 0, none⟩) (a' := ⟨b80, 1, none⟩) fo41_1 (T rfl rfl) rfl) ?_
             have H93 := (e90.blk H87)
             refine lw_vy (.int .i64 ((E i).getD (k * 2 + 1) 0)) (d := 39) rfl rfl (congrArg Value.bool (decide_eq_false (not_not_intro hb92))) (dv_load1 (b := b80) (o := 1) agt2 (T rfl rfl) H93 rfl) ?_
             refine lw_ey (d := 39) rfl rfl (congrArg Value.bool (decide_eq_false (not_not_intro hb92))) (oe_callf (vs := [.int .i64 ((E i).getD (k * 2 + 1) 0), .int .i64 (-999999999999999), .int .i64 999999999999999]) co26 (ar3 (T rfl rfl) C C) (within_ok (n := (E i).getD (k * 2 + 1) 0) (lo := -999999999999999) (hi := 999999999999999)  ) ?_)
             rintro _ w94 ⟨rfl, e95⟩
             have := Below.fresh e95
             have E96 := below_ext E91 E91.size e95
             refine lw_vy (.bool (decide (¬ ((-999999999999999 : Int) ≤ ((E i).getD (k * 2 + 1) 0) ∧ ((E i).getD (k * 2 + 1) 0) ≤ (999999999999999 : Int))))) (d := 39) rfl rfl (congrArg Value.bool (decide_eq_false (not_not_intro hb92))) (dv_notd (p := (-999999999999999 : Int) ≤ ((E i).getD (k * 2 + 1) 0) ∧ ((E i).getD (k * 2 + 1) 0) ≤ (999999999999999 : Int)) (T rfl rfl)) ?_
             refine lw_v (.bool (decide (¬ ((-999999999999999 : Int) ≤ ((E i).getD (k * 2 + 1) 0) ∧ ((E i).getD (k * 2 + 1) 0) ≤ (999999999999999 : Int))))) (dv_pick_f (T rfl (congrArg Value.bool (decide_eq_false (not_not_intro hb92)))) (T rfl rfl)) ?_
             refine lw_nil ?_
             by_cases hb97 : (-999999999999999 : Int) ≤ ((E i).getD (k * 2 + 1) 0) ∧ ((E i).getD (k * 2 + 1) 0) ≤ (999999999999999 : Int)
             · have := txt_short (show short _ from hb97)
               refine rk_cf (T rfl (congrArg Value.bool (decide_eq_false (not_not_intro hb97)))) ?_
               refine rk_skip ?_
               refine rk_any (fun w => w.heap[b80]? = some (.cells #[.int .i64 ((E i).getD (k * 2) 0), .int .i64 ((E i).getD (k * 2 + 1) 0)] 41)) [9] mo ?_
               intro w98 d99
               have := Below.fresh d99.ext
               have E100 := below_ext E96 E96.size d99.ext
               have H101 := (d99.ext.blk (e95.blk H93))
               refine aw_pure 0 (.slice A6 (M.length) c6) rfl (by kernel_rfl) .none H101 (fun _ => dv_move (T rfl f59)) ?_
               refine aw_pure 1 (.pointer (some ⟨b80, 0, none⟩)) rfl (by kernel_rfl) .none H101 (fun _ => dv_fieldAddr (a := ⟨b80, 0, none⟩) (a' := ⟨b80, 0, none⟩) fo41_0 (T rfl rfl) rfl) ?_
               refine aw_load 2 (.int .i64 ((E i).getD (k * 2) 0)) rfl (by kernel_rfl) .none H101 (fun _ s => dv_load1 (b := b80) (o := 0) agt2 (T rfl rfl) s rfl) ?_
               refine aw_pure 4 (.pointer (some ⟨b80, 1, none⟩)) rfl (by kernel_rfl) .none H101 (fun _ => dv_fieldAddr (a := ⟨b80, 0, none⟩) (a' := ⟨b80, 1, none⟩) fo41_1 (T rfl rfl) rfl) ?_
               refine aw_load 5 (.int .i64 ((E i).getD (k * 2 + 1) 0)) rfl (by kernel_rfl) .none H101 (fun _ s => dv_load1 (b := b80) (o := 1) agt2 (T rfl rfl) s rfl) ?_
               have h102 := ht.ext E100
               refine aw_one 3 rfl (by kernel_rfl) .none (oe_callf (vs := [.int .i64 ((E i).getD (k * 2) 0), .int .i64 10]) co27 (ar2 (T rfl rfl) C) (fmt_ok (x := (E i).getD (k * 2) 0) (by omega) (by omega) h102) ?_)
               rintro _ w103 ⟨rfl, e104⟩
               have := Below.fresh e104
               have E105 := below_ext E100 E100.size e104
               have H106 := (e104.blk H101)
               refine ⟨.inr H106, ?_⟩
               have h107 := (h102.ext e104)
               refine aw_one 6 rfl (by kernel_rfl) .none (oe_callf (vs := [.int .i64 ((E i).getD (k * 2 + 1) 0), .int .i64 10]) co27 (ar2 (T rfl rfl) C) (fmt_ok (x := (E i).getD (k * 2 + 1) 0) (by omega) (by omega) h107) ?_)
               rintro _ w108 ⟨rfl, e109⟩
               have := Below.fresh e109
               have E110 := below_ext E105 E105.size e109
               have H111 := (e109.blk H106)
               refine ⟨.inr H111, ?_⟩
               refine aw_one 7 rfl (by kernel_rfl) .none (oe_buildSlice (pv := [(0, .string (bOf (txtL ((E i).getD (k * 2) 0)))), (1, .string (bOf (txtL ((E i).getD (k * 2 + 1) 0))))]) (init := [.string ⟨#[]⟩, .string ⟨#[]⟩]) (l := [.string (bOf (txtL ((E i).getD (k * 2) 0))), .string (bOf (txtL ((E i).getD (k * 2 + 1) 0)))]) us33 sz9 rfl rfl zc9 (by kernel_rfl) ⟨rfl, (T rfl rfl), ⟨rfl, (T rfl rfl), trivial⟩⟩ rfl ?_)
               intro b112 w113 n114
               have N115 : w.heap.size ≤ b112 := n114.eq ▸ E110.size
               have : b80 < b112 := n114.eq ▸ lt_of_blk H111
               have := n114.eq; have := n114.size
               have := Below.fresh n114.ext
               have E116 := below_ext E110 E110.size n114.ext
               have H117 := (n114.ext.blk H111)
               refine ⟨.inr H117, ?_⟩
               have h118 := ((((((((h74.ext n82.ext).st s86 n82.blk (by decide)).ext e90).ext e95).ext d99.ext).ext e104).ext e109).ext n114.ext)
               refine aw_one 8 rfl (by kernel_rfl) .none (oe_appendSs (base := b42) (L := M) (Ms := [(txtL ((E i).getD (k * 2) 0)), (txtL ((E i).getD (k * 2 + 1) 0))]) (m := 2) us33 in9 (T rfl rfl) (T rfl rfl) rfl h118 n114.blk (by first | omega | (simp; done) | (simp; omega)) (by first | omega | (simp; done) | (simp; omega)) ?_)
               intro Ad119 c120 w121 hO122 x123 bt124
               have E125 := below_bl E116 N46 x123
               have H126 := (by first | exact bl_blk x123 H117 (by omega) | exact bt_blkT bt124 H117 (by decide))
               refine ⟨.inr H126, ?_⟩
               refine aw_last 9 (.slice Ad119 ((M ++ [(txtL ((E i).getD (k * 2) 0)), (txtL ((E i).getD (k * 2 + 1) 0))]).length) c120) rfl (by kernel_rfl) .none (fun _ => dv_assign (T rfl rfl)) ?_
               refine aw_done (by kernel_rfl) ?_
               refine rk_inBlock ?_
               refine rk_reg ?_
               refine lw_v (.int .i64 (((k : Int)) + 1)) (dv_add (a := (k : Int)) (b := 1) (z := ((k : Int)) + 1) (T rfl f70) C (wr_i64 (by omega) (by omega))) ?_
               refine lw_v (.int .i64 (((k : Int)) + 1)) (dv_move (T rfl rfl)) ?_
               refine lw_nil ?_
               have h127 := (((((((((h73.ext n82.ext).st s86 n82.blk (by decide)).ext e90).ext e95).ext d99.ext).ext e104).ext e109).ext n114.ext).bl x123 (fun g_ o_ h_ => by have := lt47 g_ o_ h_; omega))
               have H128 := (by first | exact bl_blk x123 (n114.ext.blk (e109.blk (e104.blk (d99.ext.blk (e95.blk (e90.blk (s86.blk (n82.ext.blk H72) (by omega)))))))) (by omega) | exact bt_blkT bt124 (n114.ext.blk (e109.blk (e104.blk (d99.ext.blk (e95.blk (e90.blk (s86.blk (n82.ext.blk H72) (by omega)))))))) (by decide))
               exact ih54 (N i - ((k + 1))) _ _ (by rw [hd75]; omega) ⟨(k + 1), (M ++ [(txtL ((E i).getD (k * 2) 0)), (txtL ((E i).getD (k * 2 + 1) 0))]), Ad119, c120, rfl, f57, f58, rfl, f60, f61, f62, f63, f64, f65, f66, f67, f68, f69, (vi (by omega)), E125, H128, h127, hO122, (by omega), (by rw [hM]; simp [wordL, List.append_assoc]), (all_step hin ⟨by assumption, by assumption⟩)⟩
             · refine rk_ct (T rfl (congrArg Value.bool (decide_eq_true hb97))) ?_
               refine rk_seq ?_
               refine rk_reg ?_
               refine lw_v (.string (bOf [])) (dv_assign C) ?_
               refine lw_nil ?_
               refine rk_ret Tryd.func13 (v := .string (bOf [])) (res1 Tryd.results13 (rv_tmp rfl rfl)) ⟨_, rfl, ?_⟩
               have hl0 : l ≠ 0 := by first | omega | exact tot_ne (by omega)
               have hS : ¬ layS l N E := fun hh => by have h_ := (hh.2.2 i (by omega)).2; first | (have h1_ := h_ k (by omega); first | exact absurd h1_.1 (by assumption) | exact absurd h1_.2 (by assumption)) | (have h1_ := (hh.2.2 i (by omega)).1; omega)
               exact ⟨congrArg (fun l_ => Value.string (bOf l_)) (by rw [layR_f hl0 hS]), E96⟩
           · refine lw_no (d := 39) rfl rfl (congrArg Value.bool (decide_eq_true hb92)) ?_
             refine lw_no (d := 39) rfl rfl (congrArg Value.bool (decide_eq_true hb92)) ?_
             refine lw_no (d := 39) rfl rfl (congrArg Value.bool (decide_eq_true hb92)) ?_
             refine lw_no (d := 39) rfl rfl (congrArg Value.bool (decide_eq_true hb92)) ?_
             refine lw_v (.bool true) (dv_pick_t (T rfl (congrArg Value.bool (decide_eq_true hb92))) C) ?_
             refine lw_nil ?_
             refine rk_ct (T rfl rfl) ?_
             refine rk_seq ?_
             refine rk_reg ?_
             refine lw_v (.string (bOf [])) (dv_assign C) ?_
             refine lw_nil ?_
             refine rk_ret Tryd.func13 (v := .string (bOf [])) (res1 Tryd.results13 (rv_tmp rfl rfl)) ⟨_, rfl, ?_⟩
             have hl0 : l ≠ 0 := by first | omega | exact tot_ne (by omega)
             have hS : ¬ layS l N E := fun hh => by have h_ := (hh.2.2 i (by omega)).2; first | (have h1_ := h_ k (by omega); first | exact absurd h1_.1 (by assumption) | exact absurd h1_.2 (by assumption)) | (have h1_ := (hh.2.2 i (by omega)).1; omega)
             exact ⟨congrArg (fun l_ => Value.string (bOf l_)) (by rw [layR_f hl0 hS]), E91⟩
         · refine rk_cf (T rfl (congrArg Value.bool (decide_eq_false hb76))) ?_
           refine rk_exit rfl ?_
           refine rk_seq ?_
           refine rk_seq ?_
           refine rk_reg ?_
           refine lw_v (.slice A6 (M.length) c6) (dv_move (T rfl f59)) ?_
           refine lw_v (.int .i64 ((M.length : Int))) (dv_len (ad := A6) (l := M.length) (c := c6) us33 (T rfl rfl)) ?_
           refine lw_v (.bool (decide (((M.length : Int)) = 0))) (dv_eql (a := (M.length : Int)) (b := 0) (T rfl rfl) C) ?_
           refine lw_nil ?_
           by_cases hb129 : ((M.length : Int)) = 0
           · refine rk_ct (T rfl (congrArg Value.bool (decide_eq_true hb129))) ?_
             refine rk_seq ?_
             refine rk_reg ?_
             refine lw_v (.string (bOf [])) (dv_assign C) ?_
             refine lw_nil ?_
             refine rk_ret Tryd.func13 (v := .string (bOf [])) (res1 Tryd.results13 (rv_tmp rfl rfl)) ⟨_, rfl, ?_⟩
             have hl0 : l ≠ 0 := by first | omega | exact tot_ne (by omega)
             have hS : ¬ layS l N E := fun hh => by have h_ := (hh.2.2 i (by omega)).2; first | (have h1_ := h_ k (by omega); first | exact absurd h1_.1 (by assumption) | exact absurd h1_.2 (by assumption)) | (have h1_ := (hh.2.2 i (by omega)).1; omega)
             exact ⟨congrArg (fun l_ => Value.string (bOf l_)) (by rw [layR_f hl0 hS]), E71⟩
           · refine rk_cf (T rfl (congrArg Value.bool (decide_eq_false hb129))) ?_
             refine rk_skip ?_
             refine rk_reg ?_
             refine lw_v (.slice A3 (L.length) c3) (dv_move (T rfl f57)) ?_
             refine lw_v (.slice A6 (M.length) c6) (dv_move (T rfl f59)) ?_
             refine lw_e (oe_callf (vs := [.slice A6 (M.length) c6, .string (bOf [32])]) co28 (ar2 (T rfl rfl) C) (join_ok h74 (by have h_ := ringT_len (k := k) hin; rw [hM]; show (ringT (E i) k).length ≤ _; omega) (by omega)) ?_)
             rintro _ w130 ⟨rfl, e131⟩
             have := Below.fresh e131
             have E132 := below_ext E71 E71.size e131
             refine lw_e (oe_buildSlice (pv := [(0, .string (bOf (joinL [32] M)))]) (init := [.string ⟨#[]⟩]) (l := [.string (bOf (joinL [32] M))]) us33 sz9 rfl rfl zc9 (by kernel_rfl) ⟨rfl, (T rfl rfl), trivial⟩ rfl ?_)
             intro b133 w134 n135
             have N136 : w.heap.size ≤ b133 := n135.eq ▸ E132.size
             have H137 := (e131.blk H72)
             have : b33 < b133 := n135.eq ▸ lt_of_blk H137
             have := n135.eq; have := n135.size
             have := Below.fresh n135.ext
             have E138 := below_ext E132 E132.size n135.ext
             have h139 := ((h73.ext e131).ext n135.ext)
             refine lw_e (oe_appendS (base := b7) (L := L) (M := (joinL [32] M)) us33 in9 (T rfl rfl) (T rfl rfl) h139 n135.blk (by first | omega | (simp; done) | (simp; omega)) (by first | omega | (simp; done) | (simp; omega)) ?_)
             intro Ad140 c141 w142 hO143 x144 bt145
             have E146 := below_bl E138 N11 x144
             refine lw_v (.slice Ad140 ((L ++ [(joinL [32] M)]).length) c141) (dv_assign (T rfl rfl)) ?_
             refine lw_nil ?_
             refine rk_inBlock ?_
             refine rk_reg ?_
             refine lw_v (.int .i64 (((i : Int)) + 1)) (dv_add (a := (i : Int)) (b := 1) (z := ((i : Int)) + 1) (T rfl f62) C (wr_i64 (by omega) (by omega))) ?_
             refine lw_v (.int .i64 (((i : Int)) + 1)) (dv_move (T rfl rfl)) ?_
             refine lw_nil ?_
             exact ih15 (l - ((i + 1))) _ _ (by rw [hd24]; omega) ⟨(i + 1), (L ++ [(joinL [32] M)]), Ad140, c141, rfl, rfl, f60, f61, (vi (by omega)), E146, hO143, (by omega), (by rw [hL, hM, show k = N i by omega]; rfl), (all_step hall ⟨by omega, fun q hq => hin q (by omega)⟩)⟩
       · refine rk_cf (T rfl (congrArg Value.bool (decide_eq_false hb29))) ?_
         refine rk_exit rfl ?_
         refine rk_seq ?_
         refine rk_reg ?_
         refine lw_v (.slice A3 (L.length) c3) (dv_move (T rfl f18)) ?_
         refine lw_e (oe_callf (vs := [.slice A3 (L.length) c3, .string (bOf [32, 47, 32])]) co28 (ar2 (T rfl rfl) C) (join_ok h23 (by have h_ := layT_len (i := i) (fun q hq => ⟨by have h1_ := tot_le (N := N) (show q + 1 ≤ l by omega); have h2_ : tot N (q + 1) = tot N q + N q := rfl; omega, (hall q hq).2⟩); rw [hL]; show (layT N E i).length ≤ _; omega) (by omega)) ?_)
         rintro _ w147 ⟨rfl, e148⟩
         have := Below.fresh e148
         have E149 := below_ext E22 E22.size e148
         refine lw_v (.string (bOf (joinL [32, 47, 32] L))) (dv_assign (T rfl rfl)) ?_
         refine lw_nil ?_
         refine rk_ret Tryd.func13 (v := .string (bOf (joinL [32, 47, 32] L))) (res1 Tryd.results13 (rv_tmp rfl rfl)) ⟨_, rfl, ?_⟩
         have hS : layS l N E := ⟨by omega, by omega, fun q hq => hall q (by omega)⟩
         exact ⟨congrArg (fun l_ => Value.string (bOf l_)) (by rw [layR_t (by omega) hS, hL, show i = l by omega]; rfl), E149⟩
set_option maxHeartbeats 4000000 in
theorem sLayerText_ok {w : World} {A : Option Addr} {l c : Nat} {N : Nat → Nat} {E : Nat → List Int} {SL : SlF} {lo hi : Nat} (hx : RR w lo hi A l N E SL) (hxb : l ≤ 1048576) (hxn : ∀ i, i < l → N i ≤ 1048576) : Ct Tryd.prog 11 [.slice A l c] w fun v w1 => v = .string (bOf (layR l N E)) ∧ Ext w w1 := by
 refine ct_run (n := 86) Tryd.func11 rfl Tryd.ntmps11 rfl ?_
 have E0 : Below w.heap.size w w := Below.refl _ _
 have hhi := hx.lh
 refine rk_seq ?_
 refine rk_reg ?_
 refine lw_v (.string (bOf [])) (dv_assign C) ?_
 refine lw_nil ?_
 refine rk_seq ?_
 refine rk_seq ?_
 refine rk_reg ?_
 refine lw_v (.slice A l c) (dv_move (T rfl rfl)) ?_
 refine lw_v (.int .i64 ((l : Int))) (dv_len (ad := A) (l := l) (c := c) us22 (T rfl rfl)) ?_
 refine lw_v (.bool (decide (((l : Int)) = 0))) (dv_eql (a := (l : Int)) (b := 0) (T rfl rfl) C) ?_
 refine lw_nil ?_
 by_cases hb1 : ((l : Int)) = 0
 · refine rk_ct (T rfl (congrArg Value.bool (decide_eq_true hb1))) ?_
   refine rk_seq ?_
   refine rk_reg ?_
   refine lw_v (.string (bOf [110, 111, 110, 101])) (dv_assign C) ?_
   refine lw_nil ?_
   refine rk_ret Tryd.func11 (v := .string (bOf [110, 111, 110, 101])) (res1 Tryd.results11 (rv_tmp rfl rfl)) ⟨_, rfl, ?_⟩
   exact ⟨congrArg (fun l_ => Value.string (bOf l_)) (by rw [layR_0 (by omega)]), E0⟩
 · refine rk_cf (T rfl (congrArg Value.bool (decide_eq_false hb1))) ?_
   refine rk_skip ?_
   refine rk_seq ?_
   refine rk_seq ?_
   refine rk_reg ?_
   refine lw_v (.slice A l c) (dv_move (T rfl rfl)) ?_
   refine lw_v (.int .i64 ((l : Int))) (dv_len (ad := A) (l := l) (c := c) us22 (T rfl rfl)) ?_
   refine lw_v (.bool (decide (6 < ((l : Int))))) (dv_gtr (a := (l : Int)) (b := 6) (T rfl rfl) C) ?_
   refine lw_nil ?_
   by_cases hb2 : 6 < ((l : Int))
   · refine rk_ct (T rfl (congrArg Value.bool (decide_eq_true hb2))) ?_
     refine rk_seq ?_
     refine rk_reg ?_
     refine lw_v (.string (bOf [])) (dv_assign C) ?_
     refine lw_nil ?_
     refine rk_ret Tryd.func11 (v := .string (bOf [])) (res1 Tryd.results11 (rv_tmp rfl rfl)) ⟨_, rfl, ?_⟩
     have hl0 : l ≠ 0 := by omega
     have hS : ¬ layS l N E := fun hh => by have h1_ := hh.1; omega
     exact ⟨congrArg (fun l_ => Value.string (bOf l_)) (by rw [layR_f hl0 hS]), E0⟩
   · refine rk_cf (T rfl (congrArg Value.bool (decide_eq_false hb2))) ?_
     refine rk_skip ?_
     refine rk_seq ?_
     refine rk_reg ?_
     refine lw_v (.string (bOf [])) (dv_assign C) ?_
     refine lw_nil ?_
     refine rk_seq ?_
     refine rk_reg ?_
     refine lw_v (.int .i64 0) (dv_assign C) ?_
     refine lw_nil ?_
     refine rk_seq ?_
     refine rk_seq ?_
     refine rk_reg ?_
     refine lw_v (.int .i64 0) (dv_assign C) ?_
     refine lw_nil ?_
     refine rk_block ?_
     refine rk_loop (fun dm_ fr wl => ∃ (i : Nat) (S0 : List Int), dm_ = l - i ∧ fr 0 = .slice A l c ∧ fr 3 = .string (bOf S0) ∧ fr 4 = .int .i64 ((tot N i : Int)) ∧ fr 5 = .int .i64 ((i : Int)) ∧ Below w.heap.size w wl ∧ (i ≤ l) ∧ (S0 = layT N E i) ∧ (∀ q, q < i → 0 < N q ∧ ringS (E q) (N q)) ∧ (tot N i ≤ 20)) (l - 0) ⟨0, [], rfl, rfl, rfl, (vi (by first | rfl | (rw [hts]; omega))), (vi (by omega)), E0, (Nat.zero_le _), rfl, (fun q hq => absurd hq (by omega)), (by show 0 ≤ 20; decide)⟩ ?_
     intro d7 fr6 w3 hI4 ih5
     obtain ⟨i, S0, hd13, f8, f9, f10, f11, E12, hi_, hS0, hall, ht20⟩ := hI4
     obtain ⟨As14, hAs16⟩ : ∃ q_ : Option Addr, q_ = (SL i).1 := ⟨_, rfl⟩
     obtain ⟨cs15, hcs17⟩ : ∃ q_ : Nat, q_ = (SL i).2 := ⟨_, rfl⟩
     have hel := fun h_ : i < l => RR.len hx (i := i) h_; have hnn := fun h_ : i < l => hxn i h_
     have htot := fun h_ : i + 1 ≤ l => tot_le (N := N) h_
     have hts : tot N (i + 1) = tot N i + N i := rfl
     have hSl := layT_len (i := i) (fun q hq => ⟨by have h1_ := tot_le (N := N) (show q + 1 ≤ i by omega); have h2_ : tot N (q + 1) = tot N q + N q := rfl; omega, (hall q hq).2⟩)
     rw [← hS0] at hSl
     refine rk_seq ?_
     refine rk_seq ?_
     refine rk_reg ?_
     refine lw_v (.int .i64 ((i : Int))) (dv_move (T rfl f11)) ?_
     refine lw_v (.slice A l c) (dv_move (T rfl f8)) ?_
     refine lw_v (.int .i64 ((l : Int))) (dv_len (ad := A) (l := l) (c := c) us22 (T rfl rfl)) ?_
     refine lw_v (.bool (decide (((i : Int)) < ((l : Int))))) (dv_lss (a := (i : Int)) (b := (l : Int)) (T rfl rfl) (T rfl rfl)) ?_
     refine lw_nil ?_
     by_cases hb18 : ((i : Int)) < ((l : Int))
     · refine rk_ct (T rfl (congrArg Value.bool (decide_eq_true hb18))) ?_
       refine rk_skip ?_
       refine rk_seq ?_
       refine rk_block ?_
       refine rk_seq ?_
       refine rk_reg ?_
       refine lw_v (.int .i64 ((tot N i : Int))) (dv_move (T rfl f10)) ?_
       refine lw_v (.slice A l c) (dv_move (T rfl f8)) ?_
       refine lw_v (.int .i64 ((i : Int))) (dv_move (T rfl f11)) ?_
       have h21 := (hx.ext E12)
       obtain ⟨g19, o20, rfl⟩ := RR.at h21 (by first | omega | (simp; done) | (simp; omega))
       refine lw_v (.pointer (some ⟨g19, o20 + i, none⟩)) (dv_indexW (g := g19) (o := o20) (l := l) (c := c) (i := i) (j := (i : Int)) us22 sz37 (T rfl rfl) (T rfl rfl) (by omega) (by first | omega | (simp; done) | (simp; omega))) ?_
       refine lw_v (.pointer (some ⟨g19, o20 + i, none⟩)) (dv_fieldW (g := g19) (o := o20) (i := i) fo37_0 (T rfl rfl)) ?_
       refine lw_v (.slice As14 (N i) cs15) (dv_load agt35 (T rfl rfl) (RR.sl (i := i) h21 (by first | omega | (simp; done) | (simp; omega)) hAs16 hcs17)) ?_
       refine lw_v (.int .i64 ((N i : Int))) (dv_len (ad := As14) (l := N i) (c := cs15) us35 (T rfl rfl)) ?_
       refine lw_v (.int .i64 (((tot N i : Int)) + ((N i : Int)))) (dv_add (a := (tot N i : Int)) (b := (N i : Int)) (z := ((tot N i : Int)) + ((N i : Int))) (T rfl rfl) (T rfl rfl) (wr_i64 (by omega) (by omega))) ?_
       refine lw_v (.int .i64 (((tot N i : Int)) + ((N i : Int)))) (dv_assign (T rfl rfl)) ?_
       refine lw_nil ?_
       refine rk_seq ?_
       refine rk_seq ?_
       refine rk_reg ?_
       refine lw_v (.slice (some ⟨g19, o20, none⟩) l c) (dv_move (T rfl f8)) ?_
       refine lw_v (.int .i64 ((i : Int))) (dv_move (T rfl f11)) ?_
       refine lw_v (.pointer (some ⟨g19, o20 + i, none⟩)) (dv_indexW (g := g19) (o := o20) (l := l) (c := c) (i := i) (j := (i : Int)) us22 sz37 (T rfl rfl) (T rfl rfl) (by omega) (by first | omega | (simp; done) | (simp; omega))) ?_
       refine lw_v (.pointer (some ⟨g19, o20 + i, none⟩)) (dv_fieldW (g := g19) (o := o20) (i := i) fo37_0 (T rfl rfl)) ?_
       refine lw_v (.slice As14 (N i) cs15) (dv_load agt35 (T rfl rfl) (RR.sl (i := i) h21 (by first | omega | (simp; done) | (simp; omega)) hAs16 hcs17)) ?_
       refine lw_v (.int .i64 ((N i : Int))) (dv_len (ad := As14) (l := N i) (c := cs15) us35 (T rfl rfl)) ?_
       refine lw_v (.bool (decide (((N i : Int)) = 0))) (dv_eql (a := (N i : Int)) (b := 0) (T rfl rfl) C) ?_
       refine lw_v (.bool (decide (((N i : Int)) = 0))) (dv_move (T rfl rfl)) ?_
       by_cases hb22 : ((N i : Int)) = 0
       · refine lw_no (d := 35) rfl rfl (congrArg Value.bool (decide_eq_true hb22)) ?_
         refine lw_no (d := 35) rfl rfl (congrArg Value.bool (decide_eq_true hb22)) ?_
         refine lw_v (.bool true) (dv_pick_t (T rfl (congrArg Value.bool (decide_eq_true hb22))) C) ?_
         refine lw_nil ?_
         refine rk_ct (T rfl rfl) ?_
         refine rk_seq ?_
         refine rk_reg ?_
         refine lw_v (.string (bOf [])) (dv_assign C) ?_
         refine lw_nil ?_
         refine rk_ret Tryd.func11 (v := .string (bOf [])) (res1 Tryd.results11 (rv_tmp rfl rfl)) ⟨_, rfl, ?_⟩
         have hl0 : l ≠ 0 := by omega
         have hS : ¬ layS l N E := fun hh => by have h0_ := hh.2.2 i (by omega); have h3_ := hh.2.1; have h4_ := htot (by omega); first | omega | (have h1_ := h0_.2 k (by omega); first | exact absurd h1_.1 (by assumption) | exact absurd h1_.2 (by assumption))
         exact ⟨congrArg (fun l_ => Value.string (bOf l_)) (by rw [layR_f hl0 hS]), E12⟩
       · refine lw_vy (.int .i64 (((tot N i : Int)) + ((N i : Int)))) (d := 35) rfl rfl (congrArg Value.bool (decide_eq_false hb22)) (dv_move (T rfl rfl)) ?_
         refine lw_vy (.bool (decide (20 < (((tot N i : Int)) + ((N i : Int)))))) (d := 35) rfl rfl (congrArg Value.bool (decide_eq_false hb22)) (dv_gtr (a := ((tot N i : Int)) + ((N i : Int))) (b := 20) (T rfl rfl) C) ?_
         refine lw_v (.bool (decide (20 < (((tot N i : Int)) + ((N i : Int)))))) (dv_pick_f (T rfl (congrArg Value.bool (decide_eq_false hb22))) (T rfl rfl)) ?_
         refine lw_nil ?_
         by_cases hb23 : 20 < (((tot N i : Int)) + ((N i : Int)))
         · refine rk_ct (T rfl (congrArg Value.bool (decide_eq_true hb23))) ?_
           refine rk_seq ?_
           refine rk_reg ?_
           refine lw_v (.string (bOf [])) (dv_assign C) ?_
           refine lw_nil ?_
           refine rk_ret Tryd.func11 (v := .string (bOf [])) (res1 Tryd.results11 (rv_tmp rfl rfl)) ⟨_, rfl, ?_⟩
           have hl0 : l ≠ 0 := by omega
           have hS : ¬ layS l N E := fun hh => by have h0_ := hh.2.2 i (by omega); have h3_ := hh.2.1; have h4_ := htot (by omega); first | omega | (have h1_ := h0_.2 k (by omega); first | exact absurd h1_.1 (by assumption) | exact absurd h1_.2 (by assumption))
           exact ⟨congrArg (fun l_ => Value.string (bOf l_)) (by rw [layR_f hl0 hS]), E12⟩
         · refine rk_cf (T rfl (congrArg Value.bool (decide_eq_false hb23))) ?_
           refine rk_skip ?_
           refine rk_seq ?_
           refine rk_seq ?_
           refine rk_reg ?_
           refine lw_v (.int .i64 ((i : Int))) (dv_move (T rfl f11)) ?_
           refine lw_v (.bool (decide (0 < ((i : Int))))) (dv_gtr (a := (i : Int)) (b := 0) (T rfl rfl) C) ?_
           refine lw_nil ?_
           by_cases hb24 : 0 < ((i : Int))
           · refine rk_ct (T rfl (congrArg Value.bool (decide_eq_true hb24))) ?_
             refine rk_reg ?_
             refine lw_v (.string (bOf S0)) (dv_move (T rfl f9)) ?_
             refine lw_v (.string (bOf (S0 ++ [32, 47]))) (dv_addS (L := S0) (M := [32, 47]) (T rfl rfl) C (by first | omega | (simp only [List.length_append, List.length_cons, List.length_nil]; omega))) ?_
             refine lw_v (.string (bOf (S0 ++ [32, 47]))) (dv_assign (T rfl rfl)) ?_
             refine lw_nil ?_
             refine rk_seq ?_
             refine rk_reg ?_
             refine lw_v (.int .i64 0) (dv_assign C) ?_
             refine lw_nil ?_
             refine rk_block ?_
             refine rk_loop (fun dm_ fr wl => ∃ (k : Nat) (S : List Int), dm_ = N i - k ∧ fr 0 = .slice (some ⟨g19, o20, none⟩) l c ∧ fr 3 = .string (bOf S) ∧ fr 4 = .int .i64 (((tot N i : Int)) + ((N i : Int))) ∧ fr 5 = .int .i64 ((i : Int)) ∧ fr 6 = .int .i64 ((k : Int)) ∧ fr 14 = .int .i64 ((i : Int)) ∧ fr 15 = .slice (some ⟨g19, o20, none⟩) l c ∧ fr 16 = .int .i64 ((l : Int)) ∧ fr 17 = .bool (decide (((i : Int)) < ((l : Int)))) ∧ fr 20 = .int .i64 ((tot N i : Int)) ∧ fr 21 = .slice (some ⟨g19, o20, none⟩) l c ∧ fr 22 = .int .i64 ((i : Int)) ∧ fr 23 = .pointer (some ⟨g19, o20 + i, none⟩) ∧ fr 24 = .pointer (some ⟨g19, o20 + i, none⟩) ∧ fr 25 = .slice As14 (N i) cs15 ∧ fr 26 = .int .i64 ((N i : Int)) ∧ fr 27 = .int .i64 (((tot N i : Int)) + ((N i : Int))) ∧ fr 28 = .slice (some ⟨g19, o20, none⟩) l c ∧ fr 29 = .int .i64 ((i : Int)) ∧ fr 30 = .pointer (some ⟨g19, o20 + i, none⟩) ∧ fr 31 = .pointer (some ⟨g19, o20 + i, none⟩) ∧ fr 32 = .slice As14 (N i) cs15 ∧ fr 33 = .int .i64 ((N i : Int)) ∧ fr 34 = .bool (decide (((N i : Int)) = 0)) ∧ fr 35 = .bool (decide (((N i : Int)) = 0)) ∧ fr 36 = .int .i64 (((tot N i : Int)) + ((N i : Int))) ∧ fr 37 = .bool (decide (20 < (((tot N i : Int)) + ((N i : Int))))) ∧ fr 38 = .bool (decide (20 < (((tot N i : Int)) + ((N i : Int))))) ∧ fr 39 = .int .i64 ((i : Int)) ∧ fr 40 = .bool (decide (0 < ((i : Int)))) ∧ fr 41 = .string (bOf S0) ∧ fr 42 = .string (bOf (S0 ++ [32, 47])) ∧ Below w.heap.size w wl ∧ (k ≤ N i) ∧ (S = specT N E i k) ∧ (∀ q, q < k → short ((E i).getD (q * 2) 0) ∧ short ((E i).getD (q * 2 + 1) 0))) (N i - 0) ⟨0, (S0 ++ [32, 47]), rfl, f8, rfl, rfl, f11, (vi (by omega)), rfl, rfl, rfl, rfl, rfl, rfl, rfl, rfl, rfl, rfl, rfl, rfl, rfl, rfl, rfl, rfl, rfl, rfl, rfl, rfl, rfl, rfl, rfl, rfl, rfl, rfl, rfl, E12, (Nat.zero_le _), (by rw [hS0]; exact (specT_s0 N E (by omega)).symm), (fun q hq => absurd hq (by omega))⟩ ?_
             intro d29 fr28 w25 hI26 ih27
             obtain ⟨k, S, hd63, f30, f31, f32, f33, f34, f35, f36, f37, f38, f39, f40, f41, f42, f43, f44, f45, f46, f47, f48, f49, f50, f51, f52, f53, f54, f55, f56, f57, f58, f59, f60, f61, E62, hk_, hSp, hin⟩ := hI26
             have hSl2 := specT_len (i := i) (k := k) (fun q hq => ⟨by have h1_ := tot_le (N := N) (show q + 1 ≤ i by omega); have h2_ : tot N (q + 1) = tot N q + N q := rfl; omega, (hall q hq).2⟩) hin
             rw [← hSp] at hSl2
             refine rk_seq ?_
             refine rk_seq ?_
             refine rk_reg ?_
             refine lw_v (.int .i64 ((k : Int))) (dv_move (T rfl f34)) ?_
             refine lw_v (.slice (some ⟨g19, o20, none⟩) l c) (dv_move (T rfl f30)) ?_
             refine lw_v (.int .i64 ((i : Int))) (dv_move (T rfl f33)) ?_
             refine lw_v (.pointer (some ⟨g19, o20 + i, none⟩)) (dv_indexW (g := g19) (o := o20) (l := l) (c := c) (i := i) (j := (i : Int)) us22 sz37 (T rfl rfl) (T rfl rfl) (by omega) (by first | omega | (simp; done) | (simp; omega))) ?_
             refine lw_v (.pointer (some ⟨g19, o20 + i, none⟩)) (dv_fieldW (g := g19) (o := o20) (i := i) fo37_0 (T rfl rfl)) ?_
             have h64 := (hx.ext E62)
             refine lw_v (.slice As14 (N i) cs15) (dv_load agt35 (T rfl rfl) (RR.sl (i := i) h64 (by first | omega | (simp; done) | (simp; omega)) hAs16 hcs17)) ?_
             refine lw_v (.int .i64 ((N i : Int))) (dv_len (ad := As14) (l := N i) (c := cs15) us35 (T rfl rfl)) ?_
             refine lw_v (.bool (decide (((k : Int)) < ((N i : Int))))) (dv_lss (a := (k : Int)) (b := (N i : Int)) (T rfl rfl) (T rfl rfl)) ?_
             refine lw_nil ?_
             by_cases hb65 : ((k : Int)) < ((N i : Int))
             · refine rk_ct (T rfl (congrArg Value.bool (decide_eq_true hb65))) ?_
               refine rk_skip ?_
               refine rk_seq ?_
               refine rk_block ?_
               refine rk_seq ?_
               refine rk_reg ?_
               refine lw_v (.slice (some ⟨g19, o20, none⟩) l c) (dv_move (T rfl f30)) ?_
               refine lw_v (.int .i64 ((i : Int))) (dv_move (T rfl f33)) ?_
               refine lw_v (.pointer (some ⟨g19, o20 + i, none⟩)) (dv_indexW (g := g19) (o := o20) (l := l) (c := c) (i := i) (j := (i : Int)) us22 sz37 (T rfl rfl) (T rfl rfl) (by omega) (by first | omega | (simp; done) | (simp; omega))) ?_
               refine lw_v (.pointer (some ⟨g19, o20 + i, none⟩)) (dv_fieldW (g := g19) (o := o20) (i := i) fo37_0 (T rfl rfl)) ?_
               refine lw_v (.slice As14 (N i) cs15) (dv_load agt35 (T rfl rfl) (RR.sl (i := i) h64 (by first | omega | (simp; done) | (simp; omega)) hAs16 hcs17)) ?_
               refine lw_v (.int .i64 ((k : Int))) (dv_move (T rfl f34)) ?_
               obtain ⟨g66, o67, rfl⟩ := RdI.at (RR.rd (i := i) h64 (by first | omega | (simp; done) | (simp; omega)) hAs16) (by first | omega | (simp; done) | (simp; omega))
               refine lw_v (.pointer (some ⟨g66, o67 + k * 2, none⟩)) (dv_indexM (g := g66) (o := o67) (l := N i) (c := cs15) (i := k) (j := (k : Int)) (m := 2) us35 sz41 (T rfl rfl) (T rfl rfl) (by omega) (by first | omega | (simp; done) | (simp; omega))) ?_
               refine lw_v (.agg #[.int .i64 ((E i).getD (k * 2) 0), .int .i64 ((E i).getD (k * 2 + 1) 0)]) (dv_loadsI (i := k * 2) (m := 2) (k := .i64) (L := E i) (l := [.int .i64 ((E i).getD (k * 2) 0), .int .i64 ((E i).getD (k * 2 + 1) 0)]) agt41 sz41 (T rfl rfl) (RR.rd (i := i) h64 (by first | omega | (simp; done) | (simp; omega)) hAs16) (by first | omega | (simp; done) | (simp; omega)) rfl) ?_
               refine lw_e (oe_alloc ze41 ?_)
               intro b68 w69 n70
               have N71 : w.heap.size ≤ b68 := n70.eq ▸ E62.size
               have := n70.eq; have := n70.size
               have := Below.fresh n70.ext
               have E72 := below_ext E62 E62.size n70.ext
               refine lw_e (oe_store (v := .agg #[.int .i64 ((E i).getD (k * 2) 0), .int .i64 ((E i).getD (k * 2 + 1) 0)]) (vs := [.int .i64 ((E i).getD (k * 2) 0), .int .i64 ((E i).getD (k * 2 + 1) 0)]) (l := [.int .i64 ((E i).getD (k * 2) 0), .int .i64 ((E i).getD (k * 2 + 1) 0)]) (T rfl rfl) (T rfl rfl) sz41 rfl rfl rfl n70.blk rfl ?_)
               intro w73 s74 H75
               have := s74.size
               have E76 := below_st E72 N71 s74
               refine lw_nil ?_
               refine rk_seq ?_
               refine rk_seq ?_
               refine rk_reg ?_
               refine lw_v (.pointer (some ⟨b68, 0, none⟩)) (dv_fieldAddr (a := ⟨b68, 0, none⟩) (a' := ⟨b68, 0, none⟩) fo41_0 (T rfl rfl) rfl) ?_
               refine lw_v (.int .i64 ((E i).getD (k * 2) 0)) (dv_load1 (b := b68) (o := 0) agt2 (T rfl rfl) H75 rfl) ?_
               refine lw_e (oe_callf (vs := [.int .i64 ((E i).getD (k * 2) 0)]) co22 (ar1 (T rfl rfl)) (l6Short_ok (x := (E i).getD (k * 2) 0)  ) ?_)
               rintro _ w77 ⟨rfl, e78⟩
               have := Below.fresh e78
               have E79 := below_ext E76 E76.size e78
               refine lw_v (.bool (decide (¬ (short ((E i).getD (k * 2) 0))))) (dv_notd (p := short ((E i).getD (k * 2) 0)) (T rfl rfl)) ?_
               refine lw_v (.bool (decide (¬ (short ((E i).getD (k * 2) 0))))) (dv_move (T rfl rfl)) ?_
               by_cases hb80 : short ((E i).getD (k * 2) 0)
               · have := txt_short hb80; have := hb80; unfold short at this
                 refine lw_vy (.pointer (some ⟨b68, 1, none⟩)) (d := 65) rfl rfl (congrArg Value.bool (decide_eq_false (not_not_intro hb80))) (dv_fieldAddr (a := ⟨b68, 0, none⟩) (a' := ⟨b68, 1, none⟩) fo41_1 (T rfl rfl) rfl) ?_
                 have H81 := (e78.blk H75)
                 refine lw_vy (.int .i64 ((E i).getD (k * 2 + 1) 0)) (d := 65) rfl rfl (congrArg Value.bool (decide_eq_false (not_not_intro hb80))) (dv_load1 (b := b68) (o := 1) agt2 (T rfl rfl) H81 rfl) ?_
                 refine lw_ey (d := 65) rfl rfl (congrArg Value.bool (decide_eq_false (not_not_intro hb80))) (oe_callf (vs := [.int .i64 ((E i).getD (k * 2 + 1) 0)]) co22 (ar1 (T rfl rfl)) (l6Short_ok (x := (E i).getD (k * 2 + 1) 0)  ) ?_)
                 rintro _ w82 ⟨rfl, e83⟩
                 have := Below.fresh e83
                 have E84 := below_ext E79 E79.size e83
                 refine lw_vy (.bool (decide (¬ (short ((E i).getD (k * 2 + 1) 0))))) (d := 65) rfl rfl (congrArg Value.bool (decide_eq_false (not_not_intro hb80))) (dv_notd (p := short ((E i).getD (k * 2 + 1) 0)) (T rfl rfl)) ?_
                 refine lw_v (.bool (decide (¬ (short ((E i).getD (k * 2 + 1) 0))))) (dv_pick_f (T rfl (congrArg Value.bool (decide_eq_false (not_not_intro hb80)))) (T rfl rfl)) ?_
                 refine lw_nil ?_
                 by_cases hb85 : short ((E i).getD (k * 2 + 1) 0)
                 · have := txt_short hb85; have := hb85; unfold short at this
                   refine rk_cf (T rfl (congrArg Value.bool (decide_eq_false (not_not_intro hb85)))) ?_
                   refine rk_skip ?_
                   refine rk_seq ?_
                   refine rk_seq ?_
                   refine rk_reg ?_
                   refine lw_v (.string (bOf S)) (dv_move (T rfl f31)) ?_
                   refine lw_v (.bool (decide ((S : List Int) ≠ ([])))) (dv_neS (L := S) (M := []) (T rfl rfl) C (((hSp ▸ ok_specT _ _ _ _))) ((okC_lit [] (by decide)))) ?_
                   refine lw_nil ?_
                   by_cases hb86 : (S : List Int) ≠ ([])
                   · refine rk_ct (T rfl (congrArg Value.bool (decide_eq_true hb86))) ?_
                     refine rk_reg ?_
                     refine lw_v (.string (bOf S)) (dv_move (T rfl f31)) ?_
                     refine lw_v (.string (bOf (S ++ [32]))) (dv_addS (L := S) (M := [32]) (T rfl rfl) C (by first | omega | (simp only [List.length_append, List.length_cons, List.length_nil]; omega))) ?_
                     refine lw_v (.string (bOf (S ++ [32]))) (dv_assign (T rfl rfl)) ?_
                     refine lw_nil ?_
                     refine rk_any (fun w => w.heap[b68]? = some (.cells #[.int .i64 ((E i).getD (k * 2) 0), .int .i64 ((E i).getD (k * 2 + 1) 0)] 41)) [10] mo ?_
                     intro w87 d88
                     have := Below.fresh d88.ext
                     have E89 := below_ext E84 E84.size d88.ext
                     have H90 := (d88.ext.blk (e83.blk H81))
                     refine aw_pure 0 (.string (bOf (S ++ [32]))) rfl (by kernel_rfl) .none H90 (fun _ => dv_move (T rfl rfl)) ?_
                     refine aw_pure 1 (.pointer (some ⟨b68, 0, none⟩)) rfl (by kernel_rfl) .none H90 (fun _ => dv_fieldAddr (a := ⟨b68, 0, none⟩) (a' := ⟨b68, 0, none⟩) fo41_0 (T rfl rfl) rfl) ?_
                     refine aw_load 2 (.int .i64 ((E i).getD (k * 2) 0)) rfl (by kernel_rfl) .none H90 (fun _ s => dv_load1 (b := b68) (o := 0) agt2 (T rfl rfl) s rfl) ?_
                     refine aw_pure 6 (.pointer (some ⟨b68, 1, none⟩)) rfl (by kernel_rfl) .none H90 (fun _ => dv_fieldAddr (a := ⟨b68, 0, none⟩) (a' := ⟨b68, 1, none⟩) fo41_1 (T rfl rfl) rfl) ?_
                     refine aw_load 7 (.int .i64 ((E i).getD (k * 2 + 1) 0)) rfl (by kernel_rfl) .none H90 (fun _ s => dv_load1 (b := b68) (o := 1) agt2 (T rfl rfl) s rfl) ?_
                     refine aw_one 3 rfl (by kernel_rfl) .none (oe_callf (vs := [.int .i64 ((E i).getD (k * 2) 0)]) co23 (ar1 (T rfl rfl)) (l6Num_ok (x := (E i).getD (k * 2) 0)  (by omega)) ?_)
                     rintro _ w91 ⟨rfl, e92⟩
                     have := Below.fresh e92
                     have E93 := below_ext E89 E89.size e92
                     have H94 := (e92.blk H90)
                     refine ⟨.inr H94, ?_⟩
                     refine aw_pure 4 (.string (bOf ((S ++ [32]) ++ (txtL ((E i).getD (k * 2) 0))))) rfl (by kernel_rfl) .none H94 (fun _ => dv_addS (L := (S ++ [32])) (M := (txtL ((E i).getD (k * 2) 0))) (T rfl rfl) (T rfl rfl) (by first | omega | (simp only [List.length_append, List.length_cons, List.length_nil]; omega))) ?_
                     refine aw_pure 5 (.string (bOf (((S ++ [32]) ++ (txtL ((E i).getD (k * 2) 0))) ++ [32]))) rfl (by kernel_rfl) .none H94 (fun _ => dv_addS (L := ((S ++ [32]) ++ (txtL ((E i).getD (k * 2) 0)))) (M := [32]) (T rfl rfl) C (by first | omega | (simp only [List.length_append, List.length_cons, List.length_nil]; omega))) ?_
                     refine aw_one 8 rfl (by kernel_rfl) .none (oe_callf (vs := [.int .i64 ((E i).getD (k * 2 + 1) 0)]) co23 (ar1 (T rfl rfl)) (l6Num_ok (x := (E i).getD (k * 2 + 1) 0)  (by omega)) ?_)
                     rintro _ w95 ⟨rfl, e96⟩
                     have := Below.fresh e96
                     have E97 := below_ext E93 E93.size e96
                     have H98 := (e96.blk H94)
                     refine ⟨.inr H98, ?_⟩
                     refine aw_pure 9 (.string (bOf ((((S ++ [32]) ++ (txtL ((E i).getD (k * 2) 0))) ++ [32]) ++ (txtL ((E i).getD (k * 2 + 1) 0))))) rfl (by kernel_rfl) .none H98 (fun _ => dv_addS (L := (((S ++ [32]) ++ (txtL ((E i).getD (k * 2) 0))) ++ [32])) (M := (txtL ((E i).getD (k * 2 + 1) 0))) (T rfl rfl) (T rfl rfl) (by first | omega | (simp only [List.length_append, List.length_cons, List.length_nil]; omega))) ?_
                     refine aw_last 10 (.string (bOf ((((S ++ [32]) ++ (txtL ((E i).getD (k * 2) 0))) ++ [32]) ++ (txtL ((E i).getD (k * 2 + 1) 0))))) rfl (by kernel_rfl) .none (fun _ => dv_assign (T rfl rfl)) ?_
                     refine aw_done (by kernel_rfl) ?_
                     refine rk_inBlock ?_
                     refine rk_reg ?_
                     refine lw_v (.int .i64 ((k : Int))) (dv_move (T rfl f34)) ?_
                     refine lw_v (.int .i64 (((k : Int)) + 1)) (dv_add (a := (k : Int)) (b := 1) (z := ((k : Int)) + 1) (T rfl rfl) C (wr_i64 (by omega) (by omega))) ?_
                     refine lw_v (.int .i64 (((k : Int)) + 1)) (dv_assign (T rfl rfl)) ?_
                     refine lw_nil ?_
                     exact ih27 (N i - ((k + 1))) _ _ (by rw [hd63]; omega) ⟨(k + 1), ((((S ++ [32]) ++ (txtL ((E i).getD (k * 2) 0))) ++ [32]) ++ (txtL ((E i).getD (k * 2 + 1) 0))), rfl, f30, rfl, f32, f33, (vi (by omega)), f35, f36, f37, f38, f39, f40, f41, f42, f43, f44, f45, f46, f47, f48, f49, f50, f51, f52, f53, f54, f55, f56, f57, f58, f59, f60, f61, E97, (by omega), (by rw [hSp]; exact specT_t (by rw [← hSp]; first | assumption | exact Decidable.not_not.1 (by assumption))), (all_step hin ⟨by assumption, by assumption⟩)⟩
                   · refine rk_cf (T rfl (congrArg Value.bool (decide_eq_false hb86))) ?_
                     refine rk_skip ?_
                     refine rk_any (fun w => w.heap[b68]? = some (.cells #[.int .i64 ((E i).getD (k * 2) 0), .int .i64 ((E i).getD (k * 2 + 1) 0)] 41)) [10] mo ?_
                     intro w99 d100
                     have := Below.fresh d100.ext
                     have E101 := below_ext E84 E84.size d100.ext
                     have H102 := (d100.ext.blk (e83.blk H81))
                     refine aw_pure 0 (.string (bOf S)) rfl (by kernel_rfl) .none H102 (fun _ => dv_move (T rfl f31)) ?_
                     refine aw_pure 1 (.pointer (some ⟨b68, 0, none⟩)) rfl (by kernel_rfl) .none H102 (fun _ => dv_fieldAddr (a := ⟨b68, 0, none⟩) (a' := ⟨b68, 0, none⟩) fo41_0 (T rfl rfl) rfl) ?_
                     refine aw_load 2 (.int .i64 ((E i).getD (k * 2) 0)) rfl (by kernel_rfl) .none H102 (fun _ s => dv_load1 (b := b68) (o := 0) agt2 (T rfl rfl) s rfl) ?_
                     refine aw_pure 6 (.pointer (some ⟨b68, 1, none⟩)) rfl (by kernel_rfl) .none H102 (fun _ => dv_fieldAddr (a := ⟨b68, 0, none⟩) (a' := ⟨b68, 1, none⟩) fo41_1 (T rfl rfl) rfl) ?_
                     refine aw_load 7 (.int .i64 ((E i).getD (k * 2 + 1) 0)) rfl (by kernel_rfl) .none H102 (fun _ s => dv_load1 (b := b68) (o := 1) agt2 (T rfl rfl) s rfl) ?_
                     refine aw_one 3 rfl (by kernel_rfl) .none (oe_callf (vs := [.int .i64 ((E i).getD (k * 2) 0)]) co23 (ar1 (T rfl rfl)) (l6Num_ok (x := (E i).getD (k * 2) 0)  (by omega)) ?_)
                     rintro _ w103 ⟨rfl, e104⟩
                     have := Below.fresh e104
                     have E105 := below_ext E101 E101.size e104
                     have H106 := (e104.blk H102)
                     refine ⟨.inr H106, ?_⟩
                     refine aw_pure 4 (.string (bOf (S ++ (txtL ((E i).getD (k * 2) 0))))) rfl (by kernel_rfl) .none H106 (fun _ => dv_addS (L := S) (M := (txtL ((E i).getD (k * 2) 0))) (T rfl rfl) (T rfl rfl) (by first | omega | (simp only [List.length_append, List.length_cons, List.length_nil]; omega))) ?_
                     refine aw_pure 5 (.string (bOf ((S ++ (txtL ((E i).getD (k * 2) 0))) ++ [32]))) rfl (by kernel_rfl) .none H106 (fun _ => dv_addS (L := (S ++ (txtL ((E i).getD (k * 2) 0)))) (M := [32]) (T rfl rfl) C (by first | omega | (simp only [List.length_append, List.length_cons, List.length_nil]; omega))) ?_
                     refine aw_one 8 rfl (by kernel_rfl) .none (oe_callf (vs := [.int .i64 ((E i).getD (k * 2 + 1) 0)]) co23 (ar1 (T rfl rfl)) (l6Num_ok (x := (E i).getD (k * 2 + 1) 0)  (by omega)) ?_)
                     rintro _ w107 ⟨rfl, e108⟩
                     have := Below.fresh e108
                     have E109 := below_ext E105 E105.size e108
                     have H110 := (e108.blk H106)
                     refine ⟨.inr H110, ?_⟩
                     refine aw_pure 9 (.string (bOf (((S ++ (txtL ((E i).getD (k * 2) 0))) ++ [32]) ++ (txtL ((E i).getD (k * 2 + 1) 0))))) rfl (by kernel_rfl) .none H110 (fun _ => dv_addS (L := ((S ++ (txtL ((E i).getD (k * 2) 0))) ++ [32])) (M := (txtL ((E i).getD (k * 2 + 1) 0))) (T rfl rfl) (T rfl rfl) (by first | omega | (simp only [List.length_append, List.length_cons, List.length_nil]; omega))) ?_
                     refine aw_last 10 (.string (bOf (((S ++ (txtL ((E i).getD (k * 2) 0))) ++ [32]) ++ (txtL ((E i).getD (k * 2 + 1) 0))))) rfl (by kernel_rfl) .none (fun _ => dv_assign (T rfl rfl)) ?_
                     refine aw_done (by kernel_rfl) ?_
                     refine rk_inBlock ?_
                     refine rk_reg ?_
                     refine lw_v (.int .i64 ((k : Int))) (dv_move (T rfl f34)) ?_
                     refine lw_v (.int .i64 (((k : Int)) + 1)) (dv_add (a := (k : Int)) (b := 1) (z := ((k : Int)) + 1) (T rfl rfl) C (wr_i64 (by omega) (by omega))) ?_
                     refine lw_v (.int .i64 (((k : Int)) + 1)) (dv_assign (T rfl rfl)) ?_
                     refine lw_nil ?_
                     exact ih27 (N i - ((k + 1))) _ _ (by rw [hd63]; omega) ⟨(k + 1), (((S ++ (txtL ((E i).getD (k * 2) 0))) ++ [32]) ++ (txtL ((E i).getD (k * 2 + 1) 0))), rfl, f30, rfl, f32, f33, (vi (by omega)), f35, f36, f37, f38, f39, f40, f41, f42, f43, f44, f45, f46, f47, f48, f49, f50, f51, f52, f53, f54, f55, f56, f57, f58, f59, f60, f61, E109, (by omega), (by rw [hSp]; exact specT_f (by rw [← hSp]; first | assumption | exact Decidable.not_not.1 (by assumption))), (all_step hin ⟨by assumption, by assumption⟩)⟩
                 · refine rk_ct (T rfl (congrArg Value.bool (decide_eq_true hb85))) ?_
                   refine rk_seq ?_
                   refine rk_reg ?_
                   refine lw_v (.string (bOf [])) (dv_assign C) ?_
                   refine lw_nil ?_
                   refine rk_ret Tryd.func11 (v := .string (bOf [])) (res1 Tryd.results11 (rv_tmp rfl rfl)) ⟨_, rfl, ?_⟩
                   have hl0 : l ≠ 0 := by omega
                   have hS : ¬ layS l N E := fun hh => by have h0_ := hh.2.2 i (by omega); have h3_ := hh.2.1; have h4_ := htot (by omega); first | omega | (have h1_ := h0_.2 k (by omega); first | exact absurd h1_.1 (by assumption) | exact absurd h1_.2 (by assumption))
                   exact ⟨congrArg (fun l_ => Value.string (bOf l_)) (by rw [layR_f hl0 hS]), E84⟩
               · refine lw_no (d := 65) rfl rfl (congrArg Value.bool (decide_eq_true hb80)) ?_
                 refine lw_no (d := 65) rfl rfl (congrArg Value.bool (decide_eq_true hb80)) ?_
                 refine lw_no (d := 65) rfl rfl (congrArg Value.bool (decide_eq_true hb80)) ?_
                 refine lw_no (d := 65) rfl rfl (congrArg Value.bool (decide_eq_true hb80)) ?_
                 refine lw_v (.bool true) (dv_pick_t (T rfl (congrArg Value.bool (decide_eq_true hb80))) C) ?_
                 refine lw_nil ?_
                 refine rk_ct (T rfl rfl) ?_
                 refine rk_seq ?_
                 refine rk_reg ?_
                 refine lw_v (.string (bOf [])) (dv_assign C) ?_
                 refine lw_nil ?_
                 refine rk_ret Tryd.func11 (v := .string (bOf [])) (res1 Tryd.results11 (rv_tmp rfl rfl)) ⟨_, rfl, ?_⟩
                 have hl0 : l ≠ 0 := by omega
                 have hS : ¬ layS l N E := fun hh => by have h0_ := hh.2.2 i (by omega); have h3_ := hh.2.1; have h4_ := htot (by omega); first | omega | (have h1_ := h0_.2 k (by omega); first | exact absurd h1_.1 (by assumption) | exact absurd h1_.2 (by assumption))
                 exact ⟨congrArg (fun l_ => Value.string (bOf l_)) (by rw [layR_f hl0 hS]), E79⟩
             · refine rk_cf (T rfl (congrArg Value.bool (decide_eq_false hb65))) ?_
               refine rk_exit rfl ?_
               refine rk_inBlock ?_
               refine rk_reg ?_
               refine lw_v (.int .i64 ((i : Int))) (dv_move (T rfl f33)) ?_
               refine lw_v (.int .i64 (((i : Int)) + 1)) (dv_add (a := (i : Int)) (b := 1) (z := ((i : Int)) + 1) (T rfl rfl) C (wr_i64 (by omega) (by omega))) ?_
               refine lw_v (.int .i64 (((i : Int)) + 1)) (dv_assign (T rfl rfl)) ?_
               refine lw_nil ?_
               exact ih5 (l - ((i + 1))) _ _ (by rw [hd13]; omega) ⟨(i + 1), S, rfl, f30, f31, (f32.trans (vi (by first | rfl | (rw [hts]; omega)))), (vi (by omega)), E62, (by omega), (by rw [hSp, show k = N i by omega]; exact specT_end N E (by omega)), (all_step hall ⟨by omega, fun q hq => hin q (by omega)⟩), (by omega)⟩
           · refine rk_cf (T rfl (congrArg Value.bool (decide_eq_false hb24))) ?_
             refine rk_skip ?_
             refine rk_seq ?_
             refine rk_reg ?_
             refine lw_v (.int .i64 0) (dv_assign C) ?_
             refine lw_nil ?_
             refine rk_block ?_
             refine rk_loop (fun dm_ fr wl => ∃ (k : Nat) (S : List Int), dm_ = N i - k ∧ fr 0 = .slice (some ⟨g19, o20, none⟩) l c ∧ fr 3 = .string (bOf S) ∧ fr 4 = .int .i64 (((tot N i : Int)) + ((N i : Int))) ∧ fr 5 = .int .i64 ((i : Int)) ∧ fr 6 = .int .i64 ((k : Int)) ∧ fr 14 = .int .i64 ((i : Int)) ∧ fr 15 = .slice (some ⟨g19, o20, none⟩) l c ∧ fr 16 = .int .i64 ((l : Int)) ∧ fr 17 = .bool (decide (((i : Int)) < ((l : Int)))) ∧ fr 20 = .int .i64 ((tot N i : Int)) ∧ fr 21 = .slice (some ⟨g19, o20, none⟩) l c ∧ fr 22 = .int .i64 ((i : Int)) ∧ fr 23 = .pointer (some ⟨g19, o20 + i, none⟩) ∧ fr 24 = .pointer (some ⟨g19, o20 + i, none⟩) ∧ fr 25 = .slice As14 (N i) cs15 ∧ fr 26 = .int .i64 ((N i : Int)) ∧ fr 27 = .int .i64 (((tot N i : Int)) + ((N i : Int))) ∧ fr 28 = .slice (some ⟨g19, o20, none⟩) l c ∧ fr 29 = .int .i64 ((i : Int)) ∧ fr 30 = .pointer (some ⟨g19, o20 + i, none⟩) ∧ fr 31 = .pointer (some ⟨g19, o20 + i, none⟩) ∧ fr 32 = .slice As14 (N i) cs15 ∧ fr 33 = .int .i64 ((N i : Int)) ∧ fr 34 = .bool (decide (((N i : Int)) = 0)) ∧ fr 35 = .bool (decide (((N i : Int)) = 0)) ∧ fr 36 = .int .i64 (((tot N i : Int)) + ((N i : Int))) ∧ fr 37 = .bool (decide (20 < (((tot N i : Int)) + ((N i : Int))))) ∧ fr 38 = .bool (decide (20 < (((tot N i : Int)) + ((N i : Int))))) ∧ fr 39 = .int .i64 ((i : Int)) ∧ fr 40 = .bool (decide (0 < ((i : Int)))) ∧ Below w.heap.size w wl ∧ (k ≤ N i) ∧ (S = specT N E i k) ∧ (∀ q, q < k → short ((E i).getD (q * 2) 0) ∧ short ((E i).getD (q * 2 + 1) 0))) (N i - 0) ⟨0, S0, rfl, f8, f9, rfl, f11, (vi (by omega)), rfl, rfl, rfl, rfl, rfl, rfl, rfl, rfl, rfl, rfl, rfl, rfl, rfl, rfl, rfl, rfl, rfl, rfl, rfl, rfl, rfl, rfl, rfl, rfl, rfl, E12, (Nat.zero_le _), (by rw [hS0, show i = 0 by omega]; rfl), (fun q hq => absurd hq (by omega))⟩ ?_
             intro d115 fr114 w111 hI112 ih113
             obtain ⟨k, S, hd147, f116, f117, f118, f119, f120, f121, f122, f123, f124, f125, f126, f127, f128, f129, f130, f131, f132, f133, f134, f135, f136, f137, f138, f139, f140, f141, f142, f143, f144, f145, E146, hk_, hSp, hin⟩ := hI112
             have hSl2 := specT_len (i := i) (k := k) (fun q hq => ⟨by have h1_ := tot_le (N := N) (show q + 1 ≤ i by omega); have h2_ : tot N (q + 1) = tot N q + N q := rfl; omega, (hall q hq).2⟩) hin
             rw [← hSp] at hSl2
             refine rk_seq ?_
             refine rk_seq ?_
             refine rk_reg ?_
             refine lw_v (.int .i64 ((k : Int))) (dv_move (T rfl f120)) ?_
             refine lw_v (.slice (some ⟨g19, o20, none⟩) l c) (dv_move (T rfl f116)) ?_
             refine lw_v (.int .i64 ((i : Int))) (dv_move (T rfl f119)) ?_
             refine lw_v (.pointer (some ⟨g19, o20 + i, none⟩)) (dv_indexW (g := g19) (o := o20) (l := l) (c := c) (i := i) (j := (i : Int)) us22 sz37 (T rfl rfl) (T rfl rfl) (by omega) (by first | omega | (simp; done) | (simp; omega))) ?_
             refine lw_v (.pointer (some ⟨g19, o20 + i, none⟩)) (dv_fieldW (g := g19) (o := o20) (i := i) fo37_0 (T rfl rfl)) ?_
             have h148 := (hx.ext E146)
             refine lw_v (.slice As14 (N i) cs15) (dv_load agt35 (T rfl rfl) (RR.sl (i := i) h148 (by first | omega | (simp; done) | (simp; omega)) hAs16 hcs17)) ?_
             refine lw_v (.int .i64 ((N i : Int))) (dv_len (ad := As14) (l := N i) (c := cs15) us35 (T rfl rfl)) ?_
             refine lw_v (.bool (decide (((k : Int)) < ((N i : Int))))) (dv_lss (a := (k : Int)) (b := (N i : Int)) (T rfl rfl) (T rfl rfl)) ?_
             refine lw_nil ?_
             by_cases hb149 : ((k : Int)) < ((N i : Int))
             · refine rk_ct (T rfl (congrArg Value.bool (decide_eq_true hb149))) ?_
               refine rk_skip ?_
               refine rk_seq ?_
               refine rk_block ?_
               refine rk_seq ?_
               refine rk_reg ?_
               refine lw_v (.slice (some ⟨g19, o20, none⟩) l c) (dv_move (T rfl f116)) ?_
               refine lw_v (.int .i64 ((i : Int))) (dv_move (T rfl f119)) ?_
               refine lw_v (.pointer (some ⟨g19, o20 + i, none⟩)) (dv_indexW (g := g19) (o := o20) (l := l) (c := c) (i := i) (j := (i : Int)) us22 sz37 (T rfl rfl) (T rfl rfl) (by omega) (by first | omega | (simp; done) | (simp; omega))) ?_
               refine lw_v (.pointer (some ⟨g19, o20 + i, none⟩)) (dv_fieldW (g := g19) (o := o20) (i := i) fo37_0 (T rfl rfl)) ?_
               refine lw_v (.slice As14 (N i) cs15) (dv_load agt35 (T rfl rfl) (RR.sl (i := i) h148 (by first | omega | (simp; done) | (simp; omega)) hAs16 hcs17)) ?_
               refine lw_v (.int .i64 ((k : Int))) (dv_move (T rfl f120)) ?_
               obtain ⟨g150, o151, rfl⟩ := RdI.at (RR.rd (i := i) h148 (by first | omega | (simp; done) | (simp; omega)) hAs16) (by first | omega | (simp; done) | (simp; omega))
               refine lw_v (.pointer (some ⟨g150, o151 + k * 2, none⟩)) (dv_indexM (g := g150) (o := o151) (l := N i) (c := cs15) (i := k) (j := (k : Int)) (m := 2) us35 sz41 (T rfl rfl) (T rfl rfl) (by omega) (by first | omega | (simp; done) | (simp; omega))) ?_
               refine lw_v (.agg #[.int .i64 ((E i).getD (k * 2) 0), .int .i64 ((E i).getD (k * 2 + 1) 0)]) (dv_loadsI (i := k * 2) (m := 2) (k := .i64) (L := E i) (l := [.int .i64 ((E i).getD (k * 2) 0), .int .i64 ((E i).getD (k * 2 + 1) 0)]) agt41 sz41 (T rfl rfl) (RR.rd (i := i) h148 (by first | omega | (simp; done) | (simp; omega)) hAs16) (by first | omega | (simp; done) | (simp; omega)) rfl) ?_
               refine lw_e (oe_alloc ze41 ?_)
               intro b152 w153 n154
               have N155 : w.heap.size ≤ b152 := n154.eq ▸ E146.size
               have := n154.eq; have := n154.size
               have := Below.fresh n154.ext
               have E156 := below_ext E146 E146.size n154.ext
               refine lw_e (oe_store (v := .agg #[.int .i64 ((E i).getD (k * 2) 0), .int .i64 ((E i).getD (k * 2 + 1) 0)]) (vs := [.int .i64 ((E i).getD (k * 2) 0), .int .i64 ((E i).getD (k * 2 + 1) 0)]) (l := [.int .i64 ((E i).getD (k * 2) 0), .int .i64 ((E i).getD (k * 2 + 1) 0)]) (T rfl rfl) (T rfl rfl) sz41 rfl rfl rfl n154.blk rfl ?_)
               intro w157 s158 H159
               have := s158.size
               have E160 := below_st E156 N155 s158
               refine lw_nil ?_
               refine rk_seq ?_
               refine rk_seq ?_
               refine rk_reg ?_
               refine lw_v (.pointer (some ⟨b152, 0, none⟩)) (dv_fieldAddr (a := ⟨b152, 0, none⟩) (a' := ⟨b152, 0, none⟩) fo41_0 (T rfl rfl) rfl) ?_
               refine lw_v (.int .i64 ((E i).getD (k * 2) 0)) (dv_load1 (b := b152) (o := 0) agt2 (T rfl rfl) H159 rfl) ?_
               refine lw_e (oe_callf (vs := [.int .i64 ((E i).getD (k * 2) 0)]) co22 (ar1 (T rfl rfl)) (l6Short_ok (x := (E i).getD (k * 2) 0)  ) ?_)
               rintro _ w161 ⟨rfl, e162⟩
               have := Below.fresh e162
               have E163 := below_ext E160 E160.size e162
               refine lw_v (.bool (decide (¬ (short ((E i).getD (k * 2) 0))))) (dv_notd (p := short ((E i).getD (k * 2) 0)) (T rfl rfl)) ?_
               refine lw_v (.bool (decide (¬ (short ((E i).getD (k * 2) 0))))) (dv_move (T rfl rfl)) ?_
               by_cases hb164 : short ((E i).getD (k * 2) 0)
               · have := txt_short hb164; have := hb164; unfold short at this
                 refine lw_vy (.pointer (some ⟨b152, 1, none⟩)) (d := 65) rfl rfl (congrArg Value.bool (decide_eq_false (not_not_intro hb164))) (dv_fieldAddr (a := ⟨b152, 0, none⟩) (a' := ⟨b152, 1, none⟩) fo41_1 (T rfl rfl) rfl) ?_
                 have H165 := (e162.blk H159)
                 refine lw_vy (.int .i64 ((E i).getD (k * 2 + 1) 0)) (d := 65) rfl rfl (congrArg Value.bool (decide_eq_false (not_not_intro hb164))) (dv_load1 (b := b152) (o := 1) agt2 (T rfl rfl) H165 rfl) ?_
                 refine lw_ey (d := 65) rfl rfl (congrArg Value.bool (decide_eq_false (not_not_intro hb164))) (oe_callf (vs := [.int .i64 ((E i).getD (k * 2 + 1) 0)]) co22 (ar1 (T rfl rfl)) (l6Short_ok (x := (E i).getD (k * 2 + 1) 0)  ) ?_)
                 rintro _ w166 ⟨rfl, e167⟩
                 have := Below.fresh e167
                 have E168 := below_ext E163 E163.size e167
                 refine lw_vy (.bool (decide (¬ (short ((E i).getD (k * 2 + 1) 0))))) (d := 65) rfl rfl (congrArg Value.bool (decide_eq_false (not_not_intro hb164))) (dv_notd (p := short ((E i).getD (k * 2 + 1) 0)) (T rfl rfl)) ?_
                 refine lw_v (.bool (decide (¬ (short ((E i).getD (k * 2 + 1) 0))))) (dv_pick_f (T rfl (congrArg Value.bool (decide_eq_false (not_not_intro hb164)))) (T rfl rfl)) ?_
                 refine lw_nil ?_
                 by_cases hb169 : short ((E i).getD (k * 2 + 1) 0)
                 · have := txt_short hb169; have := hb169; unfold short at this
                   refine rk_cf (T rfl (congrArg Value.bool (decide_eq_false (not_not_intro hb169)))) ?_
                   refine rk_skip ?_
                   refine rk_seq ?_
                   refine rk_seq ?_
                   refine rk_reg ?_
                   refine lw_v (.string (bOf S)) (dv_move (T rfl f117)) ?_
                   refine lw_v (.bool (decide ((S : List Int) ≠ ([])))) (dv_neS (L := S) (M := []) (T rfl rfl) C (((hSp ▸ ok_specT _ _ _ _))) ((okC_lit [] (by decide)))) ?_
                   refine lw_nil ?_
                   by_cases hb170 : (S : List Int) ≠ ([])
                   · refine rk_ct (T rfl (congrArg Value.bool (decide_eq_true hb170))) ?_
                     refine rk_reg ?_
                     refine lw_v (.string (bOf S)) (dv_move (T rfl f117)) ?_
                     refine lw_v (.string (bOf (S ++ [32]))) (dv_addS (L := S) (M := [32]) (T rfl rfl) C (by first | omega | (simp only [List.length_append, List.length_cons, List.length_nil]; omega))) ?_
                     refine lw_v (.string (bOf (S ++ [32]))) (dv_assign (T rfl rfl)) ?_
                     refine lw_nil ?_
                     refine rk_any (fun w => w.heap[b152]? = some (.cells #[.int .i64 ((E i).getD (k * 2) 0), .int .i64 ((E i).getD (k * 2 + 1) 0)] 41)) [10] mo ?_
                     intro w171 d172
                     have := Below.fresh d172.ext
                     have E173 := below_ext E168 E168.size d172.ext
                     have H174 := (d172.ext.blk (e167.blk H165))
                     refine aw_pure 0 (.string (bOf (S ++ [32]))) rfl (by kernel_rfl) .none H174 (fun _ => dv_move (T rfl rfl)) ?_
                     refine aw_pure 1 (.pointer (some ⟨b152, 0, none⟩)) rfl (by kernel_rfl) .none H174 (fun _ => dv_fieldAddr (a := ⟨b152, 0, none⟩) (a' := ⟨b152, 0, none⟩) fo41_0 (T rfl rfl) rfl) ?_
                     refine aw_load 2 (.int .i64 ((E i).getD (k * 2) 0)) rfl (by kernel_rfl) .none H174 (fun _ s => dv_load1 (b := b152) (o := 0) agt2 (T rfl rfl) s rfl) ?_
                     refine aw_pure 6 (.pointer (some ⟨b152, 1, none⟩)) rfl (by kernel_rfl) .none H174 (fun _ => dv_fieldAddr (a := ⟨b152, 0, none⟩) (a' := ⟨b152, 1, none⟩) fo41_1 (T rfl rfl) rfl) ?_
                     refine aw_load 7 (.int .i64 ((E i).getD (k * 2 + 1) 0)) rfl (by kernel_rfl) .none H174 (fun _ s => dv_load1 (b := b152) (o := 1) agt2 (T rfl rfl) s rfl) ?_
                     refine aw_one 3 rfl (by kernel_rfl) .none (oe_callf (vs := [.int .i64 ((E i).getD (k * 2) 0)]) co23 (ar1 (T rfl rfl)) (l6Num_ok (x := (E i).getD (k * 2) 0)  (by omega)) ?_)
                     rintro _ w175 ⟨rfl, e176⟩
                     have := Below.fresh e176
                     have E177 := below_ext E173 E173.size e176
                     have H178 := (e176.blk H174)
                     refine ⟨.inr H178, ?_⟩
                     refine aw_pure 4 (.string (bOf ((S ++ [32]) ++ (txtL ((E i).getD (k * 2) 0))))) rfl (by kernel_rfl) .none H178 (fun _ => dv_addS (L := (S ++ [32])) (M := (txtL ((E i).getD (k * 2) 0))) (T rfl rfl) (T rfl rfl) (by first | omega | (simp only [List.length_append, List.length_cons, List.length_nil]; omega))) ?_
                     refine aw_pure 5 (.string (bOf (((S ++ [32]) ++ (txtL ((E i).getD (k * 2) 0))) ++ [32]))) rfl (by kernel_rfl) .none H178 (fun _ => dv_addS (L := ((S ++ [32]) ++ (txtL ((E i).getD (k * 2) 0)))) (M := [32]) (T rfl rfl) C (by first | omega | (simp only [List.length_append, List.length_cons, List.length_nil]; omega))) ?_
                     refine aw_one 8 rfl (by kernel_rfl) .none (oe_callf (vs := [.int .i64 ((E i).getD (k * 2 + 1) 0)]) co23 (ar1 (T rfl rfl)) (l6Num_ok (x := (E i).getD (k * 2 + 1) 0)  (by omega)) ?_)
                     rintro _ w179 ⟨rfl, e180⟩
                     have := Below.fresh e180
                     have E181 := below_ext E177 E177.size e180
                     have H182 := (e180.blk H178)
                     refine ⟨.inr H182, ?_⟩
                     refine aw_pure 9 (.string (bOf ((((S ++ [32]) ++ (txtL ((E i).getD (k * 2) 0))) ++ [32]) ++ (txtL ((E i).getD (k * 2 + 1) 0))))) rfl (by kernel_rfl) .none H182 (fun _ => dv_addS (L := (((S ++ [32]) ++ (txtL ((E i).getD (k * 2) 0))) ++ [32])) (M := (txtL ((E i).getD (k * 2 + 1) 0))) (T rfl rfl) (T rfl rfl) (by first | omega | (simp only [List.length_append, List.length_cons, List.length_nil]; omega))) ?_
                     refine aw_last 10 (.string (bOf ((((S ++ [32]) ++ (txtL ((E i).getD (k * 2) 0))) ++ [32]) ++ (txtL ((E i).getD (k * 2 + 1) 0))))) rfl (by kernel_rfl) .none (fun _ => dv_assign (T rfl rfl)) ?_
                     refine aw_done (by kernel_rfl) ?_
                     refine rk_inBlock ?_
                     refine rk_reg ?_
                     refine lw_v (.int .i64 ((k : Int))) (dv_move (T rfl f120)) ?_
                     refine lw_v (.int .i64 (((k : Int)) + 1)) (dv_add (a := (k : Int)) (b := 1) (z := ((k : Int)) + 1) (T rfl rfl) C (wr_i64 (by omega) (by omega))) ?_
                     refine lw_v (.int .i64 (((k : Int)) + 1)) (dv_assign (T rfl rfl)) ?_
                     refine lw_nil ?_
                     exact ih113 (N i - ((k + 1))) _ _ (by rw [hd147]; omega) ⟨(k + 1), ((((S ++ [32]) ++ (txtL ((E i).getD (k * 2) 0))) ++ [32]) ++ (txtL ((E i).getD (k * 2 + 1) 0))), rfl, f116, rfl, f118, f119, (vi (by omega)), f121, f122, f123, f124, f125, f126, f127, f128, f129, f130, f131, f132, f133, f134, f135, f136, f137, f138, f139, f140, f141, f142, f143, f144, f145, E181, (by omega), (by rw [hSp]; exact specT_t (by rw [← hSp]; first | assumption | exact Decidable.not_not.1 (by assumption))), (all_step hin ⟨by assumption, by assumption⟩)⟩
                   · refine rk_cf (T rfl (congrArg Value.bool (decide_eq_false hb170))) ?_
                     refine rk_skip ?_
                     refine rk_any (fun w => w.heap[b152]? = some (.cells #[.int .i64 ((E i).getD (k * 2) 0), .int .i64 ((E i).getD (k * 2 + 1) 0)] 41)) [10] mo ?_
                     intro w183 d184
                     have := Below.fresh d184.ext
                     have E185 := below_ext E168 E168.size d184.ext
                     have H186 := (d184.ext.blk (e167.blk H165))
                     refine aw_pure 0 (.string (bOf S)) rfl (by kernel_rfl) .none H186 (fun _ => dv_move (T rfl f117)) ?_
                     refine aw_pure 1 (.pointer (some ⟨b152, 0, none⟩)) rfl (by kernel_rfl) .none H186 (fun _ => dv_fieldAddr (a := ⟨b152, 0, none⟩) (a' := ⟨b152, 0, none⟩) fo41_0 (T rfl rfl) rfl) ?_
                     refine aw_load 2 (.int .i64 ((E i).getD (k * 2) 0)) rfl (by kernel_rfl) .none H186 (fun _ s => dv_load1 (b := b152) (o := 0) agt2 (T rfl rfl) s rfl) ?_
                     refine aw_pure 6 (.pointer (some ⟨b152, 1, none⟩)) rfl (by kernel_rfl) .none H186 (fun _ => dv_fieldAddr (a := ⟨b152, 0, none⟩) (a' := ⟨b152, 1, none⟩) fo41_1 (T rfl rfl) rfl) ?_
                     refine aw_load 7 (.int .i64 ((E i).getD (k * 2 + 1) 0)) rfl (by kernel_rfl) .none H186 (fun _ s => dv_load1 (b := b152) (o := 1) agt2 (T rfl rfl) s rfl) ?_
                     refine aw_one 3 rfl (by kernel_rfl) .none (oe_callf (vs := [.int .i64 ((E i).getD (k * 2) 0)]) co23 (ar1 (T rfl rfl)) (l6Num_ok (x := (E i).getD (k * 2) 0)  (by omega)) ?_)
                     rintro _ w187 ⟨rfl, e188⟩
                     have := Below.fresh e188
                     have E189 := below_ext E185 E185.size e188
                     have H190 := (e188.blk H186)
                     refine ⟨.inr H190, ?_⟩
                     refine aw_pure 4 (.string (bOf (S ++ (txtL ((E i).getD (k * 2) 0))))) rfl (by kernel_rfl) .none H190 (fun _ => dv_addS (L := S) (M := (txtL ((E i).getD (k * 2) 0))) (T rfl rfl) (T rfl rfl) (by first | omega | (simp only [List.length_append, List.length_cons, List.length_nil]; omega))) ?_
                     refine aw_pure 5 (.string (bOf ((S ++ (txtL ((E i).getD (k * 2) 0))) ++ [32]))) rfl (by kernel_rfl) .none H190 (fun _ => dv_addS (L := (S ++ (txtL ((E i).getD (k * 2) 0)))) (M := [32]) (T rfl rfl) C (by first | omega | (simp only [List.length_append, List.length_cons, List.length_nil]; omega))) ?_
                     refine aw_one 8 rfl (by kernel_rfl) .none (oe_callf (vs := [.int .i64 ((E i).getD (k * 2 + 1) 0)]) co23 (ar1 (T rfl rfl)) (l6Num_ok (x := (E i).getD (k * 2 + 1) 0)  (by omega)) ?_)
                     rintro _ w191 ⟨rfl, e192⟩
                     have := Below.fresh e192
                     have E193 := below_ext E189 E189.size e192
                     have H194 := (e192.blk H190)
                     refine ⟨.inr H194, ?_⟩
                     refine aw_pure 9 (.string (bOf (((S ++ (txtL ((E i).getD (k * 2) 0))) ++ [32]) ++ (txtL ((E i).getD (k * 2 + 1) 0))))) rfl (by kernel_rfl) .none H194 (fun _ => dv_addS (L := ((S ++ (txtL ((E i).getD (k * 2) 0))) ++ [32])) (M := (txtL ((E i).getD (k * 2 + 1) 0))) (T rfl rfl) (T rfl rfl) (by first | omega | (simp only [List.length_append, List.length_cons, List.length_nil]; omega))) ?_
                     refine aw_last 10 (.string (bOf (((S ++ (txtL ((E i).getD (k * 2) 0))) ++ [32]) ++ (txtL ((E i).getD (k * 2 + 1) 0))))) rfl (by kernel_rfl) .none (fun _ => dv_assign (T rfl rfl)) ?_
                     refine aw_done (by kernel_rfl) ?_
                     refine rk_inBlock ?_
                     refine rk_reg ?_
                     refine lw_v (.int .i64 ((k : Int))) (dv_move (T rfl f120)) ?_
                     refine lw_v (.int .i64 (((k : Int)) + 1)) (dv_add (a := (k : Int)) (b := 1) (z := ((k : Int)) + 1) (T rfl rfl) C (wr_i64 (by omega) (by omega))) ?_
                     refine lw_v (.int .i64 (((k : Int)) + 1)) (dv_assign (T rfl rfl)) ?_
                     refine lw_nil ?_
                     exact ih113 (N i - ((k + 1))) _ _ (by rw [hd147]; omega) ⟨(k + 1), (((S ++ (txtL ((E i).getD (k * 2) 0))) ++ [32]) ++ (txtL ((E i).getD (k * 2 + 1) 0))), rfl, f116, rfl, f118, f119, (vi (by omega)), f121, f122, f123, f124, f125, f126, f127, f128, f129, f130, f131, f132, f133, f134, f135, f136, f137, f138, f139, f140, f141, f142, f143, f144, f145, E193, (by omega), (by rw [hSp]; exact specT_f (by rw [← hSp]; first | assumption | exact Decidable.not_not.1 (by assumption))), (all_step hin ⟨by assumption, by assumption⟩)⟩
                 · refine rk_ct (T rfl (congrArg Value.bool (decide_eq_true hb169))) ?_
                   refine rk_seq ?_
                   refine rk_reg ?_
                   refine lw_v (.string (bOf [])) (dv_assign C) ?_
                   refine lw_nil ?_
                   refine rk_ret Tryd.func11 (v := .string (bOf [])) (res1 Tryd.results11 (rv_tmp rfl rfl)) ⟨_, rfl, ?_⟩
                   have hl0 : l ≠ 0 := by omega
                   have hS : ¬ layS l N E := fun hh => by have h0_ := hh.2.2 i (by omega); have h3_ := hh.2.1; have h4_ := htot (by omega); first | omega | (have h1_ := h0_.2 k (by omega); first | exact absurd h1_.1 (by assumption) | exact absurd h1_.2 (by assumption))
                   exact ⟨congrArg (fun l_ => Value.string (bOf l_)) (by rw [layR_f hl0 hS]), E168⟩
               · refine lw_no (d := 65) rfl rfl (congrArg Value.bool (decide_eq_true hb164)) ?_
                 refine lw_no (d := 65) rfl rfl (congrArg Value.bool (decide_eq_true hb164)) ?_
                 refine lw_no (d := 65) rfl rfl (congrArg Value.bool (decide_eq_true hb164)) ?_
                 refine lw_no (d := 65) rfl rfl (congrArg Value.bool (decide_eq_true hb164)) ?_
                 refine lw_v (.bool true) (dv_pick_t (T rfl (congrArg Value.bool (decide_eq_true hb164))) C) ?_
                 refine lw_nil ?_
                 refine rk_ct (T rfl rfl) ?_
                 refine rk_seq ?_
                 refine rk_reg ?_
                 refine lw_v (.string (bOf [])) (dv_assign C) ?_
                 refine lw_nil ?_
                 refine rk_ret Tryd.func11 (v := .string (bOf [])) (res1 Tryd.results11 (rv_tmp rfl rfl)) ⟨_, rfl, ?_⟩
                 have hl0 : l ≠ 0 := by omega
                 have hS : ¬ layS l N E := fun hh => by have h0_ := hh.2.2 i (by omega); have h3_ := hh.2.1; have h4_ := htot (by omega); first | omega | (have h1_ := h0_.2 k (by omega); first | exact absurd h1_.1 (by assumption) | exact absurd h1_.2 (by assumption))
                 exact ⟨congrArg (fun l_ => Value.string (bOf l_)) (by rw [layR_f hl0 hS]), E163⟩
             · refine rk_cf (T rfl (congrArg Value.bool (decide_eq_false hb149))) ?_
               refine rk_exit rfl ?_
               refine rk_inBlock ?_
               refine rk_reg ?_
               refine lw_v (.int .i64 ((i : Int))) (dv_move (T rfl f119)) ?_
               refine lw_v (.int .i64 (((i : Int)) + 1)) (dv_add (a := (i : Int)) (b := 1) (z := ((i : Int)) + 1) (T rfl rfl) C (wr_i64 (by omega) (by omega))) ?_
               refine lw_v (.int .i64 (((i : Int)) + 1)) (dv_assign (T rfl rfl)) ?_
               refine lw_nil ?_
               exact ih5 (l - ((i + 1))) _ _ (by rw [hd13]; omega) ⟨(i + 1), S, rfl, f116, f117, (f118.trans (vi (by first | rfl | (rw [hts]; omega)))), (vi (by omega)), E146, (by omega), (by rw [hSp, show k = N i by omega]; exact specT_end N E (by omega)), (all_step hall ⟨by omega, fun q hq => hin q (by omega)⟩), (by omega)⟩
     · refine rk_cf (T rfl (congrArg Value.bool (decide_eq_false hb18))) ?_
       refine rk_exit rfl ?_
       refine rk_seq ?_
       refine rk_reg ?_
       refine lw_v (.string (bOf S0)) (dv_move (T rfl f9)) ?_
       refine lw_v (.string (bOf S0)) (dv_assign (T rfl rfl)) ?_
       refine lw_nil ?_
       refine rk_ret Tryd.func11 (v := .string (bOf S0)) (res1 Tryd.results11 (rv_tmp rfl rfl)) ⟨_, rfl, ?_⟩
       have hS : layS l N E := ⟨by omega, by rw [show l = i by omega]; exact ht20, fun q hq => hall q (by omega)⟩
       exact ⟨congrArg (fun l_ => Value.string (bOf l_)) (by rw [layR_t (by omega) hS, hS0, show i = l by omega]), E12⟩
end Go.Proofs.YtmbpomcbdopgnaaDoor.W
set_option linter.unusedVariables false
set_option linter.unusedSimpArgs false
namespace Go.Proofs.YtmbpomcbdopgnaaDoor.W
open Go Go.RowKit Go.Proofs.YtmbpomcbdopgnaaDoor.Fw
attribute [local irreducible] RunK LW AW DV OE Ct
theorem co31 : callOk Tryd.prog 31 = true := by kernel_rfl
theorem uf64 : Tryd.prog.underlying 64 = some (.interface (Tryd.prog.methodsAt 64)) := by kernel_rfl
structure Lb (w : World) : Prop where
 tb : TB w
 mx : MLn 1 w
 es : ∃ tp a, w.var? Tryd.prog "strconv.ErrSyntax" = some #[.iface tp (.pointer a)]
 er : ∃ tp a, w.var? Tryd.prog "strconv.ErrRange" = some #[.iface tp (.pointer a)]
theorem esG : Tryd.prog.globalNamed "strconv.ErrSyntax" = some 2 := by kernel_rfl
theorem erG : Tryd.prog.globalNamed "strconv.ErrRange" = some 3 := by kernel_rfl
theorem Lb.ext {w w' : World} (h : Lb w) (e : Ext w w') : Lb w' :=
 ⟨h.tb.ext e, h.mx.ext e, (let ⟨tp, a, q⟩ := h.es; ⟨tp, a, Joins.var_stays esG q e (Nat.le_refl _)⟩), (let ⟨tp, a, q⟩ := h.er; ⟨tp, a, Joins.var_stays erG q e (Nat.le_refl _)⟩)⟩
theorem split_ok {w : World} {L sep : List Int} (hl : L.length ≤ 1000000) (h1 : 1 ≤ sep.length) (hb : Lb w) : Ct Tryd.prog 16 [.string (bOf L), .string (bOf sep)] w fun v w1 => ∃ B c P, P = splB sep L ∧ v = .slice B P.length c ∧ Ext w w1 ∧ Ors w1 w.heap.size 9 B c P := by
 obtain ⟨m, hm⟩ := hb.mx
 unfold Ct
 refine Calls.mono (Tryd.strings_Split (bOf L) (bOf sep) m w (by rw [bOf_size]; omega) hm (by rw [bOf_size]; exact h1)) fun e w' ⟨he, hw⟩ => ?_
 have hn : Lib.countB (bOf L) (bOf sep) = Lib.count (u8 L) (u8 sep) := rfl
 have hv := splB_vals sep L _ hn
 have hlen : (splB sep L).length = Lib.countB (bOf L) (bOf sep) + 1 := by
  have h2 := congrArg List.length hv
  simp only [List.length_map] at h2
  rw [← h2]
  exact Lib.splitB_all (bOf sep) (by rw [bOf_size]; exact h1) 0 _ (bOf L) rfl
 have hnew := new_alloc w (.cells ((Lib.splitB (bOf sep) 0 (Lib.countB (bOf L) (bOf sep)) (bOf L)).map Value.string).toArray 9)
 rw [← hw] at hnew
 have hbd := splB_len (s := L) (sep := sep) (by intro h0; subst h0; simp at h1)
 refine ⟨_, he, some ⟨w.heap.size, 0, none⟩, (splB sep L).length, splB sep L, rfl, by rw [hlen], hnew.ext, Ors.full hnew.blk hv (by omega)⟩
theorem parse_ok {w : World} {L : List Int} (hl : L.length ≤ 1000000) (hb : Lb w) : Ct Tryd.prog 31 [.string (bOf L), .int .i64 10, .int .i64 64] w fun v w1 => ∃ n e b, v = .tuple #[.int .i64 n, e] ∧ Ext w w1 ∧ NilIf e b ∧ (b = true → Lib.parseIntB 64 (u8 L) = .ok n) ∧ (b = false → ∀ m, Lib.parseIntB 64 (u8 L) ≠ .ok m) ∧ (-9223372036854775808 ≤ n ∧ n ≤ 9223372036854775807) := by
 obtain ⟨tp, a, hs⟩ := hb.es
 obtain ⟨tq, c, hr⟩ := hb.er
 have hd : (bOf L).data.toList = u8 L := rfl
 have e63 : (2 : Int) ^ (64 - 1) = 9223372036854775808 := by decide
 unfold Ct
 cases h : Lib.parseIntB 64 (u8 L)
 · rename_i v
   have hbo := Lib.parseIntB_bounds h
   refine Calls.mono (Tryd.strconv_ParseInt_10_at64_ok (bOf L) (by rw [bOf_size]; omega) v h w) fun e w' ⟨he, hw⟩ => ⟨_, he, v, .nilIface, true, rfl, ?_, .inl ⟨rfl, rfl⟩, fun _ => rfl, fun hh => absurd hh (by decide), by simp at hbo; omega⟩
   rcases hw with rfl | ⟨t, rfl⟩
   · exact Below.refl _ _
   · exact Joins.below_bytesWorld _ _ _ _ (Nat.le_refl _)
 · refine Calls.mono (Tryd.strconv_ParseInt_10_at64_syntax_var (bOf L) (by rw [bOf_size]; omega) h tp (.pointer a) w hs) fun e w' ⟨N, he, _, _, hw⟩ => ⟨_, he, 0, _, false, rfl, hw, .inr ⟨⟨_, _, rfl⟩, rfl⟩, fun hh => absurd hh (by decide), fun _ m hm => (by cases hm), (by omega)⟩
 · refine Calls.mono (Tryd.strconv_ParseInt_10_at64_range_var (bOf L) (by rw [bOf_size]; omega) h tq (.pointer c) w hr) fun e w' ⟨N, he, _, _, hw⟩ => ⟨_, he, Lib.intSat 64 (u8 L), _, false, rfl, hw, .inr ⟨⟨_, _, rfl⟩, rfl⟩, fun hh => absurd hh (by decide), fun _ m hm => (by cases hm), (by unfold Lib.intSat; split <;> simp)⟩
set_option maxHeartbeats 1000000 in
theorem decimal_ok {w : World} {L : List Int} (hL : okW 256 L) (hl : L.length ≤ 1000000) (hb : Lb w) : Ct Tryd.prog 17 [.string (bOf L)] w fun v w1 => ∃ n, v = .tuple #[.int .i64 n, .bool (decide (decS L))] ∧ Ext w w1 ∧ (decS L → n = numD L) ∧ (-9223372036854775808 ≤ n ∧ n ≤ 9223372036854775807) := by
 refine ct_run (n := 24) Tryd.func17 rfl Tryd.ntmps17 rfl ?_
 have E0 : Below w.heap.size w w := Below.refl _ _
 refine rk_seq ?_
 refine rk_reg ?_
 refine lw_v (.int .i64 0) (dv_assign C) ?_
 refine lw_v (.bool false) (dv_assign C) ?_
 refine lw_nil ?_
 refine rk_seq ?_
 refine rk_reg ?_
 refine lw_v (.string (bOf L)) (dv_move (T rfl rfl)) ?_
 refine lw_e (oe_callf (vs := [.string (bOf L), .int .i64 10, .int .i64 64]) co31 (ar3 (T rfl rfl) C C) (parse_ok (by first | omega | (simp; done) | (simp; omega)) hb) ?_)
 rintro _ w8 ⟨n1, er2, eb3, rfl, e9, hNi4, hp15, hp26, hrg7⟩
 have E10 := below_ext E0 E0.size e9
 refine lw_v (.tuple #[.int .i64 n1, er2]) (dv_move (T rfl rfl)) ?_
 refine lw_v (.int .i64 n1) (dv_extract (vs := #[.int .i64 n1, er2]) (T rfl rfl) rfl) ?_
 refine lw_v (er2) (dv_extract (vs := #[.int .i64 n1, er2]) (T rfl rfl) rfl) ?_
 refine lw_v (.int .i64 n1) (dv_assign (T rfl rfl)) ?_
 refine lw_v (er2) (dv_assign (T rfl rfl)) ?_
 refine lw_nil ?_
 refine rk_seq ?_
 refine rk_reg ?_
 refine lw_v (.int .i64 n1) (dv_move (T rfl rfl)) ?_
 refine lw_v (er2) (dv_move (T rfl rfl)) ?_
 refine lw_v (.bool eb3) (dv_eqNil uf64 (T rfl rfl) hNi4) ?_
 refine lw_v (.bool eb3) (dv_move (T rfl rfl)) ?_
 rcases Bool.eq_false_or_eq_true (eb3) with hb11 | hb11
 · refine lw_vy (.int .i64 n1) (d := 14) rfl rfl (congrArg Value.bool hb11) (dv_move (T rfl rfl)) ?_
   refine lw_ey (d := 14) rfl rfl (congrArg Value.bool hb11) (oe_callf (vs := [.int .i64 n1, .int .i64 (-999999999999999), .int .i64 999999999999999]) co26 (ar3 (T rfl rfl) C C) (within_ok (n := n1) (lo := -999999999999999) (hi := 999999999999999)  ) ?_)
   rintro _ w12 ⟨rfl, e13⟩
   have E14 := below_ext E10 E10.size e13
   refine lw_v (.bool (decide ((-999999999999999 : Int) ≤ n1 ∧ n1 ≤ (999999999999999 : Int)))) (dv_pick_t (T rfl (congrArg Value.bool hb11)) (T rfl rfl)) ?_
   refine lw_v (.bool (decide ((-999999999999999 : Int) ≤ n1 ∧ n1 ≤ (999999999999999 : Int)))) (dv_move (T rfl rfl)) ?_
   by_cases hb15 : (-999999999999999 : Int) ≤ n1 ∧ n1 ≤ (999999999999999 : Int)
   · refine lw_vy (.int .i64 n1) (d := 18) rfl rfl (congrArg Value.bool (decide_eq_true hb15)) (dv_move (T rfl rfl)) ?_
     have h16 := ((hb.ext e9).ext e13)
     refine lw_ey (d := 18) rfl rfl (congrArg Value.bool (decide_eq_true hb15)) (oe_callf (vs := [.int .i64 n1, .int .i64 10]) co27 (ar2 (T rfl rfl) C) (fmt_ok (x := n1) (by omega) (by omega) h16.tb) ?_)
     rintro _ w17 ⟨rfl, e18⟩
     have E19 := below_ext E14 E14.size e18
     refine lw_vy (.string (bOf L)) (d := 18) rfl rfl (congrArg Value.bool (decide_eq_true hb15)) (dv_move (T rfl rfl)) ?_
     refine lw_vy (.bool (decide ((((txtL n1)) : List Int) = L))) (d := 18) rfl rfl (congrArg Value.bool (decide_eq_true hb15)) (dv_eqS (L := (txtL n1)) (M := L) (T rfl rfl) (T rfl rfl) ((okC_txt _)) ((hL))) ?_
     refine lw_v (.bool (decide ((((txtL n1)) : List Int) = L))) (dv_pick_t (T rfl (congrArg Value.bool (decide_eq_true hb15))) (T rfl rfl)) ?_
     refine lw_v (.int .i64 n1) (dv_assign (T rfl rfl)) ?_
     refine lw_v (.bool (decide ((((txtL n1)) : List Int) = L))) (dv_assign (T rfl rfl)) ?_
     refine lw_nil ?_
     refine rk_ret Tryd.func17 (v := .tuple #[.int .i64 n1, .bool (decide ((((txtL n1)) : List Int) = L))]) (res2 Tryd.results17 (rv_tmp rfl rfl) (rv_tmp rfl rfl)) ⟨_, rfl, ?_⟩
     have hdo := fun hd_ : decS L => dec_ok hp15 hp26 hd_
     exact ⟨n1, tu2 rfl (vb ⟨fun ht_ => (dec_of (by assumption) ht_).1, fun hd_ => by rw [(hdo hd_).2]; exact hd_.2⟩), E19, fun hd_ => (hdo hd_).2, by omega⟩
   · refine lw_no (d := 18) rfl rfl (congrArg Value.bool (decide_eq_false hb15)) ?_
     refine lw_no (d := 18) rfl rfl (congrArg Value.bool (decide_eq_false hb15)) ?_
     refine lw_no (d := 18) rfl rfl (congrArg Value.bool (decide_eq_false hb15)) ?_
     refine lw_no (d := 18) rfl rfl (congrArg Value.bool (decide_eq_false hb15)) ?_
     refine lw_v (.bool false) (dv_pick_f (T rfl (congrArg Value.bool (decide_eq_false hb15))) C) ?_
     refine lw_v (.int .i64 n1) (dv_assign (T rfl rfl)) ?_
     refine lw_v (.bool false) (dv_assign (T rfl rfl)) ?_
     refine lw_nil ?_
     refine rk_ret Tryd.func17 (v := .tuple #[.int .i64 n1, .bool false]) (res2 Tryd.results17 (rv_tmp rfl rfl) (rv_tmp rfl rfl)) ⟨_, rfl, ?_⟩
     have hdo := fun hd_ : decS L => dec_ok hp15 hp26 hd_
     exact ⟨n1, tu2 rfl (vf (fun hd_ => by have h_ := (hdo hd_).1; have h3_ := (hdo hd_).2; first | (exact Bool.noConfusion (h_.symm.trans (by assumption : eb3 = false))) | exact absurd (h3_ ▸ hd_.1) (by assumption))), E14, fun hd_ => (hdo hd_).2, by omega⟩
 · refine lw_no (d := 14) rfl rfl (congrArg Value.bool hb11) ?_
   refine lw_no (d := 14) rfl rfl (congrArg Value.bool hb11) ?_
   refine lw_v (.bool false) (dv_pick_f (T rfl (congrArg Value.bool hb11)) C) ?_
   refine lw_v (.bool false) (dv_move (T rfl rfl)) ?_
   refine lw_no (d := 18) rfl rfl (rfl) ?_
   refine lw_no (d := 18) rfl rfl (rfl) ?_
   refine lw_no (d := 18) rfl rfl (rfl) ?_
   refine lw_no (d := 18) rfl rfl (rfl) ?_
   refine lw_v (.bool false) (dv_pick_f (T rfl rfl) C) ?_
   refine lw_v (.int .i64 n1) (dv_assign (T rfl rfl)) ?_
   refine lw_v (.bool false) (dv_assign (T rfl rfl)) ?_
   refine lw_nil ?_
   refine rk_ret Tryd.func17 (v := .tuple #[.int .i64 n1, .bool false]) (res2 Tryd.results17 (rv_tmp rfl rfl) (rv_tmp rfl rfl)) ⟨_, rfl, ?_⟩
   have hdo := fun hd_ : decS L => dec_ok hp15 hp26 hd_
   exact ⟨n1, tu2 rfl (vf (fun hd_ => by have h_ := (hdo hd_).1; have h3_ := (hdo hd_).2; first | (exact Bool.noConfusion (h_.symm.trans (by assumption : eb3 = false))) | exact absurd (h3_ ▸ hd_.1) (by assumption))), E10, fun hd_ => (hdo hd_).2, by omega⟩
end Go.Proofs.YtmbpomcbdopgnaaDoor.W
set_option linter.unusedVariables false
set_option linter.unusedSimpArgs false
namespace Go.Proofs.YtmbpomcbdopgnaaDoor.W
open Go Go.RowKit Go.Proofs.YtmbpomcbdopgnaaDoor.Fw
attribute [local irreducible] RunK LW AW DV OE Ct
theorem agt9 : aggB Tryd.prog 9 = some false := by kernel_rfl
theorem co13 : callOk Tryd.prog 13 = true := by kernel_rfl
theorem co16 : callOk Tryd.prog 16 = true := by kernel_rfl
theorem co17 : callOk Tryd.prog 17 = true := by kernel_rfl
theorem pl37 : placesB Tryd.prog 37 = some [(0, 1)] := by kernel_rfl
theorem pl41 : placesB Tryd.prog 41 = some [(0, 1), (1, 1)] := by kernel_rfl
theorem zc37 : zcB Tryd.prog 37 = some [.slice none 0 0] := by kernel_rfl
theorem zc41 : zcB Tryd.prog 41 = some [.int .i64 0, .int .i64 0] := by kernel_rfl
set_option maxRecDepth 100000 in
set_option maxHeartbeats 8000000 in
theorem iReadLayer_ok {w : World} {L : List Int} (hL : okW 256 L) (hl : L.length ≤ 1048576) (hb : Lb w) : Ct Tryd.prog 6 [.string (bOf L)] w fun v w1 => ∃ A c SL vs, v = .tuple #[.slice A (rdN L) c, .bool (decide (rdB L))] ∧ Ext w w1 ∧ OwV w1 w.heap.size 37 A (rdN L) c vs ∧ RIn w1 w.heap.size w1.heap.size 41 (rdN L) (pcN L) (pcE L) SL ∧ ∀ i, i < rdN L → vs[i]? = some (.slice (SL i).1 (pcN L i) (SL i).2) := by
 refine ct_run (n := 81) Tryd.func6 rfl Tryd.ntmps6 rfl ?_
 have E0 : Below w.heap.size w w := Below.refl _ _
 refine rk_seq ?_
 refine rk_reg ?_
 refine lw_v (.slice none 0 0) (dv_assign C) ?_
 refine lw_v (.bool false) (dv_assign C) ?_
 refine lw_nil ?_
 refine rk_seq ?_
 refine rk_seq ?_
 refine rk_reg ?_
 refine lw_v (.string (bOf L)) (dv_move (T rfl rfl)) ?_
 refine lw_v (.int .i64 ((L.length : Int))) (dv_lenS (L := L) ut9 (T rfl rfl)) ?_
 refine lw_v (.bool (decide (2000 < ((L.length : Int))))) (dv_gtr (a := (L.length : Int)) (b := 2000) (T rfl rfl) C) ?_
 refine lw_nil ?_
 by_cases hb1 : 2000 < ((L.length : Int))
 · refine rk_ct (T rfl (congrArg Value.bool (decide_eq_true hb1))) ?_
   refine rk_seq ?_
   refine rk_reg ?_
   refine lw_v (.slice none 0 0) (dv_assign C) ?_
   refine lw_v (.bool false) (dv_assign C) ?_
   refine lw_nil ?_
   refine rk_ret Tryd.func6 (v := .tuple #[.slice none 0 0, .bool false]) (res2 Tryd.results6 (rv_tmp rfl rfl) (rv_tmp rfl rfl)) ⟨_, rfl, ?_⟩
   -- path T
   have hS : ¬ rdOK L := fun h_ => by have := h_.1; omega
   have hB : ¬ rdB L := fun h_ => h_.2.elim (fun e_ => by have := h_.1; omega) hS
   refine ⟨none, 0, fun _ => (none, 0), [], ?_⟩
   rw [rdN_f hS, show decide (rdB L) = false from decide_eq_false hB]
   exact ⟨rfl, E0, .nil E0.size, RIn.zero ⟨E0.size, Nat.le_refl _⟩, fun i_ h_ => absurd h_ (Nat.not_lt_zero _)⟩
 · refine rk_cf (T rfl (congrArg Value.bool (decide_eq_false hb1))) ?_
   refine rk_skip ?_
   refine rk_seq ?_
   refine rk_seq ?_
   refine rk_reg ?_
   refine lw_v (.string (bOf L)) (dv_move (T rfl rfl)) ?_
   refine lw_v (.bool (decide ((L : List Int) = ([110, 111, 110, 101])))) (dv_eqS (L := L) (M := [110, 111, 110, 101]) (T rfl rfl) C ((hL)) ((okC_lit [110, 111, 110, 101] (by decide)))) ?_
   refine lw_nil ?_
   by_cases hb2 : (L : List Int) = ([110, 111, 110, 101])
   · refine rk_ct (T rfl (congrArg Value.bool (decide_eq_true hb2))) ?_
     refine rk_seq ?_
     refine rk_reg ?_
     refine lw_v (.slice none 0 0) (dv_assign C) ?_
     refine lw_v (.bool true) (dv_assign C) ?_
     refine lw_nil ?_
     refine rk_ret Tryd.func6 (v := .tuple #[.slice none 0 0, .bool true]) (res2 Tryd.results6 (rv_tmp rfl rfl) (rv_tmp rfl rfl)) ⟨_, rfl, ?_⟩
     have hS : ¬ rdOK L := fun h_ => absurd (by assumption) h_.2.1
     have hB : rdB L := ⟨by omega, .inl (by assumption)⟩
     refine ⟨none, 0, fun _ => (none, 0), [], ?_⟩
     rw [rdN_f hS, show decide (rdB L) = true from decide_eq_true hB]
     exact ⟨rfl, E0, .nil E0.size, RIn.zero ⟨E0.size, Nat.le_refl _⟩, fun i_ h_ => absurd h_ (Nat.not_lt_zero _)⟩
   · refine rk_cf (T rfl (congrArg Value.bool (decide_eq_false hb2))) ?_
     refine rk_skip ?_
     refine rk_seq ?_
     refine rk_reg ?_
     refine lw_e (oe_buildSlice0 us22 sz37 ?_)
     intro b3 w4 n5
     have N8 : w.heap.size ≤ b3 := n5.eq ▸ E0.size
     have := n5.eq; have := n5.size
     have := Below.fresh n5.ext
     have E9 := below_ext E0 E0.size n5.ext
     have hV6 := OwV.made0 n5
     have hR7 : RIn w4 b3 w4.heap.size 41 0 (pcN L) (pcE L) (fun _ => (none, 0)) := RIn.zero ⟨by omega, Nat.le_refl _⟩
     refine lw_v (.slice (some ⟨b3, 0, none⟩) 0 0) (dv_assign (T rfl rfl)) ?_
     refine lw_nil ?_
     refine rk_seq ?_
     refine rk_seq ?_
     refine rk_reg ?_
     refine lw_v (.string (bOf L)) (dv_move (T rfl rfl)) ?_
     have := E9.size
     have h15 := (hb.ext n5.ext)
     refine lw_e (oe_callf (vs := [.string (bOf L), .string (bOf [32, 47, 32])]) co16 (ar2 (T rfl rfl) C) (split_ok (by first | omega | (simp only [List.length_append, List.length_cons, List.length_nil]; omega)) (by decide) h15) ?_)
     rintro _ w16 ⟨As10, cs11, Pc12, hPc13, rfl, e17, hOs14⟩
     have := Below.fresh e17
     have E18 := below_ext E9 E9.size e17
     have hPc12l := splB_len (sep := [32, 47, 32]) (s := L) (by simp)
     rw [← hPc13] at hPc12l
     refine lw_v (.int .i64 ((Pc12.length : Int))) (dv_len (ad := As10) (l := Pc12.length) (c := cs11) us33 (T rfl rfl)) ?_
     refine lw_v (.int .i64 0) (dv_move C) ?_
     refine lw_nil ?_
     refine rk_block ?_
     have h19 := (hV6.ext e17)
     have h20 := (hR7.ext e17)
     refine rk_loop (fun dm_ fr wl => ∃ (i : Nat) (A4 : Option Addr) (c4 : Nat) (S : SlF) (V : List Value), dm_ = Pc12.length - i ∧ fr 0 = .string (bOf L) ∧ fr 4 = .slice A4 i c4 ∧ fr 21 = .slice As10 (Pc12.length) cs11 ∧ fr 22 = .int .i64 ((Pc12.length : Int)) ∧ fr 23 = .int .i64 ((i : Int)) ∧ Below w.heap.size w wl ∧ Ors wl w4.heap.size 9 As10 cs11 Pc12 ∧ OwV wl b3 37 A4 i c4 V ∧ RIn wl b3 wl.heap.size 41 i (pcN L) (pcE L) S ∧ (i ≤ Pc12.length) ∧ (∀ q, q < i → rowOk L q) ∧ (∀ q, q < i → V[q]? = some (.slice (S q).1 (pcN L q) (S q).2))) (Pc12.length - 0) ⟨0, (some ⟨b3, 0, none⟩), 0, (fun _ => (none, 0)), ([] : List Value), rfl, rfl, rfl, rfl, rfl, (vi (by omega)), E18, hOs14, h19, (RIn.mono h20 h20.lh.2 (Nat.le_refl _)), (Nat.zero_le _), (fun q hq => absurd hq (by omega)), (fun q hq => absurd hq (by omega))⟩ ?_
     intro d25 fr24 w21 hI22 ih23
     obtain ⟨i, A4, c4, S, V, hd35, f26, f27, f28, f29, f30, E31, h32, h33, h34, hi_, hall, hV⟩ := hI22
     have lt36 := OwV.lt h33; have hVl := OwV.len h33
     have hpl := getD_len (fun x hx => splB_piece (sep := [32, 47, 32]) (s := L) x (by rw [hPc13] at hx; exact hx)) (P := Pc12) i
     have hNb := E31.size
     refine rk_seq ?_
     refine rk_reg ?_
     refine lw_v (.bool (decide (((i : Int)) < ((Pc12.length : Int))))) (dv_lss (a := (i : Int)) (b := (Pc12.length : Int)) (T rfl f30) (T rfl f29)) ?_
     refine lw_nil ?_
     refine rk_seq ?_
     by_cases hb37 : ((i : Int)) < ((Pc12.length : Int))
     · refine rk_ct (T rfl (congrArg Value.bool (decide_eq_true hb37))) ?_
       refine rk_skip ?_
       refine rk_seq ?_
       refine rk_block ?_
       refine rk_seq ?_
       refine rk_reg ?_
       obtain ⟨g38, o39, rfl⟩ := Ors.at h32 (by first | omega | (simp; done) | (simp; omega))
       refine lw_v (.pointer (some ⟨g38, o39 + i, none⟩)) (dv_indexW (g := g38) (o := o39) (l := Pc12.length) (c := cs11) (i := i) (j := (i : Int)) us33 sz9 (T rfl f28) (T rfl f30) (by omega) (by first | omega | (simp; done) | (simp; omega))) ?_
       refine lw_v (.string (bOf (Pc12.getD i []))) (dv_load agt9 (T rfl rfl) (Ors.cell h32 (by first | omega | (simp; done) | (simp; omega)))) ?_
       refine lw_v (.string (bOf (Pc12.getD i []))) (dv_assign (T rfl rfl)) ?_
       refine lw_nil ?_
       refine rk_seq ?_
       refine rk_reg ?_
       refine lw_v (.agg #[.slice none 0 0]) (dv_build (pv := []) (l := [.slice none 0 0]) zc37 pl37 trivial rfl) ?_
       refine lw_e (oe_alloc ze37 ?_)
       intro b40 w41 n42
       have N43 : w.heap.size ≤ b40 := n42.eq ▸ E31.size
       have := n42.eq; have := n42.size
       have := Below.fresh n42.ext
       have E44 := below_ext E31 E31.size n42.ext
       refine lw_e (oe_store (v := .agg #[.slice none 0 0]) (vs := [.slice none 0 0]) (l := [.slice none 0 0]) (T rfl rfl) (T rfl rfl) sz37 rfl rfl rfl n42.blk rfl ?_)
       intro w45 s46 H47
       have := s46.size
       have E48 := below_st E44 N43 s46
       refine lw_nil ?_
       refine rk_seq ?_
       refine rk_reg ?_
       refine lw_v (.string (bOf (Pc12.getD i []))) (dv_move (T rfl rfl)) ?_
       have := E48.size
       have h54 := hb.ext E48
       refine lw_e (oe_callf (vs := [.string (bOf (Pc12.getD i [])), .string (bOf [32])]) co16 (ar2 (T rfl rfl) C) (split_ok (by first | omega | (simp only [List.length_append, List.length_cons, List.length_nil]; omega)) (by decide) h54) ?_)
       rintro _ w55 ⟨As49, cs50, Pc51, hPc52, rfl, e56, hOs53⟩
       have := Below.fresh e56
       have E57 := below_ext E48 E48.size e56
       have hPc51l := splB_len (sep := [32]) (s := Pc12.getD i []) (by simp)
       rw [← hPc52] at hPc51l
       refine lw_v (.slice As49 (Pc51.length) cs50) (dv_assign (T rfl rfl)) ?_
       refine lw_nil ?_
       refine rk_seq ?_
       refine rk_seq ?_
       refine rk_reg ?_
       refine lw_v (.slice As49 (Pc51.length) cs50) (dv_move (T rfl rfl)) ?_
       refine lw_v (.int .i64 ((Pc51.length : Int))) (dv_len (ad := As49) (l := Pc51.length) (c := cs50) us33 (T rfl rfl)) ?_
       refine lw_v (.int .i64 (((Pc51.length : Int)) % 2)) (dv_rem (a := (Pc51.length : Int)) (b := 2) (z := ((Pc51.length : Int)) % 2) (T rfl rfl) C (by decide) (rem_c (by omega) rfl)) ?_
       refine lw_v (.bool (decide ((((Pc51.length : Int)) % 2) ≠ 0))) (dv_neq (a := ((Pc51.length : Int)) % 2) (b := 0) (T rfl rfl) C) ?_
       refine lw_nil ?_
       by_cases hb58 : (((Pc51.length : Int)) % 2) ≠ 0
       · refine rk_ct (T rfl (congrArg Value.bool (decide_eq_true hb58))) ?_
         refine rk_seq ?_
         refine rk_reg ?_
         refine lw_v (.slice none 0 0) (dv_assign C) ?_
         refine lw_v (.bool false) (dv_assign C) ?_
         refine lw_nil ?_
         refine rk_ret Tryd.func6 (v := .tuple #[.slice none 0 0, .bool false]) (res2 Tryd.results6 (rv_tmp rfl rfl) (rv_tmp rfl rfl)) ⟨_, rfl, ?_⟩
         -- path FFLTT
         have hpc : pcs L = Pc12 := hPc13.symm
         have hwi : wds L i = Pc51 := by rw [hPc52, hPc13]
         have hS : ¬ rdOK L := fun h_ => by have h2_ := (h_.2.2.1 i (by rw [hpc]; omega)).1; rw [hwi] at h2_; omega
         have hB : ¬ rdB L := fun h_ => h_.2.elim (fun e_ => absurd e_ (by assumption)) hS
         refine ⟨none, 0, fun _ => (none, 0), [], ?_⟩
         rw [rdN_f hS, show decide (rdB L) = false from decide_eq_false hB]
         exact ⟨rfl, E57, .nil E57.size, RIn.zero ⟨E57.size, Nat.le_refl _⟩, fun i_ h_ => absurd h_ (Nat.not_lt_zero _)⟩
       · refine rk_cf (T rfl (congrArg Value.bool (decide_eq_false hb58))) ?_
         refine rk_skip ?_
         refine rk_seq ?_
         refine rk_seq ?_
         have hO59 : OwS w55 w55.heap.size 41 2 .i64 none 0 0 [] := OwS.nil (Nat.le_refl _)
         refine rk_reg ?_
         refine lw_v (.int .i64 0) (dv_assign C) ?_
         refine lw_nil ?_
         refine rk_block ?_
         have h60 := (((h32.ext n42.ext).st s46 n42.blk (by decide)).ext e56)
         have h61 := (((h33.ext n42.ext).stN s46 (fun g_ o_ h_ => by have := lt36 g_ o_ h_; omega)).ext e56)
         have h62 := (((h34.ext n42.ext).st s46 (by omega)).ext e56)
         have H63 := (e56.blk H47)
         refine rk_loop (fun dm_ fr wl => ∃ (k : Nat) (A7 : Option Addr) (c7 : Nat) (M : List Int), dm_ = Pc51.length / 2 - k ∧ fr 0 = .string (bOf L) ∧ fr 4 = .slice A4 i c4 ∧ fr 6 = .string (bOf (Pc12.getD i [])) ∧ fr 7 = .pointer (some ⟨b40, 0, none⟩) ∧ fr 8 = .slice As49 (Pc51.length) cs50 ∧ fr 9 = .int .i64 ((k : Int) * 2) ∧ fr 21 = .slice (some ⟨g38, o39, none⟩) (Pc12.length) cs11 ∧ fr 22 = .int .i64 ((Pc12.length : Int)) ∧ fr 23 = .int .i64 ((i : Int)) ∧ fr 24 = .bool (decide (((i : Int)) < ((Pc12.length : Int)))) ∧ fr 25 = .pointer (some ⟨g38, o39 + i, none⟩) ∧ fr 26 = .string (bOf (Pc12.getD i [])) ∧ fr 27 = .agg #[.slice none 0 0] ∧ fr 28 = .string (bOf (Pc12.getD i [])) ∧ fr 29 = .slice As49 (Pc51.length) cs50 ∧ fr 30 = .slice As49 (Pc51.length) cs50 ∧ fr 31 = .int .i64 ((Pc51.length : Int)) ∧ fr 32 = .int .i64 (((Pc51.length : Int)) % 2) ∧ fr 33 = .bool (decide ((((Pc51.length : Int)) % 2) ≠ 0)) ∧ Below w.heap.size w wl ∧ wl.heap[b40]? = some (.cells #[.slice A7 k c7] 37) ∧ Ors wl w4.heap.size 9 (some ⟨g38, o39, none⟩) cs11 Pc12 ∧ OwV wl b3 37 A4 i c4 V ∧ RIn wl b3 w21.heap.size 41 i (pcN L) (pcE L) S ∧ Ors wl w45.heap.size 9 As49 cs50 Pc51 ∧ OwS wl w55.heap.size 41 2 .i64 A7 k c7 M ∧ (k * 2 ≤ Pc51.length) ∧ (M = (Pc51.take (k * 2)).map numD) ∧ (∀ q, q < k * 2 → decS (Pc51.getD q []))) (Pc51.length / 2 - 0) ⟨0, none, 0, ([] : List Int), rfl, f26, f27, rfl, rfl, rfl, (vi (by omega)), f28, f29, f30, rfl, rfl, rfl, rfl, rfl, rfl, rfl, rfl, rfl, rfl, E57, H63, h60, h61, h62, hOs53, hO59, (Nat.zero_le _), (by simp), (fun q hq => absurd hq (by omega))⟩ ?_
         intro d68 fr67 w64 hI65 ih66
         obtain ⟨k, A7, c7, M, hd95, f69, f70, f71, f72, f73, f74, f75, f76, f77, f78, f79, f80, f81, f82, f83, f84, f85, f86, f87, E88, H89, h90, h91, h92, h93, h94, hk_, hM, hin⟩ := hI65
         have hwl := getD_len (fun x hx => splB_piece (sep := [32]) (s := _) x (by rw [hPc52] at hx; exact hx)) (P := Pc51) (k * 2)
         have hwl2 := getD_len (fun x hx => splB_piece (sep := [32]) (s := _) x (by rw [hPc52] at hx; exact hx)) (P := Pc51) (k * 2 + 1)
         have hNb2 := E88.size
         refine rk_seq ?_
         refine rk_seq ?_
         refine rk_reg ?_
         refine lw_v (.int .i64 ((k : Int) * 2)) (dv_move (T rfl f74)) ?_
         refine lw_v (.slice As49 (Pc51.length) cs50) (dv_move (T rfl f73)) ?_
         refine lw_v (.int .i64 ((Pc51.length : Int))) (dv_len (ad := As49) (l := Pc51.length) (c := cs50) us33 (T rfl rfl)) ?_
         refine lw_v (.bool (decide (((k : Int) * 2) < ((Pc51.length : Int))))) (dv_lss (a := (k : Int) * 2) (b := (Pc51.length : Int)) (T rfl rfl) (T rfl rfl)) ?_
         refine lw_nil ?_
         by_cases hb96 : ((k : Int) * 2) < ((Pc51.length : Int))
         · refine rk_ct (T rfl (congrArg Value.bool (decide_eq_true hb96))) ?_
           refine rk_skip ?_
           refine rk_seq ?_
           refine rk_block ?_
           refine rk_seq ?_
           refine rk_reg ?_
           refine lw_v (.slice As49 (Pc51.length) cs50) (dv_move (T rfl f73)) ?_
           refine lw_v (.int .i64 ((k : Int) * 2)) (dv_move (T rfl f74)) ?_
           obtain ⟨g97, o98, rfl⟩ := Ors.at h93 (by first | omega | (simp; done) | (simp; omega))
           refine lw_v (.pointer (some ⟨g97, o98 + (k * 2), none⟩)) (dv_indexW (g := g97) (o := o98) (l := Pc51.length) (c := cs50) (i := (k * 2)) (j := (k : Int) * 2) us33 sz9 (T rfl rfl) (T rfl rfl) (by omega) (by first | omega | (simp; done) | (simp; omega))) ?_
           refine lw_v (.string (bOf (Pc51.getD ((k * 2)) []))) (dv_load agt9 (T rfl rfl) (Ors.cell h93 (by first | omega | (simp; done) | (simp; omega)))) ?_
           have h102 := (hb.ext E88)
           refine lw_e (oe_callf (vs := [.string (bOf (Pc51.getD ((k * 2)) []))]) co17 (ar1 (T rfl rfl)) (decimal_ok (getD_ok (by rw [hPc52]; exact ok_splB _ _) (((k * 2)))) (by first | omega | (simp only [List.length_append, List.length_cons, List.length_nil]; omega)) h102) ?_)
           rintro _ w103 ⟨n99, rfl, e104, hdn100, hrg101⟩
           have := Below.fresh e104
           have E105 := below_ext E88 E88.size e104
           refine lw_v (.tuple #[.int .i64 n99, .bool (decide (decS (Pc51.getD ((k * 2)) [])))]) (dv_move (T rfl rfl)) ?_
           refine lw_v (.int .i64 n99) (dv_extract (vs := #[.int .i64 n99, .bool (decide (decS (Pc51.getD ((k * 2)) [])))]) (T rfl rfl) rfl) ?_
           refine lw_v (.bool (decide (decS (Pc51.getD ((k * 2)) [])))) (dv_extract (vs := #[.int .i64 n99, .bool (decide (decS (Pc51.getD ((k * 2)) [])))]) (T rfl rfl) rfl) ?_
           refine lw_v (.int .i64 n99) (dv_assign (T rfl rfl)) ?_
           refine lw_v (.bool (decide (decS (Pc51.getD ((k * 2)) [])))) (dv_assign (T rfl rfl)) ?_
           refine lw_nil ?_
           refine rk_seq ?_
           refine rk_reg ?_
           refine lw_v (.slice (some ⟨g97, o98, none⟩) (Pc51.length) cs50) (dv_move (T rfl f73)) ?_
           refine lw_v (.int .i64 ((k : Int) * 2)) (dv_move (T rfl f74)) ?_
           refine lw_v (.int .i64 (((k : Int) * 2) + 1)) (dv_add (a := (k : Int) * 2) (b := 1) (z := ((k : Int) * 2) + 1) (T rfl rfl) C (wr_i64 (by omega) (by omega))) ?_
           refine lw_v (.pointer (some ⟨g97, o98 + ((k * 2) + 1), none⟩)) (dv_indexW (g := g97) (o := o98) (l := Pc51.length) (c := cs50) (i := ((k * 2) + 1)) (j := ((k : Int) * 2) + 1) us33 sz9 (T rfl rfl) (T rfl rfl) (by omega) (by first | omega | (simp; done) | (simp; omega))) ?_
           have h106 := (h93.ext e104)
           refine lw_v (.string (bOf (Pc51.getD (((k * 2) + 1)) []))) (dv_load agt9 (T rfl rfl) (Ors.cell h106 (by first | omega | (simp; done) | (simp; omega)))) ?_
           have h110 := (h102.ext e104)
           refine lw_e (oe_callf (vs := [.string (bOf (Pc51.getD (((k * 2) + 1)) []))]) co17 (ar1 (T rfl rfl)) (decimal_ok (getD_ok (by rw [hPc52]; exact ok_splB _ _) ((((k * 2) + 1)))) (by first | omega | (simp only [List.length_append, List.length_cons, List.length_nil]; omega)) h110) ?_)
           rintro _ w111 ⟨n107, rfl, e112, hdn108, hrg109⟩
           have := Below.fresh e112
           have E113 := below_ext E105 E105.size e112
           refine lw_v (.tuple #[.int .i64 n107, .bool (decide (decS (Pc51.getD (((k * 2) + 1)) [])))]) (dv_move (T rfl rfl)) ?_
           refine lw_v (.int .i64 n107) (dv_extract (vs := #[.int .i64 n107, .bool (decide (decS (Pc51.getD (((k * 2) + 1)) [])))]) (T rfl rfl) rfl) ?_
           refine lw_v (.bool (decide (decS (Pc51.getD (((k * 2) + 1)) [])))) (dv_extract (vs := #[.int .i64 n107, .bool (decide (decS (Pc51.getD (((k * 2) + 1)) [])))]) (T rfl rfl) rfl) ?_
           refine lw_v (.int .i64 n107) (dv_assign (T rfl rfl)) ?_
           refine lw_v (.bool (decide (decS (Pc51.getD (((k * 2) + 1)) [])))) (dv_assign (T rfl rfl)) ?_
           refine lw_nil ?_
           refine rk_seq ?_
           refine rk_seq ?_
           refine rk_reg ?_
           refine lw_v (.bool (decide (decS (Pc51.getD ((k * 2)) [])))) (dv_move (T rfl rfl)) ?_
           refine lw_v (.bool (decide (¬ (decS (Pc51.getD ((k * 2)) []))))) (dv_notd (p := decS (Pc51.getD ((k * 2)) [])) (T rfl rfl)) ?_
           refine lw_v (.bool (decide (¬ (decS (Pc51.getD ((k * 2)) []))))) (dv_move (T rfl rfl)) ?_
           by_cases hb114 : decS (Pc51.getD ((k * 2)) [])
           · refine lw_vy (.bool (decide (decS (Pc51.getD (((k * 2) + 1)) [])))) (d := 59) rfl rfl (congrArg Value.bool (decide_eq_false (not_not_intro hb114))) (dv_move (T rfl rfl)) ?_
             refine lw_vy (.bool (decide (¬ (decS (Pc51.getD (((k * 2) + 1)) []))))) (d := 59) rfl rfl (congrArg Value.bool (decide_eq_false (not_not_intro hb114))) (dv_notd (p := decS (Pc51.getD (((k * 2) + 1)) [])) (T rfl rfl)) ?_
             refine lw_v (.bool (decide (¬ (decS (Pc51.getD (((k * 2) + 1)) []))))) (dv_pick_f (T rfl (congrArg Value.bool (decide_eq_false (not_not_intro hb114)))) (T rfl rfl)) ?_
             refine lw_nil ?_
             by_cases hb115 : decS (Pc51.getD (((k * 2) + 1)) [])
             · refine rk_cf (T rfl (congrArg Value.bool (decide_eq_false (not_not_intro hb115)))) ?_
               refine rk_skip ?_
               refine rk_reg ?_
               refine lw_v (.pointer (some ⟨b40, 0, none⟩)) (dv_fieldAddr (a := ⟨b40, 0, none⟩) (a' := ⟨b40, 0, none⟩) fo37_0 (T rfl f72) rfl) ?_
               have H116 := (e112.blk (e104.blk H89))
               refine lw_v (.slice A7 k c7) (dv_load1 (b := b40) (o := 0) agt35 (T rfl rfl) H116 rfl) ?_
               refine lw_v (.int .i64 n99) (dv_move (T rfl rfl)) ?_
               refine lw_v (.int .i64 n107) (dv_move (T rfl rfl)) ?_
               refine lw_v (.agg #[.int .i64 n99, .int .i64 n107]) (dv_build (pv := [(0, .int .i64 n99), (1, .int .i64 n107)]) (l := [.int .i64 n99, .int .i64 n107]) zc41 pl41 ⟨rfl, (T rfl rfl), ⟨rfl, (T rfl rfl), trivial⟩⟩ rfl) ?_
               refine lw_e (oe_buildSlice (pv := [(0, .agg #[.int .i64 n99, .int .i64 n107])]) (init := [.int .i64 0, .int .i64 0]) (l := [.int .i64 n99, .int .i64 n107]) us35 sz41 rfl rfl zc41 (by kernel_rfl) ⟨rfl, (T rfl rfl), trivial⟩ rfl ?_)
               intro b117 w118 n119
               have N120 : w.heap.size ≤ b117 := n119.eq ▸ E113.size
               have : b40 < b117 := n119.eq ▸ lt_of_blk H116
               have := n119.eq; have := n119.size
               have := Below.fresh n119.ext
               have E121 := below_ext E113 E113.size n119.ext
               have h122 := (((h94.ext e104).ext e112).ext n119.ext)
               refine lw_e (oe_appendSt (base := w55.heap.size) (L := M) (M := [n99, n107]) (m := k) (k := .i64) (sz := 2) us35 in41 rfl (by decide) (T rfl rfl) (T rfl rfl) h122 n119.blk rfl (by first | omega | (simp; done) | (simp; omega)) (by first | omega | (simp; done) | (simp; omega)) ?_)
               intro Ad123 c124 w125 hO126 x127 bt128
               have := x127.size
               have E129 := below_bl E121 (by omega) x127
               refine lw_v (.pointer (some ⟨b40, 0, none⟩)) (dv_fieldAddr (a := ⟨b40, 0, none⟩) (a' := ⟨b40, 0, none⟩) fo37_0 (T rfl f72) rfl) ?_
               have H130 := (by first | exact bl_blk x127 (n119.ext.blk H116) (by omega) | exact bt_blkT bt128 (n119.ext.blk H116) (by decide))
               refine lw_e (oe_store (v := .slice Ad123 (k + 1) c124) (vs := [.slice Ad123 (k + 1) c124]) (l := [.slice Ad123 (k + 1) c124]) (T rfl rfl) (T rfl rfl) sz35 rfl rfl rfl H130 rfl ?_)
               intro w131 s132 H133
               have := s132.size
               have E134 := below_st E129 N43 s132
               refine lw_nil ?_
               refine rk_inBlock ?_
               refine rk_reg ?_
               refine lw_v (.int .i64 ((k : Int) * 2)) (dv_move (T rfl f74)) ?_
               refine lw_v (.int .i64 (((k : Int) * 2) + 2)) (dv_add (a := (k : Int) * 2) (b := 2) (z := ((k : Int) * 2) + 2) (T rfl rfl) C (wr_i64 (by omega) (by omega))) ?_
               refine lw_v (.int .i64 (((k : Int) * 2) + 2)) (dv_assign (T rfl rfl)) ?_
               refine lw_nil ?_
               have h135 := (((((h90.ext e104).ext e112).ext n119.ext).bt bt128 x127.size (by decide)).st s132 H130 (by decide))
               have h136 := (((((h91.ext e104).ext e112).ext n119.ext).bt bt128 x127.size (by decide)).stN s132 (fun g_ o_ h_ => by have := lt36 g_ o_ h_; omega))
               have h137 := (((((h92.ext e104).ext e112).ext n119.ext).bl x127 (by omega)).st s132 (by omega))
               have h138 := ((((h106.ext e112).ext n119.ext).bt bt128 x127.size (by decide)).st s132 H130 (by decide))
               have h139 := (hO126.st s132 H130 (by decide))
               exact ih66 (Pc51.length / 2 - ((k + 1))) _ _ (by rw [hd95]; omega) ⟨(k + 1), Ad123, c124, (M ++ [n99, n107]), rfl, f69, f70, f71, f72, f73, (vi (by omega)), f75, f76, f77, f78, f79, f80, f81, f82, f83, f84, f85, f86, f87, E134, H133, h135, h136, h137, h138, h139, (by omega), (take_map hM (by omega) (hdn100 (by assumption)) (hdn108 (by assumption))), (fun q hq => by rcases (show q < k * 2 ∨ q = k * 2 ∨ q = k * 2 + 1 by omega) with h_ | rfl | rfl; exact hin q h_; assumption; assumption)⟩
             · refine rk_ct (T rfl (congrArg Value.bool (decide_eq_true hb115))) ?_
               refine rk_seq ?_
               refine rk_reg ?_
               refine lw_v (.slice none 0 0) (dv_assign C) ?_
               refine lw_v (.bool false) (dv_assign C) ?_
               refine lw_nil ?_
               refine rk_ret Tryd.func6 (v := .tuple #[.slice none 0 0, .bool false]) (res2 Tryd.results6 (rv_tmp rfl rfl) (rv_tmp rfl rfl)) ⟨_, rfl, ?_⟩
               -- path FFLTFLTTF
               have hpc : pcs L = Pc12 := hPc13.symm
               have hwi : wds L i = Pc51 := by rw [hPc52, hPc13]
               have hS : ¬ rdOK L := fun h_ => by have h2_ := (h_.2.2.1 i (by rw [hpc]; omega)).2 (k * 2 + 1) (by rw [hwi]; omega); rw [hwi] at h2_; exact absurd h2_ (by assumption)
               have hB : ¬ rdB L := fun h_ => h_.2.elim (fun e_ => absurd e_ (by assumption)) hS
               refine ⟨none, 0, fun _ => (none, 0), [], ?_⟩
               rw [rdN_f hS, show decide (rdB L) = false from decide_eq_false hB]
               exact ⟨rfl, E113, .nil E113.size, RIn.zero ⟨E113.size, Nat.le_refl _⟩, fun i_ h_ => absurd h_ (Nat.not_lt_zero _)⟩
           · refine lw_no (d := 59) rfl rfl (congrArg Value.bool (decide_eq_true hb114)) ?_
             refine lw_no (d := 59) rfl rfl (congrArg Value.bool (decide_eq_true hb114)) ?_
             refine lw_v (.bool true) (dv_pick_t (T rfl (congrArg Value.bool (decide_eq_true hb114))) C) ?_
             refine lw_nil ?_
             refine rk_ct (T rfl rfl) ?_
             refine rk_seq ?_
             refine rk_reg ?_
             refine lw_v (.slice none 0 0) (dv_assign C) ?_
             refine lw_v (.bool false) (dv_assign C) ?_
             refine lw_nil ?_
             refine rk_ret Tryd.func6 (v := .tuple #[.slice none 0 0, .bool false]) (res2 Tryd.results6 (rv_tmp rfl rfl) (rv_tmp rfl rfl)) ⟨_, rfl, ?_⟩
             -- path FFLTFLTF
             have hpc : pcs L = Pc12 := hPc13.symm
             have hwi : wds L i = Pc51 := by rw [hPc52, hPc13]
             have hS : ¬ rdOK L := fun h_ => by have h2_ := (h_.2.2.1 i (by rw [hpc]; omega)).2 (k * 2) (by rw [hwi]; omega); rw [hwi] at h2_; exact absurd h2_ (by assumption)
             have hB : ¬ rdB L := fun h_ => h_.2.elim (fun e_ => absurd e_ (by assumption)) hS
             refine ⟨none, 0, fun _ => (none, 0), [], ?_⟩
             rw [rdN_f hS, show decide (rdB L) = false from decide_eq_false hB]
             exact ⟨rfl, E113, .nil E113.size, RIn.zero ⟨E113.size, Nat.le_refl _⟩, fun i_ h_ => absurd h_ (Nat.not_lt_zero _)⟩
         · refine rk_cf (T rfl (congrArg Value.bool (decide_eq_false hb96))) ?_
           refine rk_exit rfl ?_
           refine rk_reg ?_
           refine lw_v (.slice A4 i c4) (dv_move (T rfl f70)) ?_
           refine lw_v (.agg #[.slice A7 k c7]) (dv_loads (l := [.slice A7 k c7]) agt37 sz37 (T rfl f72) H89 rfl) ?_
           refine lw_e (oe_buildSlice (pv := [(0, .agg #[.slice A7 k c7])]) (init := [.slice none 0 0]) (l := [.slice A7 k c7]) us22 sz37 rfl rfl zc37 (by kernel_rfl) ⟨rfl, (T rfl rfl), trivial⟩ rfl ?_)
           intro b140 w141 n142
           have N143 : w.heap.size ≤ b140 := n142.eq ▸ E88.size
           have : b40 < b140 := n142.eq ▸ lt_of_blk H89
           have := n142.eq; have := n142.size
           have := Below.fresh n142.ext
           have E144 := below_ext E88 E88.size n142.ext
           have h145 := (h91.ext n142.ext)
           refine lw_e (oe_appendV (base := b3) (vs := V) (v1 := .slice A7 k c7) (m := i) us22 in37 rfl (T rfl rfl) (T rfl rfl) h145 n142.blk rfl (by first | omega | (simp; done) | (simp; omega)) (by first | omega | (simp; done) | (simp; omega)) ?_)
           intro Ad146 c147 w148 hV149 x150 bt151
           have := x150.size
           have E152 := below_bl E144 N8 x150
           refine lw_v (.slice Ad146 (i + 1) c147) (dv_assign (T rfl rfl)) ?_
           refine lw_nil ?_
           refine rk_inBlock ?_
           refine rk_reg ?_
           refine lw_v (.int .i64 (((i : Int)) + 1)) (dv_add (a := (i : Int)) (b := 1) (z := ((i : Int)) + 1) (T rfl f77) C (wr_i64 (by omega) (by omega))) ?_
           refine lw_v (.int .i64 (((i : Int)) + 1)) (dv_move (T rfl rfl)) ?_
           refine lw_nil ?_
           have h153 := ((h94.ext n142.ext).bt bt151 x150.size (by decide))
           have h154 := ((h92.ext n142.ext).bt bt151 x150.size (by decide))
           have hwi : wds L i = Pc51 := by rw [hPc52, hPc13]
           have hkk : k * 2 = Pc51.length := by omega
           have hMe : M = pcE L i := by unfold pcE; rw [hwi, hM, hkk, List.take_length]
           have hNe : pcN L i = k := by unfold pcN; rw [hwi]; omega
           have hro : rowOk L i := by unfold rowOk; rw [hwi]; exact ⟨by omega, fun q hq => hin q (by omega)⟩
           have hRn := RIn.snoc h154 (h153) (by omega) hNe hMe.symm
           have h155 := ((h90.ext n142.ext).bt bt151 x150.size (by decide))
           have hVn := vals_snoc (f := fun q => .slice ((updA S i (A7, c7)) q).1 (pcN L q) ((updA S i (A7, c7)) q).2) (v := .slice A7 k c7) hVl (fun q hq => by rw [show (updA S i (A7, c7)) q = S q from updA_ne _ _ (by omega)]; exact hV q hq) (by show Value.slice ((updA S i (A7, c7)) i).1 (pcN L i) ((updA S i (A7, c7)) i).2 = _; rw [show (updA S i (A7, c7)) i = _ from updA_same _ _ _, hNe])
           exact ih23 (Pc12.length - ((i + 1))) _ _ (by rw [hd35]; omega) ⟨(i + 1), Ad146, c147, (updA S i (A7, c7)), (V ++ [.slice A7 k c7]), rfl, f69, rfl, f75, f76, (vi (by omega)), E152, h155, hV149, hRn, (by omega), (all_step hall hro), hVn⟩
     · refine rk_cf (T rfl (congrArg Value.bool (decide_eq_false hb37))) ?_
       refine rk_exit rfl ?_
       refine rk_seq ?_
       refine rk_seq ?_
       have hil : i = Pc12.length := by omega
       have hRR156 := rr_of h33 h34 (Nat.le_refl _) hV
       have hxn : ∀ q, q < i → pcN L q ≤ 1048576 := fun q _ => pcN_le (by omega) q
       refine rk_reg ?_
       refine lw_v (.slice A4 i c4) (dv_move (T rfl f27)) ?_
       have h157 := (hb.ext E31)
       refine lw_e (oe_callf (vs := [.slice A4 i c4]) co13 (ar1 (T rfl rfl)) (iLayerText_ok (c := c4) hRR156 (by omega) hxn h157.tb) ?_)
       rintro _ w158 ⟨rfl, e159⟩
       have := Below.fresh e159
       have E160 := below_ext E31 E31.size e159
       refine lw_v (.string (bOf L)) (dv_move (T rfl f26)) ?_
       refine lw_v (.bool (decide ((((layR i (pcN L) (pcE L))) : List Int) ≠ L))) (dv_neS (L := (layR i (pcN L) (pcE L))) (M := L) (T rfl rfl) (T rfl rfl) ((ok_layR _ _ _)) ((hL))) ?_
       refine lw_nil ?_
       by_cases hb161 : (((layR i (pcN L) (pcE L))) : List Int) ≠ L
       · refine rk_ct (T rfl (congrArg Value.bool (decide_eq_true hb161))) ?_
         refine rk_seq ?_
         refine rk_reg ?_
         refine lw_v (.slice none 0 0) (dv_assign C) ?_
         refine lw_v (.bool false) (dv_assign C) ?_
         refine lw_nil ?_
         refine rk_ret Tryd.func6 (v := .tuple #[.slice none 0 0, .bool false]) (res2 Tryd.results6 (rv_tmp rfl rfl) (rv_tmp rfl rfl)) ⟨_, rfl, ?_⟩
         -- path FFLFT
         have hpc : pcs L = Pc12 := hPc13.symm
         have hS : ¬ rdOK L := fun h_ => by have h2_ := h_.2.2.2; rw [hpc, ← hil] at h2_; exact absurd h2_ (by assumption)
         have hB : ¬ rdB L := fun h_ => h_.2.elim (fun e_ => absurd e_ (by assumption)) hS
         refine ⟨none, 0, fun _ => (none, 0), [], ?_⟩
         rw [rdN_f hS, show decide (rdB L) = false from decide_eq_false hB]
         exact ⟨rfl, E160, .nil E160.size, RIn.zero ⟨E160.size, Nat.le_refl _⟩, fun i_ h_ => absurd h_ (Nat.not_lt_zero _)⟩
       · refine rk_cf (T rfl (congrArg Value.bool (decide_eq_false hb161))) ?_
         refine rk_skip ?_
         refine rk_seq ?_
         refine rk_reg ?_
         refine lw_v (.slice A4 i c4) (dv_move (T rfl f27)) ?_
         refine lw_v (.slice A4 i c4) (dv_assign (T rfl rfl)) ?_
         refine lw_v (.bool true) (dv_assign C) ?_
         refine lw_nil ?_
         refine rk_ret Tryd.func6 (v := .tuple #[.slice A4 i c4, .bool true]) (res2 Tryd.results6 (rv_tmp rfl rfl) (rv_tmp rfl rfl)) ⟨_, rfl, ?_⟩
         have h162 := (h33.ext e159)
         have h163 := (h34.ext e159)
         have hpc : pcs L = Pc12 := hPc13.symm
         have hS : rdOK L := ⟨by omega, by assumption, fun q hq => hall q (by rw [hpc] at hq; omega), by rw [hpc, ← hil]; first | assumption | exact Decidable.not_not.1 (by assumption)⟩
         have hB : rdB L := ⟨hS.1, .inr hS⟩
         have hrn : rdN L = i := by rw [rdN_t hS, hpc, hil]
         refine ⟨A4, c4, S, V, ?_⟩
         rw [hrn, show decide (rdB L) = true from decide_eq_true hB]
         exact ⟨rfl, E160, OwV.mono h162 (by omega), (RIn.lo_le h163 (by omega)).mono (by omega) (Nat.le_refl _), hV⟩
end Go.Proofs.YtmbpomcbdopgnaaDoor.W
set_option linter.unusedVariables false
set_option linter.unusedSimpArgs false
namespace Go.Proofs.YtmbpomcbdopgnaaDoor.W
open Go Go.RowKit Go.Proofs.YtmbpomcbdopgnaaDoor.Fw
attribute [local irreducible] RunK LW AW DV OE Ct
theorem co29 : callOk Tryd.prog 29 = true := by kernel_rfl
theorem co42 : callOk Tryd.prog 42 = true := by kernel_rfl
theorem co43 : callOk Tryd.prog 43 = true := by kernel_rfl
theorem co44 : callOk Tryd.prog 44 = true := by kernel_rfl
set_option maxHeartbeats 1000000 in
theorem l1Read_ok {w : World} {L : List Int} {S : Nat} (hL : okW 256 L) (hl : L.length ≤ 1048576) (hS : 400 ≤ S ∧ S ≤ 1000) : Ct Tryd.prog 29 [.string (bOf L), .int .i64 15] w fun v w1 => ∃ nr A' n c' z, v = .tuple #[.agg #[.bool nr, .slice A' n c'], .bool (decide (formD L ∧ (digD L).length ≤ 15))] ∧ Ext w w1 ∧ Num 32 61 .u32 w1 nr A' n c' z S ∧ (formD L ∧ (digD L).length ≤ 15 → z = numD L) := by
 refine ct_run (n := 77) Tryd.func29 rfl Tryd.ntmps29 rfl ?_
 have E0 : Below w.heap.size w w := Below.refl _ _
 refine rk_seq ?_
 refine rk_reg ?_
 refine lw_e (oe_alloc ze58 ?_)
 intro b1 w2 n3
 have N4 : w.heap.size ≤ b1 := n3.eq ▸ E0.size
 have E5 := below_ext E0 E0.size n3.ext
 refine lw_v (.bool false) (dv_assign C) ?_
 refine lw_nil ?_
 refine rk_seq ?_
 refine rk_reg ?_
 refine lw_v (.string (bOf L)) (dv_move (T rfl rfl)) ?_
 refine lw_v (.string (bOf L)) (dv_assign (T rfl rfl)) ?_
 refine lw_nil ?_
 refine rk_seq ?_
 refine rk_reg ?_
 refine lw_v (.string (bOf L)) (dv_move (T rfl rfl)) ?_
 refine lw_v (.int .i64 ((L.length : Int))) (dv_lenS (L := L) ut9 (T rfl rfl)) ?_
 refine lw_v (.bool (decide (0 < ((L.length : Int))))) (dv_gtr (a := (L.length : Int)) (b := 0) (T rfl rfl) C) ?_
 refine lw_v (.bool (decide (0 < ((L.length : Int))))) (dv_move (T rfl rfl)) ?_
 by_cases hb6 : 0 < ((L.length : Int))
 · refine lw_vy (.string (bOf L)) (d := 14) rfl rfl (congrArg Value.bool (decide_eq_true hb6)) (dv_move (T rfl rfl)) ?_
   have bg7 := okW.getD (hL) (by decide) 0
   refine lw_vy (.int .u8 (L.getD 0 0)) (d := 14) rfl rfl (congrArg Value.bool (decide_eq_true hb6)) (dv_indexS (L := L) (i := 0) (j := 0) ut9 (T rfl rfl) C (hL) (by omega) (by first | omega | (simp; done) | (simp; omega))) ?_
   refine lw_vy (.bool (decide ((L.getD 0 0) = 45))) (d := 14) rfl rfl (congrArg Value.bool (decide_eq_true hb6)) (dv_eql (a := L.getD 0 0) (b := 45) (T rfl rfl) C) ?_
   refine lw_v (.bool (decide ((L.getD 0 0) = 45))) (dv_pick_t (T rfl (congrArg Value.bool (decide_eq_true hb6))) (T rfl rfl)) ?_
   refine lw_v (.bool (decide ((L.getD 0 0) = 45))) (dv_assign (T rfl rfl)) ?_
   refine lw_nil ?_
   refine rk_seq ?_
   refine rk_join (fun fr wl => ∃ (D : List Int) (ng : Bool), fr 1 = .int .i64 15 ∧ fr 4 = .pointer (some ⟨b1, 0, none⟩) ∧ fr 5 = .bool false ∧ fr 6 = .string (bOf D) ∧ fr 7 = .bool ng ∧ Below w.heap.size w wl ∧ wl.heap[b1]? = some (.cells #[.bool false, .slice none 0 0] 58) ∧ (digD L = D) ∧ (negD L = ng) ∧ (D.length ≤ L.length)) ?_ (fun hj10 => ?_)
   · intro fr11 w8 hI9
     obtain ⟨D, ng, f12, f13, f14, f15, f16, E17, H18, hD, hng, hDl⟩ := hI9
     refine rk_seq ?_
     refine rk_seq ?_
     refine rk_reg ?_
     refine lw_v (.string (bOf D)) (dv_move (T rfl f15)) ?_
     refine lw_v (.int .i64 ((D.length : Int))) (dv_lenS (L := D) ut9 (T rfl rfl)) ?_
     refine lw_v (.bool (decide (((D.length : Int)) < 1))) (dv_lss (a := (D.length : Int)) (b := 1) (T rfl rfl) C) ?_
     refine lw_v (.bool (decide (((D.length : Int)) < 1))) (dv_move (T rfl rfl)) ?_
     by_cases hb19 : ((D.length : Int)) < 1
     · refine lw_no (d := 25) rfl rfl (congrArg Value.bool (decide_eq_true hb19)) ?_
       refine lw_no (d := 25) rfl rfl (congrArg Value.bool (decide_eq_true hb19)) ?_
       refine lw_no (d := 25) rfl rfl (congrArg Value.bool (decide_eq_true hb19)) ?_
       refine lw_no (d := 25) rfl rfl (congrArg Value.bool (decide_eq_true hb19)) ?_
       refine lw_v (.bool true) (dv_pick_t (T rfl (congrArg Value.bool (decide_eq_true hb19))) C) ?_
       refine lw_v (.bool true) (dv_move (T rfl rfl)) ?_
       refine lw_no (d := 31) rfl rfl (rfl) ?_
       refine lw_no (d := 31) rfl rfl (rfl) ?_
       refine lw_no (d := 31) rfl rfl (rfl) ?_
       refine lw_no (d := 31) rfl rfl (rfl) ?_
       refine lw_nou (d := 35) rfl rfl ?_
       refine lw_nou (d := 35) rfl rfl ?_
       refine lw_nou (d := 37) rfl rfl ?_
       refine lw_nou (d := 37) rfl rfl ?_
       refine lw_nou (d := 37) rfl rfl ?_
       refine lw_nou (d := 35) rfl rfl ?_
       refine lw_no (d := 31) rfl rfl (rfl) ?_
       refine lw_v (.bool true) (dv_pick_t (T rfl rfl) C) ?_
       refine lw_nil ?_
       refine rk_ct (T rfl rfl) ?_
       refine rk_seq ?_
       refine rk_reg ?_
       refine lw_v (.agg #[.bool false, .slice none 0 0]) (dv_build (pv := []) (l := [.bool false, .slice none 0 0]) zc58 pl58 trivial rfl) ?_
       refine lw_e (oe_store (v := .agg #[.bool false, .slice none 0 0]) (vs := [.bool false, .slice none 0 0]) (l := [.bool false, .slice none 0 0]) (T rfl f13) (T rfl rfl) sz58 rfl rfl rfl H18 rfl ?_)
       intro w20 s21 H22
       have E23 := below_st E17 N4 s21
       refine lw_v (.bool false) (dv_assign C) ?_
       refine lw_nil ?_
       refine rk_ret Tryd.func29 (v := .tuple #[.agg #[.bool false, .slice none 0 0], .bool false]) (res2 Tryd.results29 (rv_cells (l := [.bool false, .slice none 0 0]) agt58 sz58 rfl f13 H22 rfl) (rv_tmp rfl rfl)) ⟨_, rfl, ?_⟩
       have hno : ¬ (formD L ∧ (digD L).length ≤ 15) := (fun hh => by have h1 := (formD_iff hD hng).1 hh.1; have h2 := hh.2; rw [hD] at h2; first | omega | (have h3 := h1.2.2 (by assumption); first | omega | (have h4 := h3.1; simp_all)))
       exact ⟨_, _, _, _, 0, tu2 rfl (vf hno), E23, Num.zero, fun hh => absurd hh hno⟩
     · refine lw_vy (.string (bOf D)) (d := 25) rfl rfl (congrArg Value.bool (decide_eq_false hb19)) (dv_move (T rfl f15)) ?_
       refine lw_vy (.int .i64 ((D.length : Int))) (d := 25) rfl rfl (congrArg Value.bool (decide_eq_false hb19)) (dv_lenS (L := D) ut9 (T rfl rfl)) ?_
       refine lw_vy (.int .i64 15) (d := 25) rfl rfl (congrArg Value.bool (decide_eq_false hb19)) (dv_move (T rfl f12)) ?_
       refine lw_vy (.bool (decide (15 < ((D.length : Int))))) (d := 25) rfl rfl (congrArg Value.bool (decide_eq_false hb19)) (dv_gtr (a := (D.length : Int)) (b := 15) (T rfl rfl) (T rfl rfl)) ?_
       refine lw_v (.bool (decide (15 < ((D.length : Int))))) (dv_pick_f (T rfl (congrArg Value.bool (decide_eq_false hb19))) (T rfl rfl)) ?_
       refine lw_v (.bool (decide (15 < ((D.length : Int))))) (dv_move (T rfl rfl)) ?_
       by_cases hb24 : 15 < ((D.length : Int))
       · refine lw_no (d := 31) rfl rfl (congrArg Value.bool (decide_eq_true hb24)) ?_
         refine lw_no (d := 31) rfl rfl (congrArg Value.bool (decide_eq_true hb24)) ?_
         refine lw_no (d := 31) rfl rfl (congrArg Value.bool (decide_eq_true hb24)) ?_
         refine lw_no (d := 31) rfl rfl (congrArg Value.bool (decide_eq_true hb24)) ?_
         refine lw_nou (d := 35) rfl rfl ?_
         refine lw_nou (d := 35) rfl rfl ?_
         refine lw_nou (d := 37) rfl rfl ?_
         refine lw_nou (d := 37) rfl rfl ?_
         refine lw_nou (d := 37) rfl rfl ?_
         refine lw_nou (d := 35) rfl rfl ?_
         refine lw_no (d := 31) rfl rfl (congrArg Value.bool (decide_eq_true hb24)) ?_
         refine lw_v (.bool true) (dv_pick_t (T rfl (congrArg Value.bool (decide_eq_true hb24))) C) ?_
         refine lw_nil ?_
         refine rk_ct (T rfl rfl) ?_
         refine rk_seq ?_
         refine rk_reg ?_
         refine lw_v (.agg #[.bool false, .slice none 0 0]) (dv_build (pv := []) (l := [.bool false, .slice none 0 0]) zc58 pl58 trivial rfl) ?_
         refine lw_e (oe_store (v := .agg #[.bool false, .slice none 0 0]) (vs := [.bool false, .slice none 0 0]) (l := [.bool false, .slice none 0 0]) (T rfl f13) (T rfl rfl) sz58 rfl rfl rfl H18 rfl ?_)
         intro w25 s26 H27
         have E28 := below_st E17 N4 s26
         refine lw_v (.bool false) (dv_assign C) ?_
         refine lw_nil ?_
         refine rk_ret Tryd.func29 (v := .tuple #[.agg #[.bool false, .slice none 0 0], .bool false]) (res2 Tryd.results29 (rv_cells (l := [.bool false, .slice none 0 0]) agt58 sz58 rfl f13 H27 rfl) (rv_tmp rfl rfl)) ⟨_, rfl, ?_⟩
         have hno : ¬ (formD L ∧ (digD L).length ≤ 15) := (fun hh => by have h1 := (formD_iff hD hng).1 hh.1; have h2 := hh.2; rw [hD] at h2; first | omega | (have h3 := h1.2.2 (by assumption); first | omega | (have h4 := h3.1; simp_all)))
         exact ⟨_, _, _, _, 0, tu2 rfl (vf hno), E28, Num.zero, fun hh => absurd hh hno⟩
       · refine lw_vy (.string (bOf D)) (d := 31) rfl rfl (congrArg Value.bool (decide_eq_false hb24)) (dv_move (T rfl f15)) ?_
         have bg29 := okW.getD (okD hD hL) (by decide) 0
         refine lw_vy (.int .u8 (D.getD 0 0)) (d := 31) rfl rfl (congrArg Value.bool (decide_eq_false hb24)) (dv_indexS (L := D) (i := 0) (j := 0) ut9 (T rfl rfl) C (okD hD hL) (by omega) (by first | omega | (simp; done) | (simp; omega))) ?_
         refine lw_vy (.bool (decide ((D.getD 0 0) = 48))) (d := 31) rfl rfl (congrArg Value.bool (decide_eq_false hb24)) (dv_eql (a := D.getD 0 0) (b := 48) (T rfl rfl) C) ?_
         refine lw_vy (.bool (decide ((D.getD 0 0) = 48))) (d := 31) rfl rfl (congrArg Value.bool (decide_eq_false hb24)) (dv_move (T rfl rfl)) ?_
         by_cases hb30 : (D.getD 0 0) = 48
         · refine lw_vy (.bool ng) (d := 35) rfl rfl (congrArg Value.bool (decide_eq_true hb30)) (dv_move (T rfl f16)) ?_
           refine lw_vy (.bool ng) (d := 35) rfl rfl (congrArg Value.bool (decide_eq_true hb30)) (dv_move (T rfl rfl)) ?_
           rcases Bool.eq_false_or_eq_true (ng) with hb31 | hb31
           · refine lw_no (d := 37) rfl rfl (congrArg Value.bool hb31) ?_
             refine lw_no (d := 37) rfl rfl (congrArg Value.bool hb31) ?_
             refine lw_no (d := 37) rfl rfl (congrArg Value.bool hb31) ?_
             refine lw_vy (.bool true) (d := 35) rfl rfl (congrArg Value.bool (decide_eq_true hb30)) (dv_pick_t (T rfl (congrArg Value.bool hb31)) C) ?_
             refine lw_vy (.bool true) (d := 31) rfl rfl (congrArg Value.bool (decide_eq_false hb24)) (dv_pick_t (T rfl (congrArg Value.bool (decide_eq_true hb30))) (T rfl rfl)) ?_
             refine lw_v (.bool true) (dv_pick_f (T rfl (congrArg Value.bool (decide_eq_false hb24))) (T rfl rfl)) ?_
             refine lw_nil ?_
             refine rk_ct (T rfl rfl) ?_
             refine rk_seq ?_
             refine rk_reg ?_
             refine lw_v (.agg #[.bool false, .slice none 0 0]) (dv_build (pv := []) (l := [.bool false, .slice none 0 0]) zc58 pl58 trivial rfl) ?_
             refine lw_e (oe_store (v := .agg #[.bool false, .slice none 0 0]) (vs := [.bool false, .slice none 0 0]) (l := [.bool false, .slice none 0 0]) (T rfl f13) (T rfl rfl) sz58 rfl rfl rfl H18 rfl ?_)
             intro w32 s33 H34
             have E35 := below_st E17 N4 s33
             refine lw_v (.bool false) (dv_assign C) ?_
             refine lw_nil ?_
             refine rk_ret Tryd.func29 (v := .tuple #[.agg #[.bool false, .slice none 0 0], .bool false]) (res2 Tryd.results29 (rv_cells (l := [.bool false, .slice none 0 0]) agt58 sz58 rfl f13 H34 rfl) (rv_tmp rfl rfl)) ⟨_, rfl, ?_⟩
             have hno : ¬ (formD L ∧ (digD L).length ≤ 15) := (fun hh => by have h1 := (formD_iff hD hng).1 hh.1; have h2 := hh.2; rw [hD] at h2; first | omega | (have h3 := h1.2.2 (by assumption); first | omega | (have h4 := h3.1; simp_all)))
             exact ⟨_, _, _, _, 0, tu2 rfl (vf hno), E35, Num.zero, fun hh => absurd hh hno⟩
           · refine lw_vy (.string (bOf D)) (d := 37) rfl rfl (congrArg Value.bool hb31) (dv_move (T rfl f15)) ?_
             refine lw_vy (.int .i64 ((D.length : Int))) (d := 37) rfl rfl (congrArg Value.bool hb31) (dv_lenS (L := D) ut9 (T rfl rfl)) ?_
             refine lw_vy (.bool (decide (1 < ((D.length : Int))))) (d := 37) rfl rfl (congrArg Value.bool hb31) (dv_gtr (a := (D.length : Int)) (b := 1) (T rfl rfl) C) ?_
             refine lw_vy (.bool (decide (1 < ((D.length : Int))))) (d := 35) rfl rfl (congrArg Value.bool (decide_eq_true hb30)) (dv_pick_f (T rfl (congrArg Value.bool hb31)) (T rfl rfl)) ?_
             refine lw_vy (.bool (decide (1 < ((D.length : Int))))) (d := 31) rfl rfl (congrArg Value.bool (decide_eq_false hb24)) (dv_pick_t (T rfl (congrArg Value.bool (decide_eq_true hb30))) (T rfl rfl)) ?_
             refine lw_v (.bool (decide (1 < ((D.length : Int))))) (dv_pick_f (T rfl (congrArg Value.bool (decide_eq_false hb24))) (T rfl rfl)) ?_
             refine lw_nil ?_
             by_cases hb36 : 1 < ((D.length : Int))
             · refine rk_ct (T rfl (congrArg Value.bool (decide_eq_true hb36))) ?_
               refine rk_seq ?_
               refine rk_reg ?_
               refine lw_v (.agg #[.bool false, .slice none 0 0]) (dv_build (pv := []) (l := [.bool false, .slice none 0 0]) zc58 pl58 trivial rfl) ?_
               refine lw_e (oe_store (v := .agg #[.bool false, .slice none 0 0]) (vs := [.bool false, .slice none 0 0]) (l := [.bool false, .slice none 0 0]) (T rfl f13) (T rfl rfl) sz58 rfl rfl rfl H18 rfl ?_)
               intro w37 s38 H39
               have E40 := below_st E17 N4 s38
               refine lw_v (.bool false) (dv_assign C) ?_
               refine lw_nil ?_
               refine rk_ret Tryd.func29 (v := .tuple #[.agg #[.bool false, .slice none 0 0], .bool false]) (res2 Tryd.results29 (rv_cells (l := [.bool false, .slice none 0 0]) agt58 sz58 rfl f13 H39 rfl) (rv_tmp rfl rfl)) ⟨_, rfl, ?_⟩
               have hno : ¬ (formD L ∧ (digD L).length ≤ 15) := (fun hh => by have h1 := (formD_iff hD hng).1 hh.1; have h2 := hh.2; rw [hD] at h2; first | omega | (have h3 := h1.2.2 (by assumption); first | omega | (have h4 := h3.1; simp_all)))
               exact ⟨_, _, _, _, 0, tu2 rfl (vf hno), E40, Num.zero, fun hh => absurd hh hno⟩
             · refine rk_cf (T rfl (congrArg Value.bool (decide_eq_false hb36))) ?_
               refine rk_skip ?_
               refine rk_seq ?_
               refine rk_reg ?_
               refine lw_v (.agg #[.bool false, .slice none 0 0]) (dv_build (pv := []) (l := [.bool false, .slice none 0 0]) zc58 pl58 trivial rfl) ?_
               refine lw_e (oe_alloc ze58 ?_)
               intro b41 w42 n43
               have N44 : w.heap.size ≤ b41 := n43.eq ▸ E17.size
               have : b1 < b41 := n43.eq ▸ lt_of_blk H18
               have E45 := below_ext E17 E17.size n43.ext
               refine lw_e (oe_store (v := .agg #[.bool false, .slice none 0 0]) (vs := [.bool false, .slice none 0 0]) (l := [.bool false, .slice none 0 0]) (T rfl rfl) (T rfl rfl) sz58 rfl rfl rfl n43.blk rfl ?_)
               intro w46 s47 H48
               have E49 := below_st E45 N44 s47
               refine lw_nil ?_
               refine rk_seq ?_
               refine rk_seq ?_
               refine rk_reg ?_
               refine lw_v (.int .i64 0) (dv_assign C) ?_
               refine lw_nil ?_
               refine rk_block ?_
               have H50 := (s47.blk (n43.ext.blk H18) (by omega))
               refine rk_loop (fun dm_ fr wl => ∃ (i : Nat) (nz : Bool) (Az : Option Addr) (lz cz : Nat), dm_ = D.length - i ∧ fr 4 = .pointer (some ⟨b1, 0, none⟩) ∧ fr 6 = .string (bOf D) ∧ fr 7 = .bool ng ∧ fr 8 = .pointer (some ⟨b41, 0, none⟩) ∧ fr 9 = .int .i64 ((i : Int)) ∧ Below w.heap.size w wl ∧ wl.heap[b1]? = some (.cells #[.bool false, .slice none 0 0] 58) ∧ wl.heap[b41]? = some (.cells #[.bool nz, .slice Az lz cz] 58) ∧ Num 32 61 .u32 wl nz Az lz cz (valD (D.take i)) S ∧ (i ≤ D.length) ∧ (∀ c ∈ D.take i, isD c)) (D.length - 0) ⟨0, false, none, 0, 0, rfl, f13, f15, f16, rfl, (vi (by omega)), E49, H50, H48, Num.zero, (Nat.zero_le _), (fun c hc => by cases hc)⟩ ?_
               intro d55 fr54 w51 hI52 ih53
               obtain ⟨i, nz, Az, lz, cz, hd65, f56, f57, f58, f59, f60, E61, H62, H63, h64, hi, hdg⟩ := hI52
               have lh64 := Num.len (by decide) h64
               refine rk_seq ?_
               refine rk_seq ?_
               refine rk_reg ?_
               refine lw_v (.int .i64 ((i : Int))) (dv_move (T rfl f60)) ?_
               refine lw_v (.string (bOf D)) (dv_move (T rfl f57)) ?_
               refine lw_v (.int .i64 ((D.length : Int))) (dv_lenS (L := D) ut9 (T rfl rfl)) ?_
               refine lw_v (.bool (decide (((i : Int)) < ((D.length : Int))))) (dv_lss (a := (i : Int)) (b := (D.length : Int)) (T rfl rfl) (T rfl rfl)) ?_
               refine lw_nil ?_
               by_cases hb66 : ((i : Int)) < ((D.length : Int))
               · refine rk_ct (T rfl (congrArg Value.bool (decide_eq_true hb66))) ?_
                 refine rk_skip ?_
                 refine rk_seq ?_
                 refine rk_block ?_
                 refine rk_seq ?_
                 refine rk_seq ?_
                 refine rk_reg ?_
                 refine lw_v (.string (bOf D)) (dv_move (T rfl f57)) ?_
                 refine lw_v (.int .i64 ((i : Int))) (dv_move (T rfl f60)) ?_
                 have bg67 := okW.getD (okD hD hL) (by decide) i
                 refine lw_v (.int .u8 (D.getD i 0)) (dv_indexS (L := D) (i := i) (j := (i : Int)) ut9 (T rfl rfl) (T rfl rfl) (okD hD hL) (by omega) (by first | omega | (simp; done) | (simp; omega))) ?_
                 refine lw_v (.bool (decide ((D.getD i 0) < 48))) (dv_lss (a := D.getD i 0) (b := 48) (T rfl rfl) C) ?_
                 refine lw_v (.bool (decide ((D.getD i 0) < 48))) (dv_move (T rfl rfl)) ?_
                 by_cases hb68 : (D.getD i 0) < 48
                 · refine lw_no (d := 56) rfl rfl (congrArg Value.bool (decide_eq_true hb68)) ?_
                   refine lw_no (d := 56) rfl rfl (congrArg Value.bool (decide_eq_true hb68)) ?_
                   refine lw_no (d := 56) rfl rfl (congrArg Value.bool (decide_eq_true hb68)) ?_
                   refine lw_no (d := 56) rfl rfl (congrArg Value.bool (decide_eq_true hb68)) ?_
                   refine lw_v (.bool true) (dv_pick_t (T rfl (congrArg Value.bool (decide_eq_true hb68))) C) ?_
                   refine lw_nil ?_
                   refine rk_ct (T rfl rfl) ?_
                   refine rk_seq ?_
                   refine rk_reg ?_
                   refine lw_v (.agg #[.bool false, .slice none 0 0]) (dv_build (pv := []) (l := [.bool false, .slice none 0 0]) zc58 pl58 trivial rfl) ?_
                   refine lw_e (oe_store (v := .agg #[.bool false, .slice none 0 0]) (vs := [.bool false, .slice none 0 0]) (l := [.bool false, .slice none 0 0]) (T rfl f56) (T rfl rfl) sz58 rfl rfl rfl H62 rfl ?_)
                   intro w69 s70 H71
                   have E72 := below_st E61 N4 s70
                   refine lw_v (.bool false) (dv_assign C) ?_
                   refine lw_nil ?_
                   refine rk_ret Tryd.func29 (v := .tuple #[.agg #[.bool false, .slice none 0 0], .bool false]) (res2 Tryd.results29 (rv_cells (l := [.bool false, .slice none 0 0]) agt58 sz58 rfl f56 H71 rfl) (rv_tmp rfl rfl)) ⟨_, rfl, ?_⟩
                   have hno : ¬ (formD L ∧ (digD L).length ≤ 15) := (fun hh => not_formD hD (i := i) (by omega) (fun hd => by unfold isD at hd; omega) hh.1)
                   exact ⟨_, _, _, _, 0, tu2 rfl (vf hno), E72, Num.zero, fun hh => absurd hh hno⟩
                 · refine lw_vy (.string (bOf D)) (d := 56) rfl rfl (congrArg Value.bool (decide_eq_false hb68)) (dv_move (T rfl f57)) ?_
                   refine lw_vy (.int .i64 ((i : Int))) (d := 56) rfl rfl (congrArg Value.bool (decide_eq_false hb68)) (dv_move (T rfl f60)) ?_
                   have bg73 := okW.getD (okD hD hL) (by decide) i
                   refine lw_vy (.int .u8 (D.getD i 0)) (d := 56) rfl rfl (congrArg Value.bool (decide_eq_false hb68)) (dv_indexS (L := D) (i := i) (j := (i : Int)) ut9 (T rfl rfl) (T rfl rfl) (okD hD hL) (by omega) (by first | omega | (simp; done) | (simp; omega))) ?_
                   refine lw_vy (.bool (decide (57 < (D.getD i 0)))) (d := 56) rfl rfl (congrArg Value.bool (decide_eq_false hb68)) (dv_gtr (a := D.getD i 0) (b := 57) (T rfl rfl) C) ?_
                   refine lw_v (.bool (decide (57 < (D.getD i 0)))) (dv_pick_f (T rfl (congrArg Value.bool (decide_eq_false hb68))) (T rfl rfl)) ?_
                   refine lw_nil ?_
                   by_cases hb74 : 57 < (D.getD i 0)
                   · refine rk_ct (T rfl (congrArg Value.bool (decide_eq_true hb74))) ?_
                     refine rk_seq ?_
                     refine rk_reg ?_
                     refine lw_v (.agg #[.bool false, .slice none 0 0]) (dv_build (pv := []) (l := [.bool false, .slice none 0 0]) zc58 pl58 trivial rfl) ?_
                     refine lw_e (oe_store (v := .agg #[.bool false, .slice none 0 0]) (vs := [.bool false, .slice none 0 0]) (l := [.bool false, .slice none 0 0]) (T rfl f56) (T rfl rfl) sz58 rfl rfl rfl H62 rfl ?_)
                     intro w75 s76 H77
                     have E78 := below_st E61 N4 s76
                     refine lw_v (.bool false) (dv_assign C) ?_
                     refine lw_nil ?_
                     refine rk_ret Tryd.func29 (v := .tuple #[.agg #[.bool false, .slice none 0 0], .bool false]) (res2 Tryd.results29 (rv_cells (l := [.bool false, .slice none 0 0]) agt58 sz58 rfl f56 H77 rfl) (rv_tmp rfl rfl)) ⟨_, rfl, ?_⟩
                     have hno : ¬ (formD L ∧ (digD L).length ≤ 15) := (fun hh => not_formD hD (i := i) (by omega) (fun hd => by unfold isD at hd; omega) hh.1)
                     exact ⟨_, _, _, _, 0, tu2 rfl (vf hno), E78, Num.zero, fun hh => absurd hh hno⟩
                   · refine rk_cf (T rfl (congrArg Value.bool (decide_eq_false hb74))) ?_
                     refine rk_skip ?_
                     refine rk_any (fun w => w.heap[b41]? = some (.cells #[.bool nz, .slice Az lz cz] 58)) [10] mo ?_
                     intro w79 d80
                     have E81 := below_ext E61 E61.size d80.ext
                     have H82 := (d80.ext.blk H63)
                     refine aw_load 0 (.agg #[.bool nz, .slice Az lz cz]) rfl (by kernel_rfl) .none H82 (fun _ s => dv_loads (l := [.bool nz, .slice Az lz cz]) agt58 sz58 (T rfl f59) s rfl) ?_
                     refine aw_pure 3 (.string (bOf D)) rfl (by kernel_rfl) .none H82 (fun _ => dv_move (T rfl f57)) ?_
                     refine aw_pure 4 (.int .i64 ((i : Int))) rfl (by kernel_rfl) .none H82 (fun _ => dv_move (T rfl f60)) ?_
                     have bg83 := okW.getD (okD hD hL) (by decide) i
                     refine aw_pure 5 (.int .u8 (D.getD i 0)) rfl (by kernel_rfl) .none H82 (fun _ => dv_indexS (L := D) (i := i) (j := (i : Int)) ut9 (T rfl rfl) (T rfl rfl) (okD hD hL) (by omega) (by first | omega | (simp; done) | (simp; omega))) ?_
                     refine aw_pure 6 (.int .u8 ((D.getD i 0) - 48)) rfl (by kernel_rfl) .none H82 (fun _ => dv_sub (a := D.getD i 0) (b := 48) (z := (D.getD i 0) - 48) (T rfl rfl) C (wn_u8 (by omega) (by omega))) ?_
                     refine aw_pure 7 (.int .i64 ((D.getD i 0) - 48)) rfl (by kernel_rfl) .none H82 (fun _ => dv_conv (a := (D.getD i 0) - 48) (z := (D.getD i 0) - 48) ui5 ui2 (T rfl rfl) (wr_i64 (by omega) (by omega))) ?_
                     refine aw_one 1 rfl (by kernel_rfl) .none (oe_callf (vs := [.int .i64 10]) co36 (ar1 C) (l1Int_ok  (by omega)) ?_)
                     rintro _ w89 ⟨nr84, A85, n86, c87, rfl, e90, h88⟩
                     have E91 := below_ext E81 E81.size e90
                     have lh88 := Num.len (by decide) h88
                     have H92 := (e90.blk H82)
                     refine ⟨.inr H92, ?_⟩
                     have h93 := ((h64.ext d80.ext).ext e90)
                     refine aw_one 2 rfl (by kernel_rfl) .none (oe_callf (vs := [.agg #[.bool nz, .slice Az lz cz], .agg #[.bool nr84, .slice A85 n86 c87]]) co43 (ar2 (T rfl rfl) (T rfl rfl)) (l1Mul_ok h93 h88 (by first | decide | omega) (by first | decide | omega)) ?_)
                     rintro _ w99 ⟨nr94, A95, n96, c97, rfl, e100, h98⟩
                     have E101 := below_ext E91 E91.size e100
                     have lh98 := Num.len (by decide) h98
                     have H102 := (e100.blk H92)
                     refine ⟨.inr H102, ?_⟩
                     refine aw_one 8 rfl (by kernel_rfl) .none (oe_callf (vs := [.int .i64 ((D.getD i 0) - 48)]) co36 (ar1 (T rfl rfl)) (l1Int_ok  (by omega)) ?_)
                     rintro _ w108 ⟨nr103, A104, n105, c106, rfl, e109, h107⟩
                     have E110 := below_ext E101 E101.size e109
                     have lh107 := Num.len (by decide) h107
                     have H111 := (e109.blk H102)
                     refine ⟨.inr H111, ?_⟩
                     have h112 := (h98.ext e109)
                     refine aw_one 9 rfl (by kernel_rfl) .none (oe_callf (vs := [.agg #[.bool nr94, .slice A95 n96 c97], .agg #[.bool nr103, .slice A104 n105 c106]]) co42 (ar2 (T rfl rfl) (T rfl rfl)) (l1Add_ok h112 h107 (by first | decide | omega) (by first | decide | omega)) ?_)
                     rintro _ w118 ⟨nr113, A114, n115, c116, rfl, e119, h117⟩
                     have E120 := below_ext E110 E110.size e119
                     have lh117 := Num.len (by decide) h117
                     have H121 := (e119.blk H111)
                     refine ⟨.inr H121, ?_⟩
                     refine aw_one 10 rfl (by kernel_rfl) .none (oe_store (v := .agg #[.bool nr113, .slice A114 n115 c116]) (vs := [.bool nr113, .slice A114 n115 c116]) (l := [.bool nr113, .slice A114 n115 c116]) (T rfl f59) (T rfl rfl) sz58 rfl rfl rfl H121 rfl ?_)
                     intro w122 s123 H124
                     have E125 := below_st E120 N44 s123
                     refine ⟨.inl rfl, ?_⟩
                     refine aw_done (by kernel_rfl) ?_
                     refine rk_inBlock ?_
                     refine rk_reg ?_
                     refine lw_v (.int .i64 ((i : Int))) (dv_move (T rfl f60)) ?_
                     refine lw_v (.int .i64 (((i : Int)) + 1)) (dv_add (a := (i : Int)) (b := 1) (z := ((i : Int)) + 1) (T rfl rfl) C (wr_i64 (by omega) (by omega))) ?_
                     refine lw_v (.int .i64 (((i : Int)) + 1)) (dv_assign (T rfl rfl)) ?_
                     refine lw_nil ?_
                     have h126 := (h117.st s123 H121 (by decide))
                     have hd127 : ∀ c ∈ D.take (i + 1), isD c := isD_take (by omega) hdg ⟨by omega, by omega⟩
                     have H128 := (s123.blk (e119.blk (e109.blk (e100.blk (e90.blk (d80.ext.blk H62))))) (by omega))
                     exact ih53 (D.length - ((i + 1))) _ _ (by rw [hd65]; omega) ⟨(i + 1), nr113, A114, n115, c116, rfl, f56, f57, f58, f59, (vi (by omega)), E125, H128, H124, (h126.tight (valD_take (by omega)).symm (valD_sz hd127 (by simp; omega))), (by omega), hd127⟩
               · refine rk_cf (T rfl (congrArg Value.bool (decide_eq_false hb66))) ?_
                 refine rk_exit rfl ?_
                 refine rk_seq ?_
                 refine rk_seq ?_
                 refine rk_reg ?_
                 refine lw_v (.bool ng) (dv_move (T rfl f58)) ?_
                 refine lw_nil ?_
                 refine rk_cf (T rfl (congrArg Value.bool hb31)) ?_
                 refine rk_skip ?_
                 refine rk_seq ?_
                 refine rk_reg ?_
                 refine lw_v (.agg #[.bool nz, .slice Az lz cz]) (dv_loads (l := [.bool nz, .slice Az lz cz]) agt58 sz58 (T rfl f59) H63 rfl) ?_
                 refine lw_e (oe_store (v := .agg #[.bool nz, .slice Az lz cz]) (vs := [.bool nz, .slice Az lz cz]) (l := [.bool nz, .slice Az lz cz]) (T rfl f56) (T rfl rfl) sz58 rfl rfl rfl H62 rfl ?_)
                 intro w129 s130 H131
                 have E132 := below_st E61 N4 s130
                 refine lw_v (.bool true) (dv_assign C) ?_
                 refine lw_nil ?_
                 refine rk_ret Tryd.func29 (v := .tuple #[.agg #[.bool nz, .slice Az lz cz], .bool true]) (res2 Tryd.results29 (rv_cells (l := [.bool nz, .slice Az lz cz]) agt58 sz58 rfl f56 H131 rfl) (rv_tmp rfl rfl)) ⟨_, rfl, ?_⟩
                 have h133 := (h64.st s130 H62 (by decide))
                 have hz1 := numD_of2 (i := i) hD hng (by omega)
                 have hz2 := (numD_of (i := i) hD hng (by omega) hdg).2
                 have hbn : ng = false := by assumption
                 have hzz : valD (D.take i) = numD L := by rw [← hz1, hbn]; rfl
                 exact ⟨_, _, _, _, _, tu2 rfl (vt ⟨(formD_iff hD hng).2 ⟨by omega, hz2, fun h48 => by first | (exfalso; omega) | (exact absurd h48 (by assumption)) | exact ⟨by assumption, by omega⟩⟩, by rw [hD]; omega⟩), E132, h133, fun _ => hzz⟩
         · refine lw_no (d := 35) rfl rfl (congrArg Value.bool (decide_eq_false hb30)) ?_
           refine lw_no (d := 35) rfl rfl (congrArg Value.bool (decide_eq_false hb30)) ?_
           refine lw_nou (d := 37) rfl rfl ?_
           refine lw_nou (d := 37) rfl rfl ?_
           refine lw_nou (d := 37) rfl rfl ?_
           refine lw_no (d := 35) rfl rfl (congrArg Value.bool (decide_eq_false hb30)) ?_
           refine lw_vy (.bool false) (d := 31) rfl rfl (congrArg Value.bool (decide_eq_false hb24)) (dv_pick_f (T rfl (congrArg Value.bool (decide_eq_false hb30))) C) ?_
           refine lw_v (.bool false) (dv_pick_f (T rfl (congrArg Value.bool (decide_eq_false hb24))) (T rfl rfl)) ?_
           refine lw_nil ?_
           refine rk_cf (T rfl rfl) ?_
           refine rk_skip ?_
           refine rk_seq ?_
           refine rk_reg ?_
           refine lw_v (.agg #[.bool false, .slice none 0 0]) (dv_build (pv := []) (l := [.bool false, .slice none 0 0]) zc58 pl58 trivial rfl) ?_
           refine lw_e (oe_alloc ze58 ?_)
           intro b134 w135 n136
           have N137 : w.heap.size ≤ b134 := n136.eq ▸ E17.size
           have : b1 < b134 := n136.eq ▸ lt_of_blk H18
           have E138 := below_ext E17 E17.size n136.ext
           refine lw_e (oe_store (v := .agg #[.bool false, .slice none 0 0]) (vs := [.bool false, .slice none 0 0]) (l := [.bool false, .slice none 0 0]) (T rfl rfl) (T rfl rfl) sz58 rfl rfl rfl n136.blk rfl ?_)
           intro w139 s140 H141
           have E142 := below_st E138 N137 s140
           refine lw_nil ?_
           refine rk_seq ?_
           refine rk_seq ?_
           refine rk_reg ?_
           refine lw_v (.int .i64 0) (dv_assign C) ?_
           refine lw_nil ?_
           refine rk_block ?_
           have H143 := (s140.blk (n136.ext.blk H18) (by omega))
           refine rk_loop (fun dm_ fr wl => ∃ (i : Nat) (nz : Bool) (Az : Option Addr) (lz cz : Nat), dm_ = D.length - i ∧ fr 4 = .pointer (some ⟨b1, 0, none⟩) ∧ fr 6 = .string (bOf D) ∧ fr 7 = .bool ng ∧ fr 8 = .pointer (some ⟨b134, 0, none⟩) ∧ fr 9 = .int .i64 ((i : Int)) ∧ Below w.heap.size w wl ∧ wl.heap[b1]? = some (.cells #[.bool false, .slice none 0 0] 58) ∧ wl.heap[b134]? = some (.cells #[.bool nz, .slice Az lz cz] 58) ∧ Num 32 61 .u32 wl nz Az lz cz (valD (D.take i)) S ∧ (i ≤ D.length) ∧ (∀ c ∈ D.take i, isD c)) (D.length - 0) ⟨0, false, none, 0, 0, rfl, f13, f15, f16, rfl, (vi (by omega)), E142, H143, H141, Num.zero, (Nat.zero_le _), (fun c hc => by cases hc)⟩ ?_
           intro d148 fr147 w144 hI145 ih146
           obtain ⟨i, nz, Az, lz, cz, hd158, f149, f150, f151, f152, f153, E154, H155, H156, h157, hi, hdg⟩ := hI145
           have lh157 := Num.len (by decide) h157
           refine rk_seq ?_
           refine rk_seq ?_
           refine rk_reg ?_
           refine lw_v (.int .i64 ((i : Int))) (dv_move (T rfl f153)) ?_
           refine lw_v (.string (bOf D)) (dv_move (T rfl f150)) ?_
           refine lw_v (.int .i64 ((D.length : Int))) (dv_lenS (L := D) ut9 (T rfl rfl)) ?_
           refine lw_v (.bool (decide (((i : Int)) < ((D.length : Int))))) (dv_lss (a := (i : Int)) (b := (D.length : Int)) (T rfl rfl) (T rfl rfl)) ?_
           refine lw_nil ?_
           by_cases hb159 : ((i : Int)) < ((D.length : Int))
           · refine rk_ct (T rfl (congrArg Value.bool (decide_eq_true hb159))) ?_
             refine rk_skip ?_
             refine rk_seq ?_
             refine rk_block ?_
             refine rk_seq ?_
             refine rk_seq ?_
             refine rk_reg ?_
             refine lw_v (.string (bOf D)) (dv_move (T rfl f150)) ?_
             refine lw_v (.int .i64 ((i : Int))) (dv_move (T rfl f153)) ?_
             have bg160 := okW.getD (okD hD hL) (by decide) i
             refine lw_v (.int .u8 (D.getD i 0)) (dv_indexS (L := D) (i := i) (j := (i : Int)) ut9 (T rfl rfl) (T rfl rfl) (okD hD hL) (by omega) (by first | omega | (simp; done) | (simp; omega))) ?_
             refine lw_v (.bool (decide ((D.getD i 0) < 48))) (dv_lss (a := D.getD i 0) (b := 48) (T rfl rfl) C) ?_
             refine lw_v (.bool (decide ((D.getD i 0) < 48))) (dv_move (T rfl rfl)) ?_
             by_cases hb161 : (D.getD i 0) < 48
             · refine lw_no (d := 56) rfl rfl (congrArg Value.bool (decide_eq_true hb161)) ?_
               refine lw_no (d := 56) rfl rfl (congrArg Value.bool (decide_eq_true hb161)) ?_
               refine lw_no (d := 56) rfl rfl (congrArg Value.bool (decide_eq_true hb161)) ?_
               refine lw_no (d := 56) rfl rfl (congrArg Value.bool (decide_eq_true hb161)) ?_
               refine lw_v (.bool true) (dv_pick_t (T rfl (congrArg Value.bool (decide_eq_true hb161))) C) ?_
               refine lw_nil ?_
               refine rk_ct (T rfl rfl) ?_
               refine rk_seq ?_
               refine rk_reg ?_
               refine lw_v (.agg #[.bool false, .slice none 0 0]) (dv_build (pv := []) (l := [.bool false, .slice none 0 0]) zc58 pl58 trivial rfl) ?_
               refine lw_e (oe_store (v := .agg #[.bool false, .slice none 0 0]) (vs := [.bool false, .slice none 0 0]) (l := [.bool false, .slice none 0 0]) (T rfl f149) (T rfl rfl) sz58 rfl rfl rfl H155 rfl ?_)
               intro w162 s163 H164
               have E165 := below_st E154 N4 s163
               refine lw_v (.bool false) (dv_assign C) ?_
               refine lw_nil ?_
               refine rk_ret Tryd.func29 (v := .tuple #[.agg #[.bool false, .slice none 0 0], .bool false]) (res2 Tryd.results29 (rv_cells (l := [.bool false, .slice none 0 0]) agt58 sz58 rfl f149 H164 rfl) (rv_tmp rfl rfl)) ⟨_, rfl, ?_⟩
               have hno : ¬ (formD L ∧ (digD L).length ≤ 15) := (fun hh => not_formD hD (i := i) (by omega) (fun hd => by unfold isD at hd; omega) hh.1)
               exact ⟨_, _, _, _, 0, tu2 rfl (vf hno), E165, Num.zero, fun hh => absurd hh hno⟩
             · refine lw_vy (.string (bOf D)) (d := 56) rfl rfl (congrArg Value.bool (decide_eq_false hb161)) (dv_move (T rfl f150)) ?_
               refine lw_vy (.int .i64 ((i : Int))) (d := 56) rfl rfl (congrArg Value.bool (decide_eq_false hb161)) (dv_move (T rfl f153)) ?_
               have bg166 := okW.getD (okD hD hL) (by decide) i
               refine lw_vy (.int .u8 (D.getD i 0)) (d := 56) rfl rfl (congrArg Value.bool (decide_eq_false hb161)) (dv_indexS (L := D) (i := i) (j := (i : Int)) ut9 (T rfl rfl) (T rfl rfl) (okD hD hL) (by omega) (by first | omega | (simp; done) | (simp; omega))) ?_
               refine lw_vy (.bool (decide (57 < (D.getD i 0)))) (d := 56) rfl rfl (congrArg Value.bool (decide_eq_false hb161)) (dv_gtr (a := D.getD i 0) (b := 57) (T rfl rfl) C) ?_
               refine lw_v (.bool (decide (57 < (D.getD i 0)))) (dv_pick_f (T rfl (congrArg Value.bool (decide_eq_false hb161))) (T rfl rfl)) ?_
               refine lw_nil ?_
               by_cases hb167 : 57 < (D.getD i 0)
               · refine rk_ct (T rfl (congrArg Value.bool (decide_eq_true hb167))) ?_
                 refine rk_seq ?_
                 refine rk_reg ?_
                 refine lw_v (.agg #[.bool false, .slice none 0 0]) (dv_build (pv := []) (l := [.bool false, .slice none 0 0]) zc58 pl58 trivial rfl) ?_
                 refine lw_e (oe_store (v := .agg #[.bool false, .slice none 0 0]) (vs := [.bool false, .slice none 0 0]) (l := [.bool false, .slice none 0 0]) (T rfl f149) (T rfl rfl) sz58 rfl rfl rfl H155 rfl ?_)
                 intro w168 s169 H170
                 have E171 := below_st E154 N4 s169
                 refine lw_v (.bool false) (dv_assign C) ?_
                 refine lw_nil ?_
                 refine rk_ret Tryd.func29 (v := .tuple #[.agg #[.bool false, .slice none 0 0], .bool false]) (res2 Tryd.results29 (rv_cells (l := [.bool false, .slice none 0 0]) agt58 sz58 rfl f149 H170 rfl) (rv_tmp rfl rfl)) ⟨_, rfl, ?_⟩
                 have hno : ¬ (formD L ∧ (digD L).length ≤ 15) := (fun hh => not_formD hD (i := i) (by omega) (fun hd => by unfold isD at hd; omega) hh.1)
                 exact ⟨_, _, _, _, 0, tu2 rfl (vf hno), E171, Num.zero, fun hh => absurd hh hno⟩
               · refine rk_cf (T rfl (congrArg Value.bool (decide_eq_false hb167))) ?_
                 refine rk_skip ?_
                 refine rk_any (fun w => w.heap[b134]? = some (.cells #[.bool nz, .slice Az lz cz] 58)) [10] mo ?_
                 intro w172 d173
                 have E174 := below_ext E154 E154.size d173.ext
                 have H175 := (d173.ext.blk H156)
                 refine aw_load 0 (.agg #[.bool nz, .slice Az lz cz]) rfl (by kernel_rfl) .none H175 (fun _ s => dv_loads (l := [.bool nz, .slice Az lz cz]) agt58 sz58 (T rfl f152) s rfl) ?_
                 refine aw_pure 3 (.string (bOf D)) rfl (by kernel_rfl) .none H175 (fun _ => dv_move (T rfl f150)) ?_
                 refine aw_pure 4 (.int .i64 ((i : Int))) rfl (by kernel_rfl) .none H175 (fun _ => dv_move (T rfl f153)) ?_
                 have bg176 := okW.getD (okD hD hL) (by decide) i
                 refine aw_pure 5 (.int .u8 (D.getD i 0)) rfl (by kernel_rfl) .none H175 (fun _ => dv_indexS (L := D) (i := i) (j := (i : Int)) ut9 (T rfl rfl) (T rfl rfl) (okD hD hL) (by omega) (by first | omega | (simp; done) | (simp; omega))) ?_
                 refine aw_pure 6 (.int .u8 ((D.getD i 0) - 48)) rfl (by kernel_rfl) .none H175 (fun _ => dv_sub (a := D.getD i 0) (b := 48) (z := (D.getD i 0) - 48) (T rfl rfl) C (wn_u8 (by omega) (by omega))) ?_
                 refine aw_pure 7 (.int .i64 ((D.getD i 0) - 48)) rfl (by kernel_rfl) .none H175 (fun _ => dv_conv (a := (D.getD i 0) - 48) (z := (D.getD i 0) - 48) ui5 ui2 (T rfl rfl) (wr_i64 (by omega) (by omega))) ?_
                 refine aw_one 1 rfl (by kernel_rfl) .none (oe_callf (vs := [.int .i64 10]) co36 (ar1 C) (l1Int_ok  (by omega)) ?_)
                 rintro _ w182 ⟨nr177, A178, n179, c180, rfl, e183, h181⟩
                 have E184 := below_ext E174 E174.size e183
                 have lh181 := Num.len (by decide) h181
                 have H185 := (e183.blk H175)
                 refine ⟨.inr H185, ?_⟩
                 have h186 := ((h157.ext d173.ext).ext e183)
                 refine aw_one 2 rfl (by kernel_rfl) .none (oe_callf (vs := [.agg #[.bool nz, .slice Az lz cz], .agg #[.bool nr177, .slice A178 n179 c180]]) co43 (ar2 (T rfl rfl) (T rfl rfl)) (l1Mul_ok h186 h181 (by first | decide | omega) (by first | decide | omega)) ?_)
                 rintro _ w192 ⟨nr187, A188, n189, c190, rfl, e193, h191⟩
                 have E194 := below_ext E184 E184.size e193
                 have lh191 := Num.len (by decide) h191
                 have H195 := (e193.blk H185)
                 refine ⟨.inr H195, ?_⟩
                 refine aw_one 8 rfl (by kernel_rfl) .none (oe_callf (vs := [.int .i64 ((D.getD i 0) - 48)]) co36 (ar1 (T rfl rfl)) (l1Int_ok  (by omega)) ?_)
                 rintro _ w201 ⟨nr196, A197, n198, c199, rfl, e202, h200⟩
                 have E203 := below_ext E194 E194.size e202
                 have lh200 := Num.len (by decide) h200
                 have H204 := (e202.blk H195)
                 refine ⟨.inr H204, ?_⟩
                 have h205 := (h191.ext e202)
                 refine aw_one 9 rfl (by kernel_rfl) .none (oe_callf (vs := [.agg #[.bool nr187, .slice A188 n189 c190], .agg #[.bool nr196, .slice A197 n198 c199]]) co42 (ar2 (T rfl rfl) (T rfl rfl)) (l1Add_ok h205 h200 (by first | decide | omega) (by first | decide | omega)) ?_)
                 rintro _ w211 ⟨nr206, A207, n208, c209, rfl, e212, h210⟩
                 have E213 := below_ext E203 E203.size e212
                 have lh210 := Num.len (by decide) h210
                 have H214 := (e212.blk H204)
                 refine ⟨.inr H214, ?_⟩
                 refine aw_one 10 rfl (by kernel_rfl) .none (oe_store (v := .agg #[.bool nr206, .slice A207 n208 c209]) (vs := [.bool nr206, .slice A207 n208 c209]) (l := [.bool nr206, .slice A207 n208 c209]) (T rfl f152) (T rfl rfl) sz58 rfl rfl rfl H214 rfl ?_)
                 intro w215 s216 H217
                 have E218 := below_st E213 N137 s216
                 refine ⟨.inl rfl, ?_⟩
                 refine aw_done (by kernel_rfl) ?_
                 refine rk_inBlock ?_
                 refine rk_reg ?_
                 refine lw_v (.int .i64 ((i : Int))) (dv_move (T rfl f153)) ?_
                 refine lw_v (.int .i64 (((i : Int)) + 1)) (dv_add (a := (i : Int)) (b := 1) (z := ((i : Int)) + 1) (T rfl rfl) C (wr_i64 (by omega) (by omega))) ?_
                 refine lw_v (.int .i64 (((i : Int)) + 1)) (dv_assign (T rfl rfl)) ?_
                 refine lw_nil ?_
                 have h219 := (h210.st s216 H214 (by decide))
                 have hd220 : ∀ c ∈ D.take (i + 1), isD c := isD_take (by omega) hdg ⟨by omega, by omega⟩
                 have H221 := (s216.blk (e212.blk (e202.blk (e193.blk (e183.blk (d173.ext.blk H155))))) (by omega))
                 exact ih146 (D.length - ((i + 1))) _ _ (by rw [hd158]; omega) ⟨(i + 1), nr206, A207, n208, c209, rfl, f149, f150, f151, f152, (vi (by omega)), E218, H221, H217, (h219.tight (valD_take (by omega)).symm (valD_sz hd220 (by simp; omega))), (by omega), hd220⟩
           · refine rk_cf (T rfl (congrArg Value.bool (decide_eq_false hb159))) ?_
             refine rk_exit rfl ?_
             refine rk_seq ?_
             refine rk_seq ?_
             refine rk_reg ?_
             refine lw_v (.bool ng) (dv_move (T rfl f151)) ?_
             refine lw_nil ?_
             rcases Bool.eq_false_or_eq_true (ng) with hb222 | hb222
             · refine rk_ct (T rfl (congrArg Value.bool hb222)) ?_
               refine rk_reg ?_
               refine lw_v (.agg #[.bool nz, .slice Az lz cz]) (dv_loads (l := [.bool nz, .slice Az lz cz]) agt58 sz58 (T rfl f152) H156 rfl) ?_
               refine lw_e (oe_callf (vs := [.agg #[.bool nz, .slice Az lz cz]]) co44 (ar1 (T rfl rfl)) (l1Neg_ok h157 ) ?_)
               rintro _ w228 ⟨nr223, A224, n225, c226, rfl, e229, h227⟩
               have E230 := below_ext E154 E154.size e229
               have lh227 := Num.len (by decide) h227
               have H231 := (e229.blk H156)
               refine lw_e (oe_store (v := .agg #[.bool nr223, .slice A224 n225 c226]) (vs := [.bool nr223, .slice A224 n225 c226]) (l := [.bool nr223, .slice A224 n225 c226]) (T rfl f152) (T rfl rfl) sz58 rfl rfl rfl H231 rfl ?_)
               intro w232 s233 H234
               have E235 := below_st E230 N137 s233
               refine lw_nil ?_
               refine rk_seq ?_
               refine rk_reg ?_
               refine lw_v (.agg #[.bool nr223, .slice A224 n225 c226]) (dv_loads (l := [.bool nr223, .slice A224 n225 c226]) agt58 sz58 (T rfl f152) H234 rfl) ?_
               have H236 := (s233.blk (e229.blk H155) (by omega))
               refine lw_e (oe_store (v := .agg #[.bool nr223, .slice A224 n225 c226]) (vs := [.bool nr223, .slice A224 n225 c226]) (l := [.bool nr223, .slice A224 n225 c226]) (T rfl f149) (T rfl rfl) sz58 rfl rfl rfl H236 rfl ?_)
               intro w237 s238 H239
               have E240 := below_st E235 N4 s238
               refine lw_v (.bool true) (dv_assign C) ?_
               refine lw_nil ?_
               refine rk_ret Tryd.func29 (v := .tuple #[.agg #[.bool nr223, .slice A224 n225 c226], .bool true]) (res2 Tryd.results29 (rv_cells (l := [.bool nr223, .slice A224 n225 c226]) agt58 sz58 rfl f149 H239 rfl) (rv_tmp rfl rfl)) ⟨_, rfl, ?_⟩
               have h241 := ((h227.st s233 H231 (by decide)).st s238 H236 (by decide))
               have hz1 := numD_of2 (i := i) hD hng (by omega)
               have hz2 := (numD_of (i := i) hD hng (by omega) hdg).2
               have hbn : ng = true := by assumption
               have hzz : -(valD (D.take i)) = numD L := by rw [← hz1, hbn]; rfl
               exact ⟨_, _, _, _, _, tu2 rfl (vt ⟨(formD_iff hD hng).2 ⟨by omega, hz2, fun h48 => by first | (exfalso; omega) | (exact absurd h48 (by assumption)) | exact ⟨by assumption, by omega⟩⟩, by rw [hD]; omega⟩), E240, h241, fun _ => hzz⟩
             · refine rk_cf (T rfl (congrArg Value.bool hb222)) ?_
               refine rk_skip ?_
               refine rk_seq ?_
               refine rk_reg ?_
               refine lw_v (.agg #[.bool nz, .slice Az lz cz]) (dv_loads (l := [.bool nz, .slice Az lz cz]) agt58 sz58 (T rfl f152) H156 rfl) ?_
               refine lw_e (oe_store (v := .agg #[.bool nz, .slice Az lz cz]) (vs := [.bool nz, .slice Az lz cz]) (l := [.bool nz, .slice Az lz cz]) (T rfl f149) (T rfl rfl) sz58 rfl rfl rfl H155 rfl ?_)
               intro w242 s243 H244
               have E245 := below_st E154 N4 s243
               refine lw_v (.bool true) (dv_assign C) ?_
               refine lw_nil ?_
               refine rk_ret Tryd.func29 (v := .tuple #[.agg #[.bool nz, .slice Az lz cz], .bool true]) (res2 Tryd.results29 (rv_cells (l := [.bool nz, .slice Az lz cz]) agt58 sz58 rfl f149 H244 rfl) (rv_tmp rfl rfl)) ⟨_, rfl, ?_⟩
               have h246 := (h157.st s243 H155 (by decide))
               have hz1 := numD_of2 (i := i) hD hng (by omega)
               have hz2 := (numD_of (i := i) hD hng (by omega) hdg).2
               have hbn : ng = false := by assumption
               have hzz : valD (D.take i) = numD L := by rw [← hz1, hbn]; rfl
               exact ⟨_, _, _, _, _, tu2 rfl (vt ⟨(formD_iff hD hng).2 ⟨by omega, hz2, fun h48 => by first | (exfalso; omega) | (exact absurd h48 (by assumption)) | exact ⟨by assumption, by omega⟩⟩, by rw [hD]; omega⟩), E245, h246, fun _ => hzz⟩
   · refine rk_seq ?_
     refine rk_reg ?_
     refine lw_v (.bool (decide ((L.getD 0 0) = 45))) (dv_move (T rfl rfl)) ?_
     refine lw_nil ?_
     by_cases hb247 : (L.getD 0 0) = 45
     · refine rk_ct (T rfl (congrArg Value.bool (decide_eq_true hb247))) ?_
       refine rk_reg ?_
       refine lw_v (.string (bOf L)) (dv_move (T rfl rfl)) ?_
       refine lw_v (.string (bOf (L.drop 1))) (dv_sliceSl (L := L) (i := 1) (j := 1) ut9 (T rfl rfl) C (by omega) (by first | omega | (simp; done) | (simp; omega))) ?_
       refine lw_v (.string (bOf (L.drop 1))) (dv_assign (T rfl rfl)) ?_
       refine lw_nil ?_
       exact hj10 _ _ ⟨(L.drop 1), true, rfl, rfl, rfl, rfl, (congrArg Value.bool (decide_eq_true hb247)), E5, n3.blk, (digD_t (by assumption)).1, (digD_t (by assumption)).2, (by simp)⟩
     · refine rk_cf (T rfl (congrArg Value.bool (decide_eq_false hb247))) ?_
       refine rk_skip ?_
       exact hj10 _ _ ⟨L, false, rfl, rfl, rfl, rfl, (congrArg Value.bool (decide_eq_false hb247)), E5, n3.blk, (digD_f (by assumption)).1, (digD_f (by assumption)).2, (Nat.le_refl _)⟩
 · refine lw_no (d := 14) rfl rfl (congrArg Value.bool (decide_eq_false hb6)) ?_
   refine lw_no (d := 14) rfl rfl (congrArg Value.bool (decide_eq_false hb6)) ?_
   refine lw_no (d := 14) rfl rfl (congrArg Value.bool (decide_eq_false hb6)) ?_
   refine lw_v (.bool false) (dv_pick_f (T rfl (congrArg Value.bool (decide_eq_false hb6))) C) ?_
   refine lw_v (.bool false) (dv_assign (T rfl rfl)) ?_
   refine lw_nil ?_
   refine rk_seq ?_
   refine rk_join (fun fr wl => ∃ (D : List Int) (ng : Bool), fr 1 = .int .i64 15 ∧ fr 4 = .pointer (some ⟨b1, 0, none⟩) ∧ fr 5 = .bool false ∧ fr 6 = .string (bOf D) ∧ fr 7 = .bool ng ∧ Below w.heap.size w wl ∧ wl.heap[b1]? = some (.cells #[.bool false, .slice none 0 0] 58) ∧ (digD L = D) ∧ (negD L = ng) ∧ (D.length ≤ L.length)) ?_ (fun hj250 => ?_)
   · intro fr251 w248 hI249
     obtain ⟨D, ng, f252, f253, f254, f255, f256, E257, H258, hD, hng, hDl⟩ := hI249
     refine rk_seq ?_
     refine rk_seq ?_
     refine rk_reg ?_
     refine lw_v (.string (bOf D)) (dv_move (T rfl f255)) ?_
     refine lw_v (.int .i64 ((D.length : Int))) (dv_lenS (L := D) ut9 (T rfl rfl)) ?_
     refine lw_v (.bool (decide (((D.length : Int)) < 1))) (dv_lss (a := (D.length : Int)) (b := 1) (T rfl rfl) C) ?_
     refine lw_v (.bool (decide (((D.length : Int)) < 1))) (dv_move (T rfl rfl)) ?_
     by_cases hb259 : ((D.length : Int)) < 1
     · refine lw_no (d := 25) rfl rfl (congrArg Value.bool (decide_eq_true hb259)) ?_
       refine lw_no (d := 25) rfl rfl (congrArg Value.bool (decide_eq_true hb259)) ?_
       refine lw_no (d := 25) rfl rfl (congrArg Value.bool (decide_eq_true hb259)) ?_
       refine lw_no (d := 25) rfl rfl (congrArg Value.bool (decide_eq_true hb259)) ?_
       refine lw_v (.bool true) (dv_pick_t (T rfl (congrArg Value.bool (decide_eq_true hb259))) C) ?_
       refine lw_v (.bool true) (dv_move (T rfl rfl)) ?_
       refine lw_no (d := 31) rfl rfl (rfl) ?_
       refine lw_no (d := 31) rfl rfl (rfl) ?_
       refine lw_no (d := 31) rfl rfl (rfl) ?_
       refine lw_no (d := 31) rfl rfl (rfl) ?_
       refine lw_nou (d := 35) rfl rfl ?_
       refine lw_nou (d := 35) rfl rfl ?_
       refine lw_nou (d := 37) rfl rfl ?_
       refine lw_nou (d := 37) rfl rfl ?_
       refine lw_nou (d := 37) rfl rfl ?_
       refine lw_nou (d := 35) rfl rfl ?_
       refine lw_no (d := 31) rfl rfl (rfl) ?_
       refine lw_v (.bool true) (dv_pick_t (T rfl rfl) C) ?_
       refine lw_nil ?_
       refine rk_ct (T rfl rfl) ?_
       refine rk_seq ?_
       refine rk_reg ?_
       refine lw_v (.agg #[.bool false, .slice none 0 0]) (dv_build (pv := []) (l := [.bool false, .slice none 0 0]) zc58 pl58 trivial rfl) ?_
       refine lw_e (oe_store (v := .agg #[.bool false, .slice none 0 0]) (vs := [.bool false, .slice none 0 0]) (l := [.bool false, .slice none 0 0]) (T rfl f253) (T rfl rfl) sz58 rfl rfl rfl H258 rfl ?_)
       intro w260 s261 H262
       have E263 := below_st E257 N4 s261
       refine lw_v (.bool false) (dv_assign C) ?_
       refine lw_nil ?_
       refine rk_ret Tryd.func29 (v := .tuple #[.agg #[.bool false, .slice none 0 0], .bool false]) (res2 Tryd.results29 (rv_cells (l := [.bool false, .slice none 0 0]) agt58 sz58 rfl f253 H262 rfl) (rv_tmp rfl rfl)) ⟨_, rfl, ?_⟩
       have hno : ¬ (formD L ∧ (digD L).length ≤ 15) := (fun hh => by have h1 := (formD_iff hD hng).1 hh.1; have h2 := hh.2; rw [hD] at h2; first | omega | (have h3 := h1.2.2 (by assumption); first | omega | (have h4 := h3.1; simp_all)))
       exact ⟨_, _, _, _, 0, tu2 rfl (vf hno), E263, Num.zero, fun hh => absurd hh hno⟩
     · refine lw_vy (.string (bOf D)) (d := 25) rfl rfl (congrArg Value.bool (decide_eq_false hb259)) (dv_move (T rfl f255)) ?_
       refine lw_vy (.int .i64 ((D.length : Int))) (d := 25) rfl rfl (congrArg Value.bool (decide_eq_false hb259)) (dv_lenS (L := D) ut9 (T rfl rfl)) ?_
       refine lw_vy (.int .i64 15) (d := 25) rfl rfl (congrArg Value.bool (decide_eq_false hb259)) (dv_move (T rfl f252)) ?_
       refine lw_vy (.bool (decide (15 < ((D.length : Int))))) (d := 25) rfl rfl (congrArg Value.bool (decide_eq_false hb259)) (dv_gtr (a := (D.length : Int)) (b := 15) (T rfl rfl) (T rfl rfl)) ?_
       refine lw_v (.bool (decide (15 < ((D.length : Int))))) (dv_pick_f (T rfl (congrArg Value.bool (decide_eq_false hb259))) (T rfl rfl)) ?_
       refine lw_v (.bool (decide (15 < ((D.length : Int))))) (dv_move (T rfl rfl)) ?_
       by_cases hb264 : 15 < ((D.length : Int))
       · refine lw_no (d := 31) rfl rfl (congrArg Value.bool (decide_eq_true hb264)) ?_
         refine lw_no (d := 31) rfl rfl (congrArg Value.bool (decide_eq_true hb264)) ?_
         refine lw_no (d := 31) rfl rfl (congrArg Value.bool (decide_eq_true hb264)) ?_
         refine lw_no (d := 31) rfl rfl (congrArg Value.bool (decide_eq_true hb264)) ?_
         refine lw_nou (d := 35) rfl rfl ?_
         refine lw_nou (d := 35) rfl rfl ?_
         refine lw_nou (d := 37) rfl rfl ?_
         refine lw_nou (d := 37) rfl rfl ?_
         refine lw_nou (d := 37) rfl rfl ?_
         refine lw_nou (d := 35) rfl rfl ?_
         refine lw_no (d := 31) rfl rfl (congrArg Value.bool (decide_eq_true hb264)) ?_
         refine lw_v (.bool true) (dv_pick_t (T rfl (congrArg Value.bool (decide_eq_true hb264))) C) ?_
         refine lw_nil ?_
         refine rk_ct (T rfl rfl) ?_
         refine rk_seq ?_
         refine rk_reg ?_
         refine lw_v (.agg #[.bool false, .slice none 0 0]) (dv_build (pv := []) (l := [.bool false, .slice none 0 0]) zc58 pl58 trivial rfl) ?_
         refine lw_e (oe_store (v := .agg #[.bool false, .slice none 0 0]) (vs := [.bool false, .slice none 0 0]) (l := [.bool false, .slice none 0 0]) (T rfl f253) (T rfl rfl) sz58 rfl rfl rfl H258 rfl ?_)
         intro w265 s266 H267
         have E268 := below_st E257 N4 s266
         refine lw_v (.bool false) (dv_assign C) ?_
         refine lw_nil ?_
         refine rk_ret Tryd.func29 (v := .tuple #[.agg #[.bool false, .slice none 0 0], .bool false]) (res2 Tryd.results29 (rv_cells (l := [.bool false, .slice none 0 0]) agt58 sz58 rfl f253 H267 rfl) (rv_tmp rfl rfl)) ⟨_, rfl, ?_⟩
         have hno : ¬ (formD L ∧ (digD L).length ≤ 15) := (fun hh => by have h1 := (formD_iff hD hng).1 hh.1; have h2 := hh.2; rw [hD] at h2; first | omega | (have h3 := h1.2.2 (by assumption); first | omega | (have h4 := h3.1; simp_all)))
         exact ⟨_, _, _, _, 0, tu2 rfl (vf hno), E268, Num.zero, fun hh => absurd hh hno⟩
       · refine lw_vy (.string (bOf D)) (d := 31) rfl rfl (congrArg Value.bool (decide_eq_false hb264)) (dv_move (T rfl f255)) ?_
         have bg269 := okW.getD (okD hD hL) (by decide) 0
         refine lw_vy (.int .u8 (D.getD 0 0)) (d := 31) rfl rfl (congrArg Value.bool (decide_eq_false hb264)) (dv_indexS (L := D) (i := 0) (j := 0) ut9 (T rfl rfl) C (okD hD hL) (by omega) (by first | omega | (simp; done) | (simp; omega))) ?_
         refine lw_vy (.bool (decide ((D.getD 0 0) = 48))) (d := 31) rfl rfl (congrArg Value.bool (decide_eq_false hb264)) (dv_eql (a := D.getD 0 0) (b := 48) (T rfl rfl) C) ?_
         refine lw_vy (.bool (decide ((D.getD 0 0) = 48))) (d := 31) rfl rfl (congrArg Value.bool (decide_eq_false hb264)) (dv_move (T rfl rfl)) ?_
         by_cases hb270 : (D.getD 0 0) = 48
         · refine lw_vy (.bool ng) (d := 35) rfl rfl (congrArg Value.bool (decide_eq_true hb270)) (dv_move (T rfl f256)) ?_
           refine lw_vy (.bool ng) (d := 35) rfl rfl (congrArg Value.bool (decide_eq_true hb270)) (dv_move (T rfl rfl)) ?_
           rcases Bool.eq_false_or_eq_true (ng) with hb271 | hb271
           · refine lw_no (d := 37) rfl rfl (congrArg Value.bool hb271) ?_
             refine lw_no (d := 37) rfl rfl (congrArg Value.bool hb271) ?_
             refine lw_no (d := 37) rfl rfl (congrArg Value.bool hb271) ?_
             refine lw_vy (.bool true) (d := 35) rfl rfl (congrArg Value.bool (decide_eq_true hb270)) (dv_pick_t (T rfl (congrArg Value.bool hb271)) C) ?_
             refine lw_vy (.bool true) (d := 31) rfl rfl (congrArg Value.bool (decide_eq_false hb264)) (dv_pick_t (T rfl (congrArg Value.bool (decide_eq_true hb270))) (T rfl rfl)) ?_
             refine lw_v (.bool true) (dv_pick_f (T rfl (congrArg Value.bool (decide_eq_false hb264))) (T rfl rfl)) ?_
             refine lw_nil ?_
             refine rk_ct (T rfl rfl) ?_
             refine rk_seq ?_
             refine rk_reg ?_
             refine lw_v (.agg #[.bool false, .slice none 0 0]) (dv_build (pv := []) (l := [.bool false, .slice none 0 0]) zc58 pl58 trivial rfl) ?_
             refine lw_e (oe_store (v := .agg #[.bool false, .slice none 0 0]) (vs := [.bool false, .slice none 0 0]) (l := [.bool false, .slice none 0 0]) (T rfl f253) (T rfl rfl) sz58 rfl rfl rfl H258 rfl ?_)
             intro w272 s273 H274
             have E275 := below_st E257 N4 s273
             refine lw_v (.bool false) (dv_assign C) ?_
             refine lw_nil ?_
             refine rk_ret Tryd.func29 (v := .tuple #[.agg #[.bool false, .slice none 0 0], .bool false]) (res2 Tryd.results29 (rv_cells (l := [.bool false, .slice none 0 0]) agt58 sz58 rfl f253 H274 rfl) (rv_tmp rfl rfl)) ⟨_, rfl, ?_⟩
             have hno : ¬ (formD L ∧ (digD L).length ≤ 15) := (fun hh => by have h1 := (formD_iff hD hng).1 hh.1; have h2 := hh.2; rw [hD] at h2; first | omega | (have h3 := h1.2.2 (by assumption); first | omega | (have h4 := h3.1; simp_all)))
             exact ⟨_, _, _, _, 0, tu2 rfl (vf hno), E275, Num.zero, fun hh => absurd hh hno⟩
           · refine lw_vy (.string (bOf D)) (d := 37) rfl rfl (congrArg Value.bool hb271) (dv_move (T rfl f255)) ?_
             refine lw_vy (.int .i64 ((D.length : Int))) (d := 37) rfl rfl (congrArg Value.bool hb271) (dv_lenS (L := D) ut9 (T rfl rfl)) ?_
             refine lw_vy (.bool (decide (1 < ((D.length : Int))))) (d := 37) rfl rfl (congrArg Value.bool hb271) (dv_gtr (a := (D.length : Int)) (b := 1) (T rfl rfl) C) ?_
             refine lw_vy (.bool (decide (1 < ((D.length : Int))))) (d := 35) rfl rfl (congrArg Value.bool (decide_eq_true hb270)) (dv_pick_f (T rfl (congrArg Value.bool hb271)) (T rfl rfl)) ?_
             refine lw_vy (.bool (decide (1 < ((D.length : Int))))) (d := 31) rfl rfl (congrArg Value.bool (decide_eq_false hb264)) (dv_pick_t (T rfl (congrArg Value.bool (decide_eq_true hb270))) (T rfl rfl)) ?_
             refine lw_v (.bool (decide (1 < ((D.length : Int))))) (dv_pick_f (T rfl (congrArg Value.bool (decide_eq_false hb264))) (T rfl rfl)) ?_
             refine lw_nil ?_
             by_cases hb276 : 1 < ((D.length : Int))
             · refine rk_ct (T rfl (congrArg Value.bool (decide_eq_true hb276))) ?_
               refine rk_seq ?_
               refine rk_reg ?_
               refine lw_v (.agg #[.bool false, .slice none 0 0]) (dv_build (pv := []) (l := [.bool false, .slice none 0 0]) zc58 pl58 trivial rfl) ?_
               refine lw_e (oe_store (v := .agg #[.bool false, .slice none 0 0]) (vs := [.bool false, .slice none 0 0]) (l := [.bool false, .slice none 0 0]) (T rfl f253) (T rfl rfl) sz58 rfl rfl rfl H258 rfl ?_)
               intro w277 s278 H279
               have E280 := below_st E257 N4 s278
               refine lw_v (.bool false) (dv_assign C) ?_
               refine lw_nil ?_
               refine rk_ret Tryd.func29 (v := .tuple #[.agg #[.bool false, .slice none 0 0], .bool false]) (res2 Tryd.results29 (rv_cells (l := [.bool false, .slice none 0 0]) agt58 sz58 rfl f253 H279 rfl) (rv_tmp rfl rfl)) ⟨_, rfl, ?_⟩
               have hno : ¬ (formD L ∧ (digD L).length ≤ 15) := (fun hh => by have h1 := (formD_iff hD hng).1 hh.1; have h2 := hh.2; rw [hD] at h2; first | omega | (have h3 := h1.2.2 (by assumption); first | omega | (have h4 := h3.1; simp_all)))
               exact ⟨_, _, _, _, 0, tu2 rfl (vf hno), E280, Num.zero, fun hh => absurd hh hno⟩
             · refine rk_cf (T rfl (congrArg Value.bool (decide_eq_false hb276))) ?_
               refine rk_skip ?_
               refine rk_seq ?_
               refine rk_reg ?_
               refine lw_v (.agg #[.bool false, .slice none 0 0]) (dv_build (pv := []) (l := [.bool false, .slice none 0 0]) zc58 pl58 trivial rfl) ?_
               refine lw_e (oe_alloc ze58 ?_)
               intro b281 w282 n283
               have N284 : w.heap.size ≤ b281 := n283.eq ▸ E257.size
               have : b1 < b281 := n283.eq ▸ lt_of_blk H258
               have E285 := below_ext E257 E257.size n283.ext
               refine lw_e (oe_store (v := .agg #[.bool false, .slice none 0 0]) (vs := [.bool false, .slice none 0 0]) (l := [.bool false, .slice none 0 0]) (T rfl rfl) (T rfl rfl) sz58 rfl rfl rfl n283.blk rfl ?_)
               intro w286 s287 H288
               have E289 := below_st E285 N284 s287
               refine lw_nil ?_
               refine rk_seq ?_
               refine rk_seq ?_
               refine rk_reg ?_
               refine lw_v (.int .i64 0) (dv_assign C) ?_
               refine lw_nil ?_
               refine rk_block ?_
               have H290 := (s287.blk (n283.ext.blk H258) (by omega))
               refine rk_loop (fun dm_ fr wl => ∃ (i : Nat) (nz : Bool) (Az : Option Addr) (lz cz : Nat), dm_ = D.length - i ∧ fr 4 = .pointer (some ⟨b1, 0, none⟩) ∧ fr 6 = .string (bOf D) ∧ fr 7 = .bool ng ∧ fr 8 = .pointer (some ⟨b281, 0, none⟩) ∧ fr 9 = .int .i64 ((i : Int)) ∧ Below w.heap.size w wl ∧ wl.heap[b1]? = some (.cells #[.bool false, .slice none 0 0] 58) ∧ wl.heap[b281]? = some (.cells #[.bool nz, .slice Az lz cz] 58) ∧ Num 32 61 .u32 wl nz Az lz cz (valD (D.take i)) S ∧ (i ≤ D.length) ∧ (∀ c ∈ D.take i, isD c)) (D.length - 0) ⟨0, false, none, 0, 0, rfl, f253, f255, f256, rfl, (vi (by omega)), E289, H290, H288, Num.zero, (Nat.zero_le _), (fun c hc => by cases hc)⟩ ?_
               intro d295 fr294 w291 hI292 ih293
               obtain ⟨i, nz, Az, lz, cz, hd305, f296, f297, f298, f299, f300, E301, H302, H303, h304, hi, hdg⟩ := hI292
               have lh304 := Num.len (by decide) h304
               refine rk_seq ?_
               refine rk_seq ?_
               refine rk_reg ?_
               refine lw_v (.int .i64 ((i : Int))) (dv_move (T rfl f300)) ?_
               refine lw_v (.string (bOf D)) (dv_move (T rfl f297)) ?_
               refine lw_v (.int .i64 ((D.length : Int))) (dv_lenS (L := D) ut9 (T rfl rfl)) ?_
               refine lw_v (.bool (decide (((i : Int)) < ((D.length : Int))))) (dv_lss (a := (i : Int)) (b := (D.length : Int)) (T rfl rfl) (T rfl rfl)) ?_
               refine lw_nil ?_
               by_cases hb306 : ((i : Int)) < ((D.length : Int))
               · refine rk_ct (T rfl (congrArg Value.bool (decide_eq_true hb306))) ?_
                 refine rk_skip ?_
                 refine rk_seq ?_
                 refine rk_block ?_
                 refine rk_seq ?_
                 refine rk_seq ?_
                 refine rk_reg ?_
                 refine lw_v (.string (bOf D)) (dv_move (T rfl f297)) ?_
                 refine lw_v (.int .i64 ((i : Int))) (dv_move (T rfl f300)) ?_
                 have bg307 := okW.getD (okD hD hL) (by decide) i
                 refine lw_v (.int .u8 (D.getD i 0)) (dv_indexS (L := D) (i := i) (j := (i : Int)) ut9 (T rfl rfl) (T rfl rfl) (okD hD hL) (by omega) (by first | omega | (simp; done) | (simp; omega))) ?_
                 refine lw_v (.bool (decide ((D.getD i 0) < 48))) (dv_lss (a := D.getD i 0) (b := 48) (T rfl rfl) C) ?_
                 refine lw_v (.bool (decide ((D.getD i 0) < 48))) (dv_move (T rfl rfl)) ?_
                 by_cases hb308 : (D.getD i 0) < 48
                 · refine lw_no (d := 56) rfl rfl (congrArg Value.bool (decide_eq_true hb308)) ?_
                   refine lw_no (d := 56) rfl rfl (congrArg Value.bool (decide_eq_true hb308)) ?_
                   refine lw_no (d := 56) rfl rfl (congrArg Value.bool (decide_eq_true hb308)) ?_
                   refine lw_no (d := 56) rfl rfl (congrArg Value.bool (decide_eq_true hb308)) ?_
                   refine lw_v (.bool true) (dv_pick_t (T rfl (congrArg Value.bool (decide_eq_true hb308))) C) ?_
                   refine lw_nil ?_
                   refine rk_ct (T rfl rfl) ?_
                   refine rk_seq ?_
                   refine rk_reg ?_
                   refine lw_v (.agg #[.bool false, .slice none 0 0]) (dv_build (pv := []) (l := [.bool false, .slice none 0 0]) zc58 pl58 trivial rfl) ?_
                   refine lw_e (oe_store (v := .agg #[.bool false, .slice none 0 0]) (vs := [.bool false, .slice none 0 0]) (l := [.bool false, .slice none 0 0]) (T rfl f296) (T rfl rfl) sz58 rfl rfl rfl H302 rfl ?_)
                   intro w309 s310 H311
                   have E312 := below_st E301 N4 s310
                   refine lw_v (.bool false) (dv_assign C) ?_
                   refine lw_nil ?_
                   refine rk_ret Tryd.func29 (v := .tuple #[.agg #[.bool false, .slice none 0 0], .bool false]) (res2 Tryd.results29 (rv_cells (l := [.bool false, .slice none 0 0]) agt58 sz58 rfl f296 H311 rfl) (rv_tmp rfl rfl)) ⟨_, rfl, ?_⟩
                   have hno : ¬ (formD L ∧ (digD L).length ≤ 15) := (fun hh => not_formD hD (i := i) (by omega) (fun hd => by unfold isD at hd; omega) hh.1)
                   exact ⟨_, _, _, _, 0, tu2 rfl (vf hno), E312, Num.zero, fun hh => absurd hh hno⟩
                 · refine lw_vy (.string (bOf D)) (d := 56) rfl rfl (congrArg Value.bool (decide_eq_false hb308)) (dv_move (T rfl f297)) ?_
                   refine lw_vy (.int .i64 ((i : Int))) (d := 56) rfl rfl (congrArg Value.bool (decide_eq_false hb308)) (dv_move (T rfl f300)) ?_
                   have bg313 := okW.getD (okD hD hL) (by decide) i
                   refine lw_vy (.int .u8 (D.getD i 0)) (d := 56) rfl rfl (congrArg Value.bool (decide_eq_false hb308)) (dv_indexS (L := D) (i := i) (j := (i : Int)) ut9 (T rfl rfl) (T rfl rfl) (okD hD hL) (by omega) (by first | omega | (simp; done) | (simp; omega))) ?_
                   refine lw_vy (.bool (decide (57 < (D.getD i 0)))) (d := 56) rfl rfl (congrArg Value.bool (decide_eq_false hb308)) (dv_gtr (a := D.getD i 0) (b := 57) (T rfl rfl) C) ?_
                   refine lw_v (.bool (decide (57 < (D.getD i 0)))) (dv_pick_f (T rfl (congrArg Value.bool (decide_eq_false hb308))) (T rfl rfl)) ?_
                   refine lw_nil ?_
                   by_cases hb314 : 57 < (D.getD i 0)
                   · refine rk_ct (T rfl (congrArg Value.bool (decide_eq_true hb314))) ?_
                     refine rk_seq ?_
                     refine rk_reg ?_
                     refine lw_v (.agg #[.bool false, .slice none 0 0]) (dv_build (pv := []) (l := [.bool false, .slice none 0 0]) zc58 pl58 trivial rfl) ?_
                     refine lw_e (oe_store (v := .agg #[.bool false, .slice none 0 0]) (vs := [.bool false, .slice none 0 0]) (l := [.bool false, .slice none 0 0]) (T rfl f296) (T rfl rfl) sz58 rfl rfl rfl H302 rfl ?_)
                     intro w315 s316 H317
                     have E318 := below_st E301 N4 s316
                     refine lw_v (.bool false) (dv_assign C) ?_
                     refine lw_nil ?_
                     refine rk_ret Tryd.func29 (v := .tuple #[.agg #[.bool false, .slice none 0 0], .bool false]) (res2 Tryd.results29 (rv_cells (l := [.bool false, .slice none 0 0]) agt58 sz58 rfl f296 H317 rfl) (rv_tmp rfl rfl)) ⟨_, rfl, ?_⟩
                     have hno : ¬ (formD L ∧ (digD L).length ≤ 15) := (fun hh => not_formD hD (i := i) (by omega) (fun hd => by unfold isD at hd; omega) hh.1)
                     exact ⟨_, _, _, _, 0, tu2 rfl (vf hno), E318, Num.zero, fun hh => absurd hh hno⟩
                   · refine rk_cf (T rfl (congrArg Value.bool (decide_eq_false hb314))) ?_
                     refine rk_skip ?_
                     refine rk_any (fun w => w.heap[b281]? = some (.cells #[.bool nz, .slice Az lz cz] 58)) [10] mo ?_
                     intro w319 d320
                     have E321 := below_ext E301 E301.size d320.ext
                     have H322 := (d320.ext.blk H303)
                     refine aw_load 0 (.agg #[.bool nz, .slice Az lz cz]) rfl (by kernel_rfl) .none H322 (fun _ s => dv_loads (l := [.bool nz, .slice Az lz cz]) agt58 sz58 (T rfl f299) s rfl) ?_
                     refine aw_pure 3 (.string (bOf D)) rfl (by kernel_rfl) .none H322 (fun _ => dv_move (T rfl f297)) ?_
                     refine aw_pure 4 (.int .i64 ((i : Int))) rfl (by kernel_rfl) .none H322 (fun _ => dv_move (T rfl f300)) ?_
                     have bg323 := okW.getD (okD hD hL) (by decide) i
                     refine aw_pure 5 (.int .u8 (D.getD i 0)) rfl (by kernel_rfl) .none H322 (fun _ => dv_indexS (L := D) (i := i) (j := (i : Int)) ut9 (T rfl rfl) (T rfl rfl) (okD hD hL) (by omega) (by first | omega | (simp; done) | (simp; omega))) ?_
                     refine aw_pure 6 (.int .u8 ((D.getD i 0) - 48)) rfl (by kernel_rfl) .none H322 (fun _ => dv_sub (a := D.getD i 0) (b := 48) (z := (D.getD i 0) - 48) (T rfl rfl) C (wn_u8 (by omega) (by omega))) ?_
                     refine aw_pure 7 (.int .i64 ((D.getD i 0) - 48)) rfl (by kernel_rfl) .none H322 (fun _ => dv_conv (a := (D.getD i 0) - 48) (z := (D.getD i 0) - 48) ui5 ui2 (T rfl rfl) (wr_i64 (by omega) (by omega))) ?_
                     refine aw_one 1 rfl (by kernel_rfl) .none (oe_callf (vs := [.int .i64 10]) co36 (ar1 C) (l1Int_ok  (by omega)) ?_)
                     rintro _ w329 ⟨nr324, A325, n326, c327, rfl, e330, h328⟩
                     have E331 := below_ext E321 E321.size e330
                     have lh328 := Num.len (by decide) h328
                     have H332 := (e330.blk H322)
                     refine ⟨.inr H332, ?_⟩
                     have h333 := ((h304.ext d320.ext).ext e330)
                     refine aw_one 2 rfl (by kernel_rfl) .none (oe_callf (vs := [.agg #[.bool nz, .slice Az lz cz], .agg #[.bool nr324, .slice A325 n326 c327]]) co43 (ar2 (T rfl rfl) (T rfl rfl)) (l1Mul_ok h333 h328 (by first | decide | omega) (by first | decide | omega)) ?_)
                     rintro _ w339 ⟨nr334, A335, n336, c337, rfl, e340, h338⟩
                     have E341 := below_ext E331 E331.size e340
                     have lh338 := Num.len (by decide) h338
                     have H342 := (e340.blk H332)
                     refine ⟨.inr H342, ?_⟩
                     refine aw_one 8 rfl (by kernel_rfl) .none (oe_callf (vs := [.int .i64 ((D.getD i 0) - 48)]) co36 (ar1 (T rfl rfl)) (l1Int_ok  (by omega)) ?_)
                     rintro _ w348 ⟨nr343, A344, n345, c346, rfl, e349, h347⟩
                     have E350 := below_ext E341 E341.size e349
                     have lh347 := Num.len (by decide) h347
                     have H351 := (e349.blk H342)
                     refine ⟨.inr H351, ?_⟩
                     have h352 := (h338.ext e349)
                     refine aw_one 9 rfl (by kernel_rfl) .none (oe_callf (vs := [.agg #[.bool nr334, .slice A335 n336 c337], .agg #[.bool nr343, .slice A344 n345 c346]]) co42 (ar2 (T rfl rfl) (T rfl rfl)) (l1Add_ok h352 h347 (by first | decide | omega) (by first | decide | omega)) ?_)
                     rintro _ w358 ⟨nr353, A354, n355, c356, rfl, e359, h357⟩
                     have E360 := below_ext E350 E350.size e359
                     have lh357 := Num.len (by decide) h357
                     have H361 := (e359.blk H351)
                     refine ⟨.inr H361, ?_⟩
                     refine aw_one 10 rfl (by kernel_rfl) .none (oe_store (v := .agg #[.bool nr353, .slice A354 n355 c356]) (vs := [.bool nr353, .slice A354 n355 c356]) (l := [.bool nr353, .slice A354 n355 c356]) (T rfl f299) (T rfl rfl) sz58 rfl rfl rfl H361 rfl ?_)
                     intro w362 s363 H364
                     have E365 := below_st E360 N284 s363
                     refine ⟨.inl rfl, ?_⟩
                     refine aw_done (by kernel_rfl) ?_
                     refine rk_inBlock ?_
                     refine rk_reg ?_
                     refine lw_v (.int .i64 ((i : Int))) (dv_move (T rfl f300)) ?_
                     refine lw_v (.int .i64 (((i : Int)) + 1)) (dv_add (a := (i : Int)) (b := 1) (z := ((i : Int)) + 1) (T rfl rfl) C (wr_i64 (by omega) (by omega))) ?_
                     refine lw_v (.int .i64 (((i : Int)) + 1)) (dv_assign (T rfl rfl)) ?_
                     refine lw_nil ?_
                     have h366 := (h357.st s363 H361 (by decide))
                     have hd367 : ∀ c ∈ D.take (i + 1), isD c := isD_take (by omega) hdg ⟨by omega, by omega⟩
                     have H368 := (s363.blk (e359.blk (e349.blk (e340.blk (e330.blk (d320.ext.blk H302))))) (by omega))
                     exact ih293 (D.length - ((i + 1))) _ _ (by rw [hd305]; omega) ⟨(i + 1), nr353, A354, n355, c356, rfl, f296, f297, f298, f299, (vi (by omega)), E365, H368, H364, (h366.tight (valD_take (by omega)).symm (valD_sz hd367 (by simp; omega))), (by omega), hd367⟩
               · refine rk_cf (T rfl (congrArg Value.bool (decide_eq_false hb306))) ?_
                 refine rk_exit rfl ?_
                 refine rk_seq ?_
                 refine rk_seq ?_
                 refine rk_reg ?_
                 refine lw_v (.bool ng) (dv_move (T rfl f298)) ?_
                 refine lw_nil ?_
                 refine rk_cf (T rfl (congrArg Value.bool hb271)) ?_
                 refine rk_skip ?_
                 refine rk_seq ?_
                 refine rk_reg ?_
                 refine lw_v (.agg #[.bool nz, .slice Az lz cz]) (dv_loads (l := [.bool nz, .slice Az lz cz]) agt58 sz58 (T rfl f299) H303 rfl) ?_
                 refine lw_e (oe_store (v := .agg #[.bool nz, .slice Az lz cz]) (vs := [.bool nz, .slice Az lz cz]) (l := [.bool nz, .slice Az lz cz]) (T rfl f296) (T rfl rfl) sz58 rfl rfl rfl H302 rfl ?_)
                 intro w369 s370 H371
                 have E372 := below_st E301 N4 s370
                 refine lw_v (.bool true) (dv_assign C) ?_
                 refine lw_nil ?_
                 refine rk_ret Tryd.func29 (v := .tuple #[.agg #[.bool nz, .slice Az lz cz], .bool true]) (res2 Tryd.results29 (rv_cells (l := [.bool nz, .slice Az lz cz]) agt58 sz58 rfl f296 H371 rfl) (rv_tmp rfl rfl)) ⟨_, rfl, ?_⟩
                 have h373 := (h304.st s370 H302 (by decide))
                 have hz1 := numD_of2 (i := i) hD hng (by omega)
                 have hz2 := (numD_of (i := i) hD hng (by omega) hdg).2
                 have hbn : ng = false := by assumption
                 have hzz : valD (D.take i) = numD L := by rw [← hz1, hbn]; rfl
                 exact ⟨_, _, _, _, _, tu2 rfl (vt ⟨(formD_iff hD hng).2 ⟨by omega, hz2, fun h48 => by first | (exfalso; omega) | (exact absurd h48 (by assumption)) | exact ⟨by assumption, by omega⟩⟩, by rw [hD]; omega⟩), E372, h373, fun _ => hzz⟩
         · refine lw_no (d := 35) rfl rfl (congrArg Value.bool (decide_eq_false hb270)) ?_
           refine lw_no (d := 35) rfl rfl (congrArg Value.bool (decide_eq_false hb270)) ?_
           refine lw_nou (d := 37) rfl rfl ?_
           refine lw_nou (d := 37) rfl rfl ?_
           refine lw_nou (d := 37) rfl rfl ?_
           refine lw_no (d := 35) rfl rfl (congrArg Value.bool (decide_eq_false hb270)) ?_
           refine lw_vy (.bool false) (d := 31) rfl rfl (congrArg Value.bool (decide_eq_false hb264)) (dv_pick_f (T rfl (congrArg Value.bool (decide_eq_false hb270))) C) ?_
           refine lw_v (.bool false) (dv_pick_f (T rfl (congrArg Value.bool (decide_eq_false hb264))) (T rfl rfl)) ?_
           refine lw_nil ?_
           refine rk_cf (T rfl rfl) ?_
           refine rk_skip ?_
           refine rk_seq ?_
           refine rk_reg ?_
           refine lw_v (.agg #[.bool false, .slice none 0 0]) (dv_build (pv := []) (l := [.bool false, .slice none 0 0]) zc58 pl58 trivial rfl) ?_
           refine lw_e (oe_alloc ze58 ?_)
           intro b374 w375 n376
           have N377 : w.heap.size ≤ b374 := n376.eq ▸ E257.size
           have : b1 < b374 := n376.eq ▸ lt_of_blk H258
           have E378 := below_ext E257 E257.size n376.ext
           refine lw_e (oe_store (v := .agg #[.bool false, .slice none 0 0]) (vs := [.bool false, .slice none 0 0]) (l := [.bool false, .slice none 0 0]) (T rfl rfl) (T rfl rfl) sz58 rfl rfl rfl n376.blk rfl ?_)
           intro w379 s380 H381
           have E382 := below_st E378 N377 s380
           refine lw_nil ?_
           refine rk_seq ?_
           refine rk_seq ?_
           refine rk_reg ?_
           refine lw_v (.int .i64 0) (dv_assign C) ?_
           refine lw_nil ?_
           refine rk_block ?_
           have H383 := (s380.blk (n376.ext.blk H258) (by omega))
           refine rk_loop (fun dm_ fr wl => ∃ (i : Nat) (nz : Bool) (Az : Option Addr) (lz cz : Nat), dm_ = D.length - i ∧ fr 4 = .pointer (some ⟨b1, 0, none⟩) ∧ fr 6 = .string (bOf D) ∧ fr 7 = .bool ng ∧ fr 8 = .pointer (some ⟨b374, 0, none⟩) ∧ fr 9 = .int .i64 ((i : Int)) ∧ Below w.heap.size w wl ∧ wl.heap[b1]? = some (.cells #[.bool false, .slice none 0 0] 58) ∧ wl.heap[b374]? = some (.cells #[.bool nz, .slice Az lz cz] 58) ∧ Num 32 61 .u32 wl nz Az lz cz (valD (D.take i)) S ∧ (i ≤ D.length) ∧ (∀ c ∈ D.take i, isD c)) (D.length - 0) ⟨0, false, none, 0, 0, rfl, f253, f255, f256, rfl, (vi (by omega)), E382, H383, H381, Num.zero, (Nat.zero_le _), (fun c hc => by cases hc)⟩ ?_
           intro d388 fr387 w384 hI385 ih386
           obtain ⟨i, nz, Az, lz, cz, hd398, f389, f390, f391, f392, f393, E394, H395, H396, h397, hi, hdg⟩ := hI385
           have lh397 := Num.len (by decide) h397
           refine rk_seq ?_
           refine rk_seq ?_
           refine rk_reg ?_
           refine lw_v (.int .i64 ((i : Int))) (dv_move (T rfl f393)) ?_
           refine lw_v (.string (bOf D)) (dv_move (T rfl f390)) ?_
           refine lw_v (.int .i64 ((D.length : Int))) (dv_lenS (L := D) ut9 (T rfl rfl)) ?_
           refine lw_v (.bool (decide (((i : Int)) < ((D.length : Int))))) (dv_lss (a := (i : Int)) (b := (D.length : Int)) (T rfl rfl) (T rfl rfl)) ?_
           refine lw_nil ?_
           by_cases hb399 : ((i : Int)) < ((D.length : Int))
           · refine rk_ct (T rfl (congrArg Value.bool (decide_eq_true hb399))) ?_
             refine rk_skip ?_
             refine rk_seq ?_
             refine rk_block ?_
             refine rk_seq ?_
             refine rk_seq ?_
             refine rk_reg ?_
             refine lw_v (.string (bOf D)) (dv_move (T rfl f390)) ?_
             refine lw_v (.int .i64 ((i : Int))) (dv_move (T rfl f393)) ?_
             have bg400 := okW.getD (okD hD hL) (by decide) i
             refine lw_v (.int .u8 (D.getD i 0)) (dv_indexS (L := D) (i := i) (j := (i : Int)) ut9 (T rfl rfl) (T rfl rfl) (okD hD hL) (by omega) (by first | omega | (simp; done) | (simp; omega))) ?_
             refine lw_v (.bool (decide ((D.getD i 0) < 48))) (dv_lss (a := D.getD i 0) (b := 48) (T rfl rfl) C) ?_
             refine lw_v (.bool (decide ((D.getD i 0) < 48))) (dv_move (T rfl rfl)) ?_
             by_cases hb401 : (D.getD i 0) < 48
             · refine lw_no (d := 56) rfl rfl (congrArg Value.bool (decide_eq_true hb401)) ?_
               refine lw_no (d := 56) rfl rfl (congrArg Value.bool (decide_eq_true hb401)) ?_
               refine lw_no (d := 56) rfl rfl (congrArg Value.bool (decide_eq_true hb401)) ?_
               refine lw_no (d := 56) rfl rfl (congrArg Value.bool (decide_eq_true hb401)) ?_
               refine lw_v (.bool true) (dv_pick_t (T rfl (congrArg Value.bool (decide_eq_true hb401))) C) ?_
               refine lw_nil ?_
               refine rk_ct (T rfl rfl) ?_
               refine rk_seq ?_
               refine rk_reg ?_
               refine lw_v (.agg #[.bool false, .slice none 0 0]) (dv_build (pv := []) (l := [.bool false, .slice none 0 0]) zc58 pl58 trivial rfl) ?_
               refine lw_e (oe_store (v := .agg #[.bool false, .slice none 0 0]) (vs := [.bool false, .slice none 0 0]) (l := [.bool false, .slice none 0 0]) (T rfl f389) (T rfl rfl) sz58 rfl rfl rfl H395 rfl ?_)
               intro w402 s403 H404
               have E405 := below_st E394 N4 s403
               refine lw_v (.bool false) (dv_assign C) ?_
               refine lw_nil ?_
               refine rk_ret Tryd.func29 (v := .tuple #[.agg #[.bool false, .slice none 0 0], .bool false]) (res2 Tryd.results29 (rv_cells (l := [.bool false, .slice none 0 0]) agt58 sz58 rfl f389 H404 rfl) (rv_tmp rfl rfl)) ⟨_, rfl, ?_⟩
               have hno : ¬ (formD L ∧ (digD L).length ≤ 15) := (fun hh => not_formD hD (i := i) (by omega) (fun hd => by unfold isD at hd; omega) hh.1)
               exact ⟨_, _, _, _, 0, tu2 rfl (vf hno), E405, Num.zero, fun hh => absurd hh hno⟩
             · refine lw_vy (.string (bOf D)) (d := 56) rfl rfl (congrArg Value.bool (decide_eq_false hb401)) (dv_move (T rfl f390)) ?_
               refine lw_vy (.int .i64 ((i : Int))) (d := 56) rfl rfl (congrArg Value.bool (decide_eq_false hb401)) (dv_move (T rfl f393)) ?_
               have bg406 := okW.getD (okD hD hL) (by decide) i
               refine lw_vy (.int .u8 (D.getD i 0)) (d := 56) rfl rfl (congrArg Value.bool (decide_eq_false hb401)) (dv_indexS (L := D) (i := i) (j := (i : Int)) ut9 (T rfl rfl) (T rfl rfl) (okD hD hL) (by omega) (by first | omega | (simp; done) | (simp; omega))) ?_
               refine lw_vy (.bool (decide (57 < (D.getD i 0)))) (d := 56) rfl rfl (congrArg Value.bool (decide_eq_false hb401)) (dv_gtr (a := D.getD i 0) (b := 57) (T rfl rfl) C) ?_
               refine lw_v (.bool (decide (57 < (D.getD i 0)))) (dv_pick_f (T rfl (congrArg Value.bool (decide_eq_false hb401))) (T rfl rfl)) ?_
               refine lw_nil ?_
               by_cases hb407 : 57 < (D.getD i 0)
               · refine rk_ct (T rfl (congrArg Value.bool (decide_eq_true hb407))) ?_
                 refine rk_seq ?_
                 refine rk_reg ?_
                 refine lw_v (.agg #[.bool false, .slice none 0 0]) (dv_build (pv := []) (l := [.bool false, .slice none 0 0]) zc58 pl58 trivial rfl) ?_
                 refine lw_e (oe_store (v := .agg #[.bool false, .slice none 0 0]) (vs := [.bool false, .slice none 0 0]) (l := [.bool false, .slice none 0 0]) (T rfl f389) (T rfl rfl) sz58 rfl rfl rfl H395 rfl ?_)
                 intro w408 s409 H410
                 have E411 := below_st E394 N4 s409
                 refine lw_v (.bool false) (dv_assign C) ?_
                 refine lw_nil ?_
                 refine rk_ret Tryd.func29 (v := .tuple #[.agg #[.bool false, .slice none 0 0], .bool false]) (res2 Tryd.results29 (rv_cells (l := [.bool false, .slice none 0 0]) agt58 sz58 rfl f389 H410 rfl) (rv_tmp rfl rfl)) ⟨_, rfl, ?_⟩
                 have hno : ¬ (formD L ∧ (digD L).length ≤ 15) := (fun hh => not_formD hD (i := i) (by omega) (fun hd => by unfold isD at hd; omega) hh.1)
                 exact ⟨_, _, _, _, 0, tu2 rfl (vf hno), E411, Num.zero, fun hh => absurd hh hno⟩
               · refine rk_cf (T rfl (congrArg Value.bool (decide_eq_false hb407))) ?_
                 refine rk_skip ?_
                 refine rk_any (fun w => w.heap[b374]? = some (.cells #[.bool nz, .slice Az lz cz] 58)) [10] mo ?_
                 intro w412 d413
                 have E414 := below_ext E394 E394.size d413.ext
                 have H415 := (d413.ext.blk H396)
                 refine aw_load 0 (.agg #[.bool nz, .slice Az lz cz]) rfl (by kernel_rfl) .none H415 (fun _ s => dv_loads (l := [.bool nz, .slice Az lz cz]) agt58 sz58 (T rfl f392) s rfl) ?_
                 refine aw_pure 3 (.string (bOf D)) rfl (by kernel_rfl) .none H415 (fun _ => dv_move (T rfl f390)) ?_
                 refine aw_pure 4 (.int .i64 ((i : Int))) rfl (by kernel_rfl) .none H415 (fun _ => dv_move (T rfl f393)) ?_
                 have bg416 := okW.getD (okD hD hL) (by decide) i
                 refine aw_pure 5 (.int .u8 (D.getD i 0)) rfl (by kernel_rfl) .none H415 (fun _ => dv_indexS (L := D) (i := i) (j := (i : Int)) ut9 (T rfl rfl) (T rfl rfl) (okD hD hL) (by omega) (by first | omega | (simp; done) | (simp; omega))) ?_
                 refine aw_pure 6 (.int .u8 ((D.getD i 0) - 48)) rfl (by kernel_rfl) .none H415 (fun _ => dv_sub (a := D.getD i 0) (b := 48) (z := (D.getD i 0) - 48) (T rfl rfl) C (wn_u8 (by omega) (by omega))) ?_
                 refine aw_pure 7 (.int .i64 ((D.getD i 0) - 48)) rfl (by kernel_rfl) .none H415 (fun _ => dv_conv (a := (D.getD i 0) - 48) (z := (D.getD i 0) - 48) ui5 ui2 (T rfl rfl) (wr_i64 (by omega) (by omega))) ?_
                 refine aw_one 1 rfl (by kernel_rfl) .none (oe_callf (vs := [.int .i64 10]) co36 (ar1 C) (l1Int_ok  (by omega)) ?_)
                 rintro _ w422 ⟨nr417, A418, n419, c420, rfl, e423, h421⟩
                 have E424 := below_ext E414 E414.size e423
                 have lh421 := Num.len (by decide) h421
                 have H425 := (e423.blk H415)
                 refine ⟨.inr H425, ?_⟩
                 have h426 := ((h397.ext d413.ext).ext e423)
                 refine aw_one 2 rfl (by kernel_rfl) .none (oe_callf (vs := [.agg #[.bool nz, .slice Az lz cz], .agg #[.bool nr417, .slice A418 n419 c420]]) co43 (ar2 (T rfl rfl) (T rfl rfl)) (l1Mul_ok h426 h421 (by first | decide | omega) (by first | decide | omega)) ?_)
                 rintro _ w432 ⟨nr427, A428, n429, c430, rfl, e433, h431⟩
                 have E434 := below_ext E424 E424.size e433
                 have lh431 := Num.len (by decide) h431
                 have H435 := (e433.blk H425)
                 refine ⟨.inr H435, ?_⟩
                 refine aw_one 8 rfl (by kernel_rfl) .none (oe_callf (vs := [.int .i64 ((D.getD i 0) - 48)]) co36 (ar1 (T rfl rfl)) (l1Int_ok  (by omega)) ?_)
                 rintro _ w441 ⟨nr436, A437, n438, c439, rfl, e442, h440⟩
                 have E443 := below_ext E434 E434.size e442
                 have lh440 := Num.len (by decide) h440
                 have H444 := (e442.blk H435)
                 refine ⟨.inr H444, ?_⟩
                 have h445 := (h431.ext e442)
                 refine aw_one 9 rfl (by kernel_rfl) .none (oe_callf (vs := [.agg #[.bool nr427, .slice A428 n429 c430], .agg #[.bool nr436, .slice A437 n438 c439]]) co42 (ar2 (T rfl rfl) (T rfl rfl)) (l1Add_ok h445 h440 (by first | decide | omega) (by first | decide | omega)) ?_)
                 rintro _ w451 ⟨nr446, A447, n448, c449, rfl, e452, h450⟩
                 have E453 := below_ext E443 E443.size e452
                 have lh450 := Num.len (by decide) h450
                 have H454 := (e452.blk H444)
                 refine ⟨.inr H454, ?_⟩
                 refine aw_one 10 rfl (by kernel_rfl) .none (oe_store (v := .agg #[.bool nr446, .slice A447 n448 c449]) (vs := [.bool nr446, .slice A447 n448 c449]) (l := [.bool nr446, .slice A447 n448 c449]) (T rfl f392) (T rfl rfl) sz58 rfl rfl rfl H454 rfl ?_)
                 intro w455 s456 H457
                 have E458 := below_st E453 N377 s456
                 refine ⟨.inl rfl, ?_⟩
                 refine aw_done (by kernel_rfl) ?_
                 refine rk_inBlock ?_
                 refine rk_reg ?_
                 refine lw_v (.int .i64 ((i : Int))) (dv_move (T rfl f393)) ?_
                 refine lw_v (.int .i64 (((i : Int)) + 1)) (dv_add (a := (i : Int)) (b := 1) (z := ((i : Int)) + 1) (T rfl rfl) C (wr_i64 (by omega) (by omega))) ?_
                 refine lw_v (.int .i64 (((i : Int)) + 1)) (dv_assign (T rfl rfl)) ?_
                 refine lw_nil ?_
                 have h459 := (h450.st s456 H454 (by decide))
                 have hd460 : ∀ c ∈ D.take (i + 1), isD c := isD_take (by omega) hdg ⟨by omega, by omega⟩
                 have H461 := (s456.blk (e452.blk (e442.blk (e433.blk (e423.blk (d413.ext.blk H395))))) (by omega))
                 exact ih386 (D.length - ((i + 1))) _ _ (by rw [hd398]; omega) ⟨(i + 1), nr446, A447, n448, c449, rfl, f389, f390, f391, f392, (vi (by omega)), E458, H461, H457, (h459.tight (valD_take (by omega)).symm (valD_sz hd460 (by simp; omega))), (by omega), hd460⟩
           · refine rk_cf (T rfl (congrArg Value.bool (decide_eq_false hb399))) ?_
             refine rk_exit rfl ?_
             refine rk_seq ?_
             refine rk_seq ?_
             refine rk_reg ?_
             refine lw_v (.bool ng) (dv_move (T rfl f391)) ?_
             refine lw_nil ?_
             rcases Bool.eq_false_or_eq_true (ng) with hb462 | hb462
             · refine rk_ct (T rfl (congrArg Value.bool hb462)) ?_
               refine rk_reg ?_
               refine lw_v (.agg #[.bool nz, .slice Az lz cz]) (dv_loads (l := [.bool nz, .slice Az lz cz]) agt58 sz58 (T rfl f392) H396 rfl) ?_
               refine lw_e (oe_callf (vs := [.agg #[.bool nz, .slice Az lz cz]]) co44 (ar1 (T rfl rfl)) (l1Neg_ok h397 ) ?_)
               rintro _ w468 ⟨nr463, A464, n465, c466, rfl, e469, h467⟩
               have E470 := below_ext E394 E394.size e469
               have lh467 := Num.len (by decide) h467
               have H471 := (e469.blk H396)
               refine lw_e (oe_store (v := .agg #[.bool nr463, .slice A464 n465 c466]) (vs := [.bool nr463, .slice A464 n465 c466]) (l := [.bool nr463, .slice A464 n465 c466]) (T rfl f392) (T rfl rfl) sz58 rfl rfl rfl H471 rfl ?_)
               intro w472 s473 H474
               have E475 := below_st E470 N377 s473
               refine lw_nil ?_
               refine rk_seq ?_
               refine rk_reg ?_
               refine lw_v (.agg #[.bool nr463, .slice A464 n465 c466]) (dv_loads (l := [.bool nr463, .slice A464 n465 c466]) agt58 sz58 (T rfl f392) H474 rfl) ?_
               have H476 := (s473.blk (e469.blk H395) (by omega))
               refine lw_e (oe_store (v := .agg #[.bool nr463, .slice A464 n465 c466]) (vs := [.bool nr463, .slice A464 n465 c466]) (l := [.bool nr463, .slice A464 n465 c466]) (T rfl f389) (T rfl rfl) sz58 rfl rfl rfl H476 rfl ?_)
               intro w477 s478 H479
               have E480 := below_st E475 N4 s478
               refine lw_v (.bool true) (dv_assign C) ?_
               refine lw_nil ?_
               refine rk_ret Tryd.func29 (v := .tuple #[.agg #[.bool nr463, .slice A464 n465 c466], .bool true]) (res2 Tryd.results29 (rv_cells (l := [.bool nr463, .slice A464 n465 c466]) agt58 sz58 rfl f389 H479 rfl) (rv_tmp rfl rfl)) ⟨_, rfl, ?_⟩
               have h481 := ((h467.st s473 H471 (by decide)).st s478 H476 (by decide))
               have hz1 := numD_of2 (i := i) hD hng (by omega)
               have hz2 := (numD_of (i := i) hD hng (by omega) hdg).2
               have hbn : ng = true := by assumption
               have hzz : -(valD (D.take i)) = numD L := by rw [← hz1, hbn]; rfl
               exact ⟨_, _, _, _, _, tu2 rfl (vt ⟨(formD_iff hD hng).2 ⟨by omega, hz2, fun h48 => by first | (exfalso; omega) | (exact absurd h48 (by assumption)) | exact ⟨by assumption, by omega⟩⟩, by rw [hD]; omega⟩), E480, h481, fun _ => hzz⟩
             · refine rk_cf (T rfl (congrArg Value.bool hb462)) ?_
               refine rk_skip ?_
               refine rk_seq ?_
               refine rk_reg ?_
               refine lw_v (.agg #[.bool nz, .slice Az lz cz]) (dv_loads (l := [.bool nz, .slice Az lz cz]) agt58 sz58 (T rfl f392) H396 rfl) ?_
               refine lw_e (oe_store (v := .agg #[.bool nz, .slice Az lz cz]) (vs := [.bool nz, .slice Az lz cz]) (l := [.bool nz, .slice Az lz cz]) (T rfl f389) (T rfl rfl) sz58 rfl rfl rfl H395 rfl ?_)
               intro w482 s483 H484
               have E485 := below_st E394 N4 s483
               refine lw_v (.bool true) (dv_assign C) ?_
               refine lw_nil ?_
               refine rk_ret Tryd.func29 (v := .tuple #[.agg #[.bool nz, .slice Az lz cz], .bool true]) (res2 Tryd.results29 (rv_cells (l := [.bool nz, .slice Az lz cz]) agt58 sz58 rfl f389 H484 rfl) (rv_tmp rfl rfl)) ⟨_, rfl, ?_⟩
               have h486 := (h397.st s483 H395 (by decide))
               have hz1 := numD_of2 (i := i) hD hng (by omega)
               have hz2 := (numD_of (i := i) hD hng (by omega) hdg).2
               have hbn : ng = false := by assumption
               have hzz : valD (D.take i) = numD L := by rw [← hz1, hbn]; rfl
               exact ⟨_, _, _, _, _, tu2 rfl (vt ⟨(formD_iff hD hng).2 ⟨by omega, hz2, fun h48 => by first | (exfalso; omega) | (exact absurd h48 (by assumption)) | exact ⟨by assumption, by omega⟩⟩, by rw [hD]; omega⟩), E485, h486, fun _ => hzz⟩
   · refine rk_seq ?_
     refine rk_reg ?_
     refine lw_v (.bool false) (dv_move (T rfl rfl)) ?_
     refine lw_nil ?_
     refine rk_cf (T rfl rfl) ?_
     refine rk_skip ?_
     exact hj250 _ _ ⟨L, false, rfl, rfl, rfl, rfl, rfl, E5, n3.blk, (digD_f (getD0 (by assumption))).1, (digD_f (getD0 (by assumption))).2, (Nat.le_refl _)⟩
set_option maxHeartbeats 1000000 in
theorem l6Int_ok {w : World} {L : List Int} (hL : okW 256 L) (hl : L.length ≤ 1000000) : Ct Tryd.prog 15 [.string (bOf L)] w fun v w1 => ∃ n, v = .tuple #[.int .i64 n, .bool (decide (decS L))] ∧ Ext w w1 ∧ (decS L → n = numD L) ∧ (-9223372036854775808 ≤ n ∧ n ≤ 9223372036854775807) := by
 refine ct_run (n := 37) Tryd.func15 rfl Tryd.ntmps15 rfl ?_
 have E0 : Below w.heap.size w w := Below.refl _ _
 refine rk_seq ?_
 refine rk_reg ?_
 refine lw_v (.int .i64 0) (dv_assign C) ?_
 refine lw_v (.bool false) (dv_assign C) ?_
 refine lw_nil ?_
 refine rk_seq ?_
 refine rk_reg ?_
 refine lw_v (.string (bOf L)) (dv_move (T rfl rfl)) ?_
 refine lw_e (oe_callf (vs := [.string (bOf L), .int .i64 15]) co29 (ar2 (T rfl rfl) C) (l1Read_ok (S := 400) (hL) (by first | omega | (simp; done) | (simp; omega)) (by decide)) ?_)
 rintro _ w8 ⟨nr1, A2, n3, c4, zr5, rfl, e9, h6, hzr7⟩
 have := Below.fresh e9
 have E10 := below_ext E0 E0.size e9
 have lh6 := Num.len (by decide) h6
 refine lw_v (.tuple #[.agg #[.bool nr1, .slice A2 n3 c4], .bool (decide (formD L ∧ (digD L).length ≤ 15))]) (dv_move (T rfl rfl)) ?_
 refine lw_v (.agg #[.bool nr1, .slice A2 n3 c4]) (dv_extract (vs := #[.agg #[.bool nr1, .slice A2 n3 c4], .bool (decide (formD L ∧ (digD L).length ≤ 15))]) (T rfl rfl) rfl) ?_
 refine lw_v (.bool (decide (formD L ∧ (digD L).length ≤ 15))) (dv_extract (vs := #[.agg #[.bool nr1, .slice A2 n3 c4], .bool (decide (formD L ∧ (digD L).length ≤ 15))]) (T rfl rfl) rfl) ?_
 refine lw_e (oe_alloc ze58 ?_)
 intro b11 w12 n13
 have N14 : w.heap.size ≤ b11 := n13.eq ▸ E10.size
 have := n13.eq; have := n13.size
 have := Below.fresh n13.ext
 have E15 := below_ext E10 E10.size n13.ext
 refine lw_e (oe_store (v := .agg #[.bool nr1, .slice A2 n3 c4]) (vs := [.bool nr1, .slice A2 n3 c4]) (l := [.bool nr1, .slice A2 n3 c4]) (T rfl rfl) (T rfl rfl) sz58 rfl rfl rfl n13.blk rfl ?_)
 intro w16 s17 H18
 have := s17.size
 have E19 := below_st E15 N14 s17
 refine lw_v (.bool (decide (formD L ∧ (digD L).length ≤ 15))) (dv_assign (T rfl rfl)) ?_
 refine lw_nil ?_
 refine rk_seq ?_
 refine rk_seq ?_
 refine rk_reg ?_
 refine lw_v (.bool (decide (formD L ∧ (digD L).length ≤ 15))) (dv_move (T rfl rfl)) ?_
 refine lw_v (.bool (decide (¬ (formD L ∧ (digD L).length ≤ 15)))) (dv_notd (p := formD L ∧ (digD L).length ≤ 15) (T rfl rfl)) ?_
 refine lw_nil ?_
 by_cases hb20 : formD L ∧ (digD L).length ≤ 15
 · refine rk_cf (T rfl (congrArg Value.bool (decide_eq_false (not_not_intro hb20)))) ?_
   refine rk_skip ?_
   refine rk_seq ?_
   -- cells [('bool', 'nr1'), ('slice', 'A2', 'n3', 'c4')]
   have h21 := ((h6.ext n13.ext).st s17 n13.blk (by decide))
   have hdS : decS L := decS_form.2 (by assumption)
   have hzN := hzr7 (by assumption)
   have hsh := hdS.1
   rw [← hzN] at hsh
   unfold short at hsh
   have h50 := Num.tight (s' := 50) h21 rfl (by have e : (2 : Nat) ^ 50 = 1125899906842624 := (by decide); omega)
   have h50l := Num.len (by decide) h50
   obtain ⟨ys, hyl, hyc, hyw, oy, hyk, hyv⟩ := id h50.wc
   have hng := h50.neg_eq
   refine rk_reg ?_
   refine lw_v (.int .i64 0) (dv_assign C) ?_
   refine lw_nil ?_
   refine rk_seq ?_
   refine rk_seq ?_
   refine rk_reg ?_
   refine lw_v (.pointer (some ⟨b11, 1, none⟩)) (dv_fieldAddr (a := ⟨b11, 0, none⟩) (a' := ⟨b11, 1, none⟩) fo58_1 (T rfl rfl) rfl) ?_
   refine lw_v (.slice A2 n3 c4) (dv_load1 (b := b11) (o := 1) agt56 (T rfl rfl) H18 rfl) ?_
   refine lw_v (.int .i64 ((n3 : Int))) (dv_len (ad := A2) (l := n3) (c := c4) us56 (T rfl rfl)) ?_
   refine lw_v (.int .i64 (((n3 : Int)) - 1)) (dv_sub (a := (n3 : Int)) (b := 1) (z := ((n3 : Int)) - 1) (T rfl rfl) C (wr_i64 (by omega) (by omega))) ?_
   refine lw_v (.int .i64 (((n3 : Int)) - 1)) (dv_assign (T rfl rfl)) ?_
   refine lw_nil ?_
   refine rk_block ?_
   refine rk_loop (fun dm_ fr wl => ∃ (j : Nat), dm_ = j ∧ fr 2 = .int .i64 0 ∧ fr 3 = .bool false ∧ fr 4 = .pointer (some ⟨b11, 0, none⟩) ∧ fr 6 = .int .i64 (valB (2 ^ 32) (ys.drop j)) ∧ fr 7 = .int .i64 ((j : Int) - 1) ∧ Below w.heap.size w wl ∧ wl.heap[b11]? = some (.cells #[.bool nr1, .slice A2 n3 c4] 58) ∧ Wd wl 61 .u32 A2 ys ∧ (j ≤ ys.length)) (ys.length) ⟨ys.length, rfl, rfl, rfl, rfl, (vi (by first | (rw [List.drop_length]; rfl) | omega)), (vi (by omega)), E19, H18, hyw, (Nat.le_refl _)⟩ ?_
   intro d26 fr25 w22 hI23 ih24
   obtain ⟨j, hd35, f27, f28, f29, f30, f31, E32, H33, h34, hj⟩ := hI23
   have hd1 := valB_drop_le (xs := ys) j oy
   have hd2 := valB_drop_le (xs := ys) (j - 1) oy
   have hd3 : 0 < j → valB (2 ^ 32) (ys.drop (j - 1)) = ys.getD (j - 1) 0 + 4294967296 * valB (2 ^ 32) (ys.drop j) := fun h_ => by have hh := valB_drop (xs := ys) (i := j - 1) (by omega); rw [show j - 1 + 1 = j by omega] at hh; exact hh
   have hwg := okW.getD oy (by decide) (j - 1)
   refine rk_seq ?_
   refine rk_seq ?_
   refine rk_reg ?_
   refine lw_v (.int .i64 ((j : Int) - 1)) (dv_move (T rfl f31)) ?_
   refine lw_v (.bool (decide (0 ≤ ((j : Int) - 1)))) (dv_geq (a := (j : Int) - 1) (b := 0) (T rfl rfl) C) ?_
   refine lw_nil ?_
   by_cases hb36 : 0 ≤ ((j : Int) - 1)
   · refine rk_ct (T rfl (congrArg Value.bool (decide_eq_true hb36))) ?_
     refine rk_skip ?_
     refine rk_seq ?_
     refine rk_block ?_
     refine rk_reg ?_
     refine lw_v (.int .i64 (valB (2 ^ 32) (ys.drop j))) (dv_move (T rfl f30)) ?_
     refine lw_v (.int .i64 ((valB (2 ^ 32) (ys.drop j)) * 4294967296)) (dv_mul (a := valB (2 ^ 32) (ys.drop j)) (b := 4294967296) (z := (valB (2 ^ 32) (ys.drop j)) * 4294967296) (T rfl rfl) C (wr_i64 (by omega) (by omega))) ?_
     refine lw_v (.pointer (some ⟨b11, 1, none⟩)) (dv_fieldAddr (a := ⟨b11, 0, none⟩) (a' := ⟨b11, 1, none⟩) fo58_1 (T rfl f29) rfl) ?_
     refine lw_v (.slice A2 n3 c4) (dv_load1 (b := b11) (o := 1) agt56 (T rfl rfl) H33 rfl) ?_
     refine lw_v (.int .i64 ((j : Int) - 1)) (dv_move (T rfl f31)) ?_
     obtain ⟨g37, o38, rfl⟩ := Wd.at h34 (by first | omega | (simp; done) | (simp; omega))
     refine lw_v (.pointer (some ⟨g37, o38 + (j - 1), none⟩)) (dv_indexW (g := g37) (o := o38) (l := n3) (c := c4) (i := (j - 1)) (j := (j : Int) - 1) us56 sz61 (T rfl rfl) (T rfl rfl) (by omega) (by first | omega | (simp; done) | (simp; omega))) ?_
     refine lw_v (.int .u32 (ys.getD ((j - 1)) 0)) (dv_load agt61 (T rfl rfl) (Wd.cell h34 (by first | omega | (simp; done) | (simp; omega)))) ?_
     refine lw_v (.int .i64 (ys.getD ((j - 1)) 0)) (dv_conv (a := ys.getD ((j - 1)) 0) (z := ys.getD ((j - 1)) 0) ui61 ui2 (T rfl rfl) (wr_i64 (by omega) (by omega))) ?_
     refine lw_v (.int .i64 (((valB (2 ^ 32) (ys.drop j)) * 4294967296) + (ys.getD ((j - 1)) 0))) (dv_add (a := (valB (2 ^ 32) (ys.drop j)) * 4294967296) (b := ys.getD ((j - 1)) 0) (z := ((valB (2 ^ 32) (ys.drop j)) * 4294967296) + (ys.getD ((j - 1)) 0)) (T rfl rfl) (T rfl rfl) (wr_i64 (by omega) (by omega))) ?_
     refine lw_v (.int .i64 (((valB (2 ^ 32) (ys.drop j)) * 4294967296) + (ys.getD ((j - 1)) 0))) (dv_assign (T rfl rfl)) ?_
     refine lw_nil ?_
     refine rk_inBlock ?_
     refine rk_reg ?_
     refine lw_v (.int .i64 ((j : Int) - 1)) (dv_move (T rfl f31)) ?_
     refine lw_v (.int .i64 (((j : Int) - 1) - 1)) (dv_sub (a := (j : Int) - 1) (b := 1) (z := ((j : Int) - 1) - 1) (T rfl rfl) C (wr_i64 (by omega) (by omega))) ?_
     refine lw_v (.int .i64 (((j : Int) - 1) - 1)) (dv_assign (T rfl rfl)) ?_
     refine lw_nil ?_
     exact ih24 (((j - 1))) _ _ (by rw [hd35]; omega) ⟨(j - 1), rfl, f27, f28, f29, (vi (by first | (rw [List.drop_length]; rfl) | omega)), (vi (by omega)), E32, H33, h34, (by omega)⟩
   · refine rk_cf (T rfl (congrArg Value.bool (decide_eq_false hb36))) ?_
     refine rk_exit rfl ?_
     refine rk_seq ?_
     refine rk_seq ?_
     refine rk_reg ?_
     refine lw_v (.pointer (some ⟨b11, 0, none⟩)) (dv_fieldAddr (a := ⟨b11, 0, none⟩) (a' := ⟨b11, 0, none⟩) fo58_0 (T rfl f29) rfl) ?_
     refine lw_v (.bool nr1) (dv_load1 (b := b11) (o := 0) agt4 (T rfl rfl) H33 rfl) ?_
     refine lw_nil ?_
     rcases Bool.eq_false_or_eq_true (nr1) with hb39 | hb39
     · refine rk_ct (T rfl (congrArg Value.bool hb39)) ?_
       refine rk_seq ?_
       refine rk_reg ?_
       refine lw_v (.int .i64 (valB (2 ^ 32) (ys.drop j))) (dv_move (T rfl f30)) ?_
       refine lw_v (.int .i64 (-(valB (2 ^ 32) (ys.drop j)))) (dv_neg (a := valB (2 ^ 32) (ys.drop j)) (z := -(valB (2 ^ 32) (ys.drop j))) (T rfl rfl) (by rw [Int.zero_sub]; exact wr_i64 (by omega) (by omega))) ?_
       refine lw_v (.int .i64 (-(valB (2 ^ 32) (ys.drop j)))) (dv_assign (T rfl rfl)) ?_
       refine lw_v (.bool true) (dv_assign C) ?_
       refine lw_nil ?_
       refine rk_ret Tryd.func15 (v := .tuple #[.int .i64 (-(valB (2 ^ 32) (ys.drop j))), .bool true]) (res2 Tryd.results15 (rv_tmp rfl rfl) (rv_tmp rfl rfl)) ⟨_, rfl, ?_⟩
       have hj0 : j = 0 := by omega
       subst hj0
       rw [List.drop_zero] at *
       exact ⟨_, tu2 rfl (vt hdS), E32, fun _ => by rw [← hzN]; first | omega | (simp_all; omega), by omega⟩
     · refine rk_cf (T rfl (congrArg Value.bool hb39)) ?_
       refine rk_skip ?_
       refine rk_seq ?_
       refine rk_reg ?_
       refine lw_v (.int .i64 (valB (2 ^ 32) (ys.drop j))) (dv_move (T rfl f30)) ?_
       refine lw_v (.int .i64 (valB (2 ^ 32) (ys.drop j))) (dv_assign (T rfl rfl)) ?_
       refine lw_v (.bool true) (dv_assign C) ?_
       refine lw_nil ?_
       refine rk_ret Tryd.func15 (v := .tuple #[.int .i64 (valB (2 ^ 32) (ys.drop j)), .bool true]) (res2 Tryd.results15 (rv_tmp rfl rfl) (rv_tmp rfl rfl)) ⟨_, rfl, ?_⟩
       have hj0 : j = 0 := by omega
       subst hj0
       rw [List.drop_zero] at *
       exact ⟨_, tu2 rfl (vt hdS), E32, fun _ => by rw [← hzN]; first | omega | (simp_all; omega), by omega⟩
 · refine rk_ct (T rfl (congrArg Value.bool (decide_eq_true hb20))) ?_
   refine rk_seq ?_
   refine rk_reg ?_
   refine lw_v (.int .i64 0) (dv_assign C) ?_
   refine lw_v (.bool false) (dv_assign C) ?_
   refine lw_nil ?_
   refine rk_ret Tryd.func15 (v := .tuple #[.int .i64 0, .bool false]) (res2 Tryd.results15 (rv_tmp rfl rfl) (rv_tmp rfl rfl)) ⟨_, rfl, ?_⟩
   have hno : ¬ decS L := fun hh => absurd (decS_form.1 hh) (by assumption)
   exact ⟨0, tu2 rfl (vf hno), E19, fun hh => absurd hh hno, by omega⟩
end Go.Proofs.YtmbpomcbdopgnaaDoor.W
set_option linter.unusedVariables false
set_option linter.unusedSimpArgs false
namespace Go.Proofs.YtmbpomcbdopgnaaDoor.W
open Go Go.RowKit Go.Proofs.YtmbpomcbdopgnaaDoor.Fw
attribute [local irreducible] RunK LW AW DV OE Ct
set_option maxHeartbeats 1000000 in
theorem l6Words_ok {w : World} {L : List Int} (hL : okW 256 L) (hl : L.length ≤ 1000000) : Ct Tryd.prog 14 [.string (bOf L)] w fun v w1 => ∃ P A c, P = toks L ∧ v = .slice A P.length c ∧ Ext w w1 ∧ Ors w1 w.heap.size 9 A c P := by
 refine ct_run (n := 37) Tryd.func14 rfl Tryd.ntmps14 rfl ?_
 have E0 : Below w.heap.size w w := Below.refl _ _
 refine rk_seq ?_
 refine rk_reg ?_
 refine lw_v (.slice none 0 0) (dv_assign C) ?_
 refine lw_nil ?_
 refine rk_seq ?_
 refine rk_reg ?_
 refine lw_e (oe_buildSlice0 us33 sz9 ?_)
 intro b1 w2 n3
 have N5 : w.heap.size ≤ b1 := n3.eq ▸ E0.size
 have := n3.eq
 have := Below.fresh n3.ext
 have E6 := below_ext E0 E0.size n3.ext
 have hO4 := Ors.made n3
 refine lw_v (.slice (some ⟨b1, 0, none⟩) (([] : List (List Int)).length) 0) (dv_assign (T rfl rfl)) ?_
 refine lw_nil ?_
 refine rk_seq ?_
 refine rk_reg ?_
 refine lw_v (.string (bOf [])) (dv_assign C) ?_
 refine lw_nil ?_
 refine rk_seq ?_
 refine rk_seq ?_
 refine rk_reg ?_
 refine lw_v (.int .i64 0) (dv_assign C) ?_
 refine lw_nil ?_
 refine rk_block ?_
 refine rk_loop (fun dm_ fr wl => ∃ (i : Nat) (W : List (List Int)) (D : List Int) (A3 : Option Addr) (c3 : Nat), dm_ = L.length + 1 - i ∧ fr 0 = .string (bOf L) ∧ fr 2 = .slice none 0 0 ∧ fr 3 = .slice A3 (W.length) c3 ∧ fr 4 = .string (bOf D) ∧ fr 5 = .int .i64 ((i : Int)) ∧ Below w.heap.size w wl ∧ Ors wl b1 9 A3 c3 W ∧ (i ≤ L.length + 1) ∧ (tkI L i W D) ∧ (okW 256 D) ∧ (W.length ≤ i) ∧ (D.length ≤ i)) (L.length + 1 - 0) ⟨0, ([] : List (List Int)), ([]), (some ⟨b1, 0, none⟩), 0, rfl, rfl, rfl, rfl, rfl, (vi (by omega)), E6, hO4, (by omega), (tk0 L), okC_nil, (by simp), (by simp)⟩ ?_
 intro d11 fr10 w7 hI8 ih9
 obtain ⟨i, W, D, A3, c3, hd19, f12, f13, f14, f15, f16, E17, h18, hi_, htk, hDo, hWl, hDl⟩ := hI8
 refine rk_seq ?_
 refine rk_seq ?_
 refine rk_reg ?_
 refine lw_v (.int .i64 ((i : Int))) (dv_move (T rfl f16)) ?_
 refine lw_v (.string (bOf L)) (dv_move (T rfl f12)) ?_
 refine lw_v (.int .i64 ((L.length : Int))) (dv_lenS (L := L) ut9 (T rfl rfl)) ?_
 refine lw_v (.bool (decide (((i : Int)) ≤ ((L.length : Int))))) (dv_leq (a := (i : Int)) (b := (L.length : Int)) (T rfl rfl) (T rfl rfl)) ?_
 refine lw_nil ?_
 by_cases hb20 : ((i : Int)) ≤ ((L.length : Int))
 · refine rk_ct (T rfl (congrArg Value.bool (decide_eq_true hb20))) ?_
   refine rk_skip ?_
   refine rk_seq ?_
   refine rk_block ?_
   refine rk_seq ?_
   refine rk_seq ?_
   refine rk_reg ?_
   refine lw_v (.int .i64 ((i : Int))) (dv_move (T rfl f16)) ?_
   refine lw_v (.string (bOf L)) (dv_move (T rfl f12)) ?_
   refine lw_v (.int .i64 ((L.length : Int))) (dv_lenS (L := L) ut9 (T rfl rfl)) ?_
   refine lw_v (.bool (decide (((i : Int)) < ((L.length : Int))))) (dv_lss (a := (i : Int)) (b := (L.length : Int)) (T rfl rfl) (T rfl rfl)) ?_
   refine lw_v (.bool (decide (((i : Int)) < ((L.length : Int))))) (dv_move (T rfl rfl)) ?_
   by_cases hb21 : ((i : Int)) < ((L.length : Int))
   · refine lw_vy (.string (bOf L)) (d := 17) rfl rfl (congrArg Value.bool (decide_eq_true hb21)) (dv_move (T rfl f12)) ?_
     refine lw_vy (.int .i64 ((i : Int))) (d := 17) rfl rfl (congrArg Value.bool (decide_eq_true hb21)) (dv_move (T rfl f16)) ?_
     have bg22 := okW.getD (hL) (by decide) i
     refine lw_vy (.int .u8 (L.getD i 0)) (d := 17) rfl rfl (congrArg Value.bool (decide_eq_true hb21)) (dv_indexS (L := L) (i := i) (j := (i : Int)) ut9 (T rfl rfl) (T rfl rfl) (hL) (by omega) (by first | omega | (simp; done) | (simp; omega))) ?_
     refine lw_vy (.bool (decide ((L.getD i 0) ≠ 32))) (d := 17) rfl rfl (congrArg Value.bool (decide_eq_true hb21)) (dv_neq (a := L.getD i 0) (b := 32) (T rfl rfl) C) ?_
     refine lw_v (.bool (decide ((L.getD i 0) ≠ 32))) (dv_pick_t (T rfl (congrArg Value.bool (decide_eq_true hb21))) (T rfl rfl)) ?_
     refine lw_nil ?_
     by_cases hb23 : (L.getD i 0) ≠ 32
     · refine rk_ct (T rfl (congrArg Value.bool (decide_eq_true hb23))) ?_
       refine rk_seq ?_
       refine rk_reg ?_
       refine lw_v (.string (bOf D)) (dv_move (T rfl f15)) ?_
       refine lw_v (.string (bOf L)) (dv_move (T rfl f12)) ?_
       refine lw_v (.int .i64 ((i : Int))) (dv_move (T rfl f16)) ?_
       refine lw_v (.int .i64 ((i : Int))) (dv_move (T rfl f16)) ?_
       refine lw_v (.int .i64 (((i : Int)) + 1)) (dv_add (a := (i : Int)) (b := 1) (z := ((i : Int)) + 1) (T rfl rfl) C (wr_i64 (by omega) (by omega))) ?_
       refine lw_v (.string (bOf ((L.take (((i) + 1))).drop i))) (dv_sliceSb (L := L) (i := i) (i' := ((i) + 1)) (j := (i : Int)) (j' := ((i : Int)) + 1) ut9 (T rfl rfl) (T rfl rfl) (T rfl rfl) (by omega) (by omega) (by first | omega | (simp; done) | (simp; omega)) (by first | omega | (simp; done) | (simp; omega))) ?_
       refine lw_v (.string (bOf (D ++ ((L.take (((i) + 1))).drop i)))) (dv_addS (L := D) (M := ((L.take (((i) + 1))).drop i)) (T rfl rfl) (T rfl rfl) (by first | omega | (simp; omega))) ?_
       refine lw_v (.string (bOf (D ++ ((L.take (((i) + 1))).drop i)))) (dv_assign (T rfl rfl)) ?_
       refine lw_nil ?_
       refine rk_exit rfl ?_
       refine rk_reg ?_
       refine lw_v (.int .i64 ((i : Int))) (dv_move (T rfl f16)) ?_
       refine lw_v (.int .i64 (((i : Int)) + 1)) (dv_add (a := (i : Int)) (b := 1) (z := ((i : Int)) + 1) (T rfl rfl) C (wr_i64 (by omega) (by omega))) ?_
       refine lw_v (.int .i64 (((i : Int)) + 1)) (dv_assign (T rfl rfl)) ?_
       refine lw_nil ?_
       exact ih9 (L.length + 1 - ((i + 1))) _ _ (by rw [hd19]; omega) ⟨(i + 1), W, (D ++ ((L.take (((i) + 1))).drop i)), A3, c3, rfl, f12, f13, f14, rfl, (vi (by omega)), E17, h18, (by omega), (tk_word htk (by omega) (by assumption)), (okC_app hDo (okW_drop (okW_take hL (i + 1)) i)), (by first | omega | (simp; omega) | (simp; done)), (by first | omega | (simp; omega) | (simp; done))⟩
     · refine rk_cf (T rfl (congrArg Value.bool (decide_eq_false hb23))) ?_
       refine rk_skip ?_
       refine rk_seq ?_
       refine rk_seq ?_
       refine rk_reg ?_
       refine lw_v (.string (bOf D)) (dv_move (T rfl f15)) ?_
       refine lw_v (.bool (decide ((D : List Int) ≠ ([])))) (dv_neS (L := D) (M := []) (T rfl rfl) C ((hDo)) ((okC_lit [] (by decide)))) ?_
       refine lw_nil ?_
       by_cases hb24 : (D : List Int) ≠ ([])
       · refine rk_ct (T rfl (congrArg Value.bool (decide_eq_true hb24))) ?_
         refine rk_reg ?_
         refine lw_v (.slice A3 (W.length) c3) (dv_move (T rfl f14)) ?_
         refine lw_v (.string (bOf D)) (dv_move (T rfl f15)) ?_
         refine lw_e (oe_buildSlice (pv := [(0, .string (bOf D))]) (init := [.string ⟨#[]⟩]) (l := [.string (bOf D)]) us33 sz9 rfl rfl zc9 (by kernel_rfl) ⟨rfl, (T rfl rfl), trivial⟩ rfl ?_)
         intro b25 w26 n27
         have N28 : w.heap.size ≤ b25 := n27.eq ▸ E17.size
         have := n27.eq; have := n27.size
         have := Below.fresh n27.ext
         have E29 := below_ext E17 E17.size n27.ext
         have h30 := (h18.ext n27.ext)
         refine lw_e (oe_appendS (base := b1) (L := W) (M := D) us33 in9 (T rfl rfl) (T rfl rfl) h30 n27.blk (by first | omega | (simp; done) | (simp; omega)) (by first | omega | (simp; done) | (simp; omega)) ?_)
         intro Ad31 c32 w33 hO34 x35 bt36
         have E37 := below_bl E29 N5 x35
         refine lw_v (.slice Ad31 ((W ++ [D]).length) c32) (dv_assign (T rfl rfl)) ?_
         refine lw_nil ?_
         refine rk_reg ?_
         refine lw_v (.string (bOf [])) (dv_assign C) ?_
         refine lw_nil ?_
         refine rk_inBlock ?_
         refine rk_reg ?_
         refine lw_v (.int .i64 ((i : Int))) (dv_move (T rfl f16)) ?_
         refine lw_v (.int .i64 (((i : Int)) + 1)) (dv_add (a := (i : Int)) (b := 1) (z := ((i : Int)) + 1) (T rfl rfl) C (wr_i64 (by omega) (by omega))) ?_
         refine lw_v (.int .i64 (((i : Int)) + 1)) (dv_assign (T rfl rfl)) ?_
         refine lw_nil ?_
         exact ih9 (L.length + 1 - ((i + 1))) _ _ (by rw [hd19]; omega) ⟨(i + 1), (W ++ [D]), ([]), Ad31, c32, rfl, f12, f13, rfl, rfl, (vi (by omega)), E37, hO34, (by omega), ((tk_sep htk (by omega) (fun h_ => by first | (exact Decidable.not_not.1 (by assumption)) | omega)).1 (by first | assumption | exact Decidable.not_not.1 (by assumption))), okC_nil, (by first | omega | (simp; omega) | (simp; done)), (by first | omega | (simp; omega) | (simp; done))⟩
       · refine rk_cf (T rfl (congrArg Value.bool (decide_eq_false hb24))) ?_
         refine rk_skip ?_
         refine rk_reg ?_
         refine lw_v (.string (bOf [])) (dv_assign C) ?_
         refine lw_nil ?_
         refine rk_inBlock ?_
         refine rk_reg ?_
         refine lw_v (.int .i64 ((i : Int))) (dv_move (T rfl f16)) ?_
         refine lw_v (.int .i64 (((i : Int)) + 1)) (dv_add (a := (i : Int)) (b := 1) (z := ((i : Int)) + 1) (T rfl rfl) C (wr_i64 (by omega) (by omega))) ?_
         refine lw_v (.int .i64 (((i : Int)) + 1)) (dv_assign (T rfl rfl)) ?_
         refine lw_nil ?_
         exact ih9 (L.length + 1 - ((i + 1))) _ _ (by rw [hd19]; omega) ⟨(i + 1), W, ([]), A3, c3, rfl, f12, f13, f14, rfl, (vi (by omega)), E17, h18, (by omega), ((tk_sep htk (by omega) (fun h_ => by first | (exact Decidable.not_not.1 (by assumption)) | omega)).2 (by first | assumption | exact Decidable.not_not.1 (by assumption))), okC_nil, (by first | omega | (simp; omega) | (simp; done)), (by first | omega | (simp; omega) | (simp; done))⟩
   · refine lw_no (d := 17) rfl rfl (congrArg Value.bool (decide_eq_false hb21)) ?_
     refine lw_no (d := 17) rfl rfl (congrArg Value.bool (decide_eq_false hb21)) ?_
     refine lw_no (d := 17) rfl rfl (congrArg Value.bool (decide_eq_false hb21)) ?_
     refine lw_no (d := 17) rfl rfl (congrArg Value.bool (decide_eq_false hb21)) ?_
     refine lw_v (.bool false) (dv_pick_f (T rfl (congrArg Value.bool (decide_eq_false hb21))) C) ?_
     refine lw_nil ?_
     refine rk_cf (T rfl rfl) ?_
     refine rk_skip ?_
     refine rk_seq ?_
     refine rk_seq ?_
     refine rk_reg ?_
     refine lw_v (.string (bOf D)) (dv_move (T rfl f15)) ?_
     refine lw_v (.bool (decide ((D : List Int) ≠ ([])))) (dv_neS (L := D) (M := []) (T rfl rfl) C ((hDo)) ((okC_lit [] (by decide)))) ?_
     refine lw_nil ?_
     by_cases hb38 : (D : List Int) ≠ ([])
     · refine rk_ct (T rfl (congrArg Value.bool (decide_eq_true hb38))) ?_
       refine rk_reg ?_
       refine lw_v (.slice A3 (W.length) c3) (dv_move (T rfl f14)) ?_
       refine lw_v (.string (bOf D)) (dv_move (T rfl f15)) ?_
       refine lw_e (oe_buildSlice (pv := [(0, .string (bOf D))]) (init := [.string ⟨#[]⟩]) (l := [.string (bOf D)]) us33 sz9 rfl rfl zc9 (by kernel_rfl) ⟨rfl, (T rfl rfl), trivial⟩ rfl ?_)
       intro b39 w40 n41
       have N42 : w.heap.size ≤ b39 := n41.eq ▸ E17.size
       have := n41.eq; have := n41.size
       have := Below.fresh n41.ext
       have E43 := below_ext E17 E17.size n41.ext
       have h44 := (h18.ext n41.ext)
       refine lw_e (oe_appendS (base := b1) (L := W) (M := D) us33 in9 (T rfl rfl) (T rfl rfl) h44 n41.blk (by first | omega | (simp; done) | (simp; omega)) (by first | omega | (simp; done) | (simp; omega)) ?_)
       intro Ad45 c46 w47 hO48 x49 bt50
       have E51 := below_bl E43 N5 x49
       refine lw_v (.slice Ad45 ((W ++ [D]).length) c46) (dv_assign (T rfl rfl)) ?_
       refine lw_nil ?_
       refine rk_reg ?_
       refine lw_v (.string (bOf [])) (dv_assign C) ?_
       refine lw_nil ?_
       refine rk_inBlock ?_
       refine rk_reg ?_
       refine lw_v (.int .i64 ((i : Int))) (dv_move (T rfl f16)) ?_
       refine lw_v (.int .i64 (((i : Int)) + 1)) (dv_add (a := (i : Int)) (b := 1) (z := ((i : Int)) + 1) (T rfl rfl) C (wr_i64 (by omega) (by omega))) ?_
       refine lw_v (.int .i64 (((i : Int)) + 1)) (dv_assign (T rfl rfl)) ?_
       refine lw_nil ?_
       exact ih9 (L.length + 1 - ((i + 1))) _ _ (by rw [hd19]; omega) ⟨(i + 1), (W ++ [D]), ([]), Ad45, c46, rfl, f12, f13, rfl, rfl, (vi (by omega)), E51, hO48, (by omega), ((tk_sep htk (by omega) (fun h_ => by first | (exact Decidable.not_not.1 (by assumption)) | omega)).1 (by first | assumption | exact Decidable.not_not.1 (by assumption))), okC_nil, (by first | omega | (simp; omega) | (simp; done)), (by first | omega | (simp; omega) | (simp; done))⟩
     · refine rk_cf (T rfl (congrArg Value.bool (decide_eq_false hb38))) ?_
       refine rk_skip ?_
       refine rk_reg ?_
       refine lw_v (.string (bOf [])) (dv_assign C) ?_
       refine lw_nil ?_
       refine rk_inBlock ?_
       refine rk_reg ?_
       refine lw_v (.int .i64 ((i : Int))) (dv_move (T rfl f16)) ?_
       refine lw_v (.int .i64 (((i : Int)) + 1)) (dv_add (a := (i : Int)) (b := 1) (z := ((i : Int)) + 1) (T rfl rfl) C (wr_i64 (by omega) (by omega))) ?_
       refine lw_v (.int .i64 (((i : Int)) + 1)) (dv_assign (T rfl rfl)) ?_
       refine lw_nil ?_
       exact ih9 (L.length + 1 - ((i + 1))) _ _ (by rw [hd19]; omega) ⟨(i + 1), W, ([]), A3, c3, rfl, f12, f13, f14, rfl, (vi (by omega)), E17, h18, (by omega), ((tk_sep htk (by omega) (fun h_ => by first | (exact Decidable.not_not.1 (by assumption)) | omega)).2 (by first | assumption | exact Decidable.not_not.1 (by assumption))), okC_nil, (by first | omega | (simp; omega) | (simp; done)), (by first | omega | (simp; omega) | (simp; done))⟩
 · refine rk_cf (T rfl (congrArg Value.bool (decide_eq_false hb20))) ?_
   refine rk_exit rfl ?_
   refine rk_seq ?_
   refine rk_reg ?_
   refine lw_v (.slice A3 (W.length) c3) (dv_move (T rfl f14)) ?_
   refine lw_v (.slice A3 (W.length) c3) (dv_assign (T rfl rfl)) ?_
   refine lw_nil ?_
   refine rk_ret Tryd.func14 (v := .slice A3 (W.length) c3) (res1 Tryd.results14 (rv_tmp rfl rfl)) ⟨_, rfl, ?_⟩
   have hw := tk_end htk (by omega)
   rw [show b1 = w.heap.size by omega] at h18
   exact ⟨W, A3, c3, hw, rfl, E17, h18⟩
end Go.Proofs.YtmbpomcbdopgnaaDoor.W
set_option linter.unusedVariables false
set_option linter.unusedSimpArgs false
namespace Go.Proofs.YtmbpomcbdopgnaaDoor.W
open Go Go.RowKit Go.Proofs.YtmbpomcbdopgnaaDoor.Fw
attribute [local irreducible] RunK LW AW DV OE Ct
theorem co11 : callOk Tryd.prog 11 = true := by kernel_rfl
theorem co14 : callOk Tryd.prog 14 = true := by kernel_rfl
theorem co15 : callOk Tryd.prog 15 = true := by kernel_rfl
set_option maxRecDepth 100000 in
set_option maxHeartbeats 8000000 in
theorem sReadLayer_ok {w : World} {L : List Int} (hL : okW 256 L) (hl : L.length ≤ 1048576) : Ct Tryd.prog 5 [.string (bOf L)] w fun v w1 => ∃ A c SL vs, v = .tuple #[.slice A (rdN L) c, .bool (decide (rdB L))] ∧ Ext w w1 ∧ OwV w1 w.heap.size 37 A (rdN L) c vs ∧ RIn w1 w.heap.size w1.heap.size 41 (rdN L) (pcN L) (pcE L) SL ∧ ∀ i, i < rdN L → vs[i]? = some (.slice (SL i).1 (pcN L i) (SL i).2) := by
 refine ct_run (n := 80) Tryd.func5 rfl Tryd.ntmps5 rfl ?_
 have E0 : Below w.heap.size w w := Below.refl _ _
 refine rk_seq ?_
 refine rk_reg ?_
 refine lw_v (.slice none 0 0) (dv_assign C) ?_
 refine lw_v (.bool false) (dv_assign C) ?_
 refine lw_nil ?_
 refine rk_seq ?_
 refine rk_seq ?_
 refine rk_reg ?_
 refine lw_v (.string (bOf L)) (dv_move (T rfl rfl)) ?_
 refine lw_v (.int .i64 ((L.length : Int))) (dv_lenS (L := L) ut9 (T rfl rfl)) ?_
 refine lw_v (.bool (decide (2000 < ((L.length : Int))))) (dv_gtr (a := (L.length : Int)) (b := 2000) (T rfl rfl) C) ?_
 refine lw_nil ?_
 by_cases hb1 : 2000 < ((L.length : Int))
 · refine rk_ct (T rfl (congrArg Value.bool (decide_eq_true hb1))) ?_
   refine rk_seq ?_
   refine rk_reg ?_
   refine lw_v (.slice none 0 0) (dv_assign C) ?_
   refine lw_v (.bool false) (dv_assign C) ?_
   refine lw_nil ?_
   refine rk_ret Tryd.func5 (v := .tuple #[.slice none 0 0, .bool false]) (res2 Tryd.results5 (rv_tmp rfl rfl) (rv_tmp rfl rfl)) ⟨_, rfl, ?_⟩
   -- path T
   have hS : ¬ rdOK L := fun h_ => by have := h_.1; omega
   have hB : ¬ rdB L := fun h_ => h_.2.elim (fun e_ => by have := h_.1; omega) hS
   refine ⟨none, 0, fun _ => (none, 0), [], ?_⟩
   rw [rdN_f hS, show decide (rdB L) = false from decide_eq_false hB]
   exact ⟨rfl, E0, .nil E0.size, RIn.zero ⟨E0.size, Nat.le_refl _⟩, fun i_ h_ => absurd h_ (Nat.not_lt_zero _)⟩
 · refine rk_cf (T rfl (congrArg Value.bool (decide_eq_false hb1))) ?_
   refine rk_skip ?_
   refine rk_seq ?_
   refine rk_seq ?_
   refine rk_reg ?_
   refine lw_v (.string (bOf L)) (dv_move (T rfl rfl)) ?_
   refine lw_v (.bool (decide ((L : List Int) = ([110, 111, 110, 101])))) (dv_eqS (L := L) (M := [110, 111, 110, 101]) (T rfl rfl) C ((hL)) ((okC_lit [110, 111, 110, 101] (by decide)))) ?_
   refine lw_nil ?_
   by_cases hb2 : (L : List Int) = ([110, 111, 110, 101])
   · refine rk_ct (T rfl (congrArg Value.bool (decide_eq_true hb2))) ?_
     refine rk_seq ?_
     refine rk_reg ?_
     refine lw_v (.slice none 0 0) (dv_assign C) ?_
     refine lw_v (.bool true) (dv_assign C) ?_
     refine lw_nil ?_
     refine rk_ret Tryd.func5 (v := .tuple #[.slice none 0 0, .bool true]) (res2 Tryd.results5 (rv_tmp rfl rfl) (rv_tmp rfl rfl)) ⟨_, rfl, ?_⟩
     -- path FT
     have hS : ¬ rdOK L := fun h_ => absurd (by assumption) h_.2.1
     have hB : rdB L := ⟨by omega, .inl (by assumption)⟩
     refine ⟨none, 0, fun _ => (none, 0), [], ?_⟩
     rw [rdN_f hS, show decide (rdB L) = true from decide_eq_true hB]
     exact ⟨rfl, E0, .nil E0.size, RIn.zero ⟨E0.size, Nat.le_refl _⟩, fun i_ h_ => absurd h_ (Nat.not_lt_zero _)⟩
   · refine rk_cf (T rfl (congrArg Value.bool (decide_eq_false hb2))) ?_
     refine rk_skip ?_
     refine rk_seq ?_
     refine rk_reg ?_
     refine lw_v (.string (bOf L)) (dv_move (T rfl rfl)) ?_
     refine lw_e (oe_callf (vs := [.string (bOf L)]) co14 (ar1 (T rfl rfl)) (l6Words_ok (hL) (by first | omega | (simp only [List.length_append, List.length_cons, List.length_nil]; omega))) ?_)
     rintro _ w9 ⟨Pc5, As3, cs4, hPc6, rfl, e10, hOs7⟩
     have := Below.fresh e10
     have E11 := below_ext E0 E0.size e10
     have hPc5l := (toks_ok (hL)).2
     rw [← hPc6] at hPc5l
     refine lw_v (.slice As3 (Pc5.length) cs4) (dv_assign (T rfl rfl)) ?_
     refine lw_nil ?_
     refine rk_seq ?_
     refine rk_reg ?_
     refine lw_v (.agg #[.slice none 0 0]) (dv_build (pv := []) (l := [.slice none 0 0]) zc37 pl37 trivial rfl) ?_
     refine lw_e (oe_buildSlice (pv := [(0, .agg #[.slice none 0 0])]) (init := [.slice none 0 0]) (l := [.slice none 0 0]) us22 sz37 rfl rfl zc37 (by kernel_rfl) ⟨rfl, (T rfl rfl), trivial⟩ rfl ?_)
     intro b12 w13 n14
     have N15 : w.heap.size ≤ b12 := n14.eq ▸ E11.size
     have := n14.eq; have := n14.size
     have := Below.fresh n14.ext
     have E16 := below_ext E11 E11.size n14.ext
     refine lw_v (.slice (some ⟨b12, 0, none⟩) 1 1) (dv_assign (T rfl rfl)) ?_
     refine lw_nil ?_
     refine rk_seq ?_
     have hV17 := OwV.made n14
     have hR18 : RIn w13 w.heap.size w13.heap.size 41 0 (gpN L) (gpE L) (fun _ => (none, 0)) := RIn.zero ⟨E16.size, Nat.le_refl _⟩
     have hO19 : OwS w13 w13.heap.size 41 2 .i64 none 0 0 [] := OwS.nil (Nat.le_refl _)
     have := E16.size
     refine rk_reg ?_
     refine lw_v (.bool false) (dv_assign C) ?_
     refine lw_nil ?_
     refine rk_seq ?_
     refine rk_reg ?_
     refine lw_v (.int .i64 0) (dv_assign C) ?_
     refine lw_nil ?_
     refine rk_seq ?_
     refine rk_seq ?_
     refine rk_reg ?_
     refine lw_v (.int .i64 0) (dv_assign C) ?_
     refine lw_nil ?_
     refine rk_block ?_
     have h20 := (hOs7.ext n14.ext)
     refine rk_loop (fun dm_ fr wl => ∃ (j : Nat) (F : List (List (List Int))) (c : List (List Int)) (n k : Nat) (x : Int) (A5 : Option Addr) (c5 : Nat) (V : List Value) (S : SlF) (A7 : Option Addr) (c7 : Nat) (M : List Int) (h7 s7 : Nat), dm_ = Pc5.length - j ∧ fr 0 = .string (bOf L) ∧ fr 4 = .slice As3 (Pc5.length) cs4 ∧ fr 5 = .slice A5 n c5 ∧ fr 6 = .bool (decide (c.length % 2 = 1)) ∧ fr 7 = .int .i64 x ∧ fr 8 = .int .i64 ((j : Int)) ∧ Below w.heap.size w wl ∧ Ors wl w.heap.size 9 As3 cs4 Pc5 ∧ OwV wl b12 37 A5 n c5 V ∧ RIn wl w.heap.size h7 41 F.length (gpN L) (gpE L) S ∧ OwS wl s7 41 2 .i64 A7 k c7 M ∧ (j ≤ Pc5.length) ∧ (grpS ((toks L).take j) = (F, c)) ∧ (n = F.length + 1) ∧ (k = c.length / 2) ∧ (M = (c.take (k * 2)).map numD) ∧ (c.length % 2 = 1 → x = numD (c.getD (k * 2) [])) ∧ (-9223372036854775808 ≤ x ∧ x ≤ 9223372036854775807) ∧ (∀ q, q < F.length → (gpW L q).length % 2 = 0) ∧ (∀ q, q < F.length → V[q]? = some (.slice (S q).1 (gpN L q) (S q).2)) ∧ (V[F.length]? = some (.slice A7 k c7)) ∧ (w.heap.size ≤ h7 ∧ h7 ≤ s7)) (Pc5.length - 0) ⟨0, [], [], 1, 0, 0, (some ⟨b12, 0, none⟩), 1, [.slice none 0 0], (fun _ => (none, 0)), none, 0, [], w13.heap.size, w13.heap.size, rfl, rfl, rfl, rfl, ((by first | rfl | exact vb (by simp only [List.length_append, List.length_cons, List.length_nil]; omega) | exact vt (by simp only [List.length_append, List.length_cons, List.length_nil]; omega) | exact vf (by simp only [List.length_append, List.length_cons, List.length_nil]; omega) | exact vf (by simp))), rfl, (vi (by omega)), E16, h20, hV17, hR18, hO19, (Nat.zero_le _), rfl, rfl, rfl, rfl, (fun h_ => absurd h_ (by decide)), (by decide), (fun q hq => absurd hq (Nat.not_lt_zero _)), (fun q hq => absurd hq (Nat.not_lt_zero _)), rfl, ⟨by omega, Nat.le_refl _⟩⟩ ?_
     intro d25 fr24 w21 hI22 ih23
     obtain ⟨j, F, c, n, k, x, A5, c5, V, S, A7, c7, M, h7, s7, hd37, f26, f27, f28, f29, f30, f31, E32, h33, h34, h35, h36, hj_, hst, hn, hk, hM, hx, hxr, hev, hV, hVl, hs7⟩ := hI22
     have lt38 := OwV.lt h34; have hVL := OwV.len h34
     have hs7b := h36.2
     have hpl := getD_len (P := Pc5) hPc5l.1 j
     have hFl := grpS_len ((toks L).take j) ([], [])
     have hst2 : ((toks L).take j).foldl stpR ([], []) = (F, c) := hst
     rw [hst2] at hFl
     simp only [List.length_take, List.length_nil] at hFl
     have hPl : Pc5.length = (toks L).length := by rw [hPc6]
     have hPj : Pc5.getD j [] = (toks L).getD j [] := by rw [hPc6]
     have hNb := E32.size
     refine rk_seq ?_
     refine rk_seq ?_
     refine rk_reg ?_
     refine lw_v (.int .i64 ((j : Int))) (dv_move (T rfl f31)) ?_
     refine lw_v (.slice As3 (Pc5.length) cs4) (dv_move (T rfl f27)) ?_
     refine lw_v (.int .i64 ((Pc5.length : Int))) (dv_len (ad := As3) (l := Pc5.length) (c := cs4) us33 (T rfl rfl)) ?_
     refine lw_v (.bool (decide (((j : Int)) < ((Pc5.length : Int))))) (dv_lss (a := (j : Int)) (b := (Pc5.length : Int)) (T rfl rfl) (T rfl rfl)) ?_
     refine lw_nil ?_
     by_cases hb39 : ((j : Int)) < ((Pc5.length : Int))
     · refine rk_ct (T rfl (congrArg Value.bool (decide_eq_true hb39))) ?_
       refine rk_skip ?_
       refine rk_seq ?_
       refine rk_block ?_
       refine rk_seq ?_
       refine rk_seq ?_
       refine rk_reg ?_
       refine lw_v (.slice As3 (Pc5.length) cs4) (dv_move (T rfl f27)) ?_
       refine lw_v (.int .i64 ((j : Int))) (dv_move (T rfl f31)) ?_
       obtain ⟨g40, o41, rfl⟩ := Ors.at h33 (by first | omega | (simp; done) | (simp; omega))
       refine lw_v (.pointer (some ⟨g40, o41 + j, none⟩)) (dv_indexW (g := g40) (o := o41) (l := Pc5.length) (c := cs4) (i := j) (j := (j : Int)) us33 sz9 (T rfl rfl) (T rfl rfl) (by omega) (by first | omega | (simp; done) | (simp; omega))) ?_
       refine lw_v (.string (bOf (Pc5.getD j []))) (dv_load agt9 (T rfl rfl) (Ors.cell h33 (by first | omega | (simp; done) | (simp; omega)))) ?_
       refine lw_v (.bool (decide ((((Pc5.getD j [])) : List Int) = ([47])))) (dv_eqS (L := (Pc5.getD j [])) (M := [47]) (T rfl rfl) C ((getD_ok (by rw [hPc6]; exact (toks_ok (hL)).1) j)) ((okC_lit [47] (by decide)))) ?_
       refine lw_nil ?_
       by_cases hb42 : (((Pc5.getD j [])) : List Int) = ([47])
       · refine rk_ct (T rfl (congrArg Value.bool (decide_eq_true hb42))) ?_
         refine rk_seq ?_
         refine rk_seq ?_
         refine rk_reg ?_
         refine lw_v (.bool (decide (c.length % 2 = 1))) (dv_move (T rfl f29)) ?_
         refine lw_nil ?_
         by_cases hb43 : c.length % 2 = 1
         · refine rk_ct (T rfl (congrArg Value.bool (decide_eq_true hb43))) ?_
           refine rk_seq ?_
           refine rk_reg ?_
           refine lw_v (.slice none 0 0) (dv_assign C) ?_
           refine lw_v (.bool false) (dv_assign C) ?_
           refine lw_nil ?_
           refine rk_ret Tryd.func5 (v := .tuple #[.slice none 0 0, .bool false]) (res2 Tryd.results5 (rv_tmp rfl rfl) (rv_tmp rfl rfl)) ⟨_, rfl, ?_⟩
           -- path FFLTTT
           have hS : ¬ rdOK L := fun h_ => absurd h_ (no_odd (i := F.length) (gpW_slash hst (by omega) (by rw [← hPj]; assumption)).1 (by rw [(gpW_slash hst (by omega) (by rw [← hPj]; assumption)).2.1]; assumption))
           have hB : ¬ rdB L := fun h_ => h_.2.elim (fun e_ => absurd e_ (by assumption)) hS
           refine ⟨none, 0, fun _ => (none, 0), [], ?_⟩
           rw [rdN_f hS, show decide (rdB L) = false from decide_eq_false hB]
           exact ⟨rfl, E32, .nil E32.size, RIn.zero ⟨E32.size, Nat.le_refl _⟩, fun i_ h_ => absurd h_ (Nat.not_lt_zero _)⟩
         · refine rk_cf (T rfl (congrArg Value.bool (decide_eq_false hb43))) ?_
           refine rk_skip ?_
           refine rk_seq ?_
           refine rk_reg ?_
           refine lw_v (.slice A5 n c5) (dv_move (T rfl f28)) ?_
           refine lw_v (.agg #[.slice none 0 0]) (dv_build (pv := []) (l := [.slice none 0 0]) zc37 pl37 trivial rfl) ?_
           refine lw_e (oe_buildSlice (pv := [(0, .agg #[.slice none 0 0])]) (init := [.slice none 0 0]) (l := [.slice none 0 0]) us22 sz37 rfl rfl zc37 (by kernel_rfl) ⟨rfl, (T rfl rfl), trivial⟩ rfl ?_)
           intro b44 w45 n46
           have N47 : w.heap.size ≤ b44 := n46.eq ▸ E32.size
           have := n46.eq; have := n46.size
           have := Below.fresh n46.ext
           have E48 := below_ext E32 E32.size n46.ext
           have h49 := (h34.ext n46.ext)
           refine lw_e (oe_appendV (base := b12) (vs := V) (v1 := .slice none 0 0) (m := n) us22 in37 rfl (T rfl rfl) (T rfl rfl) h49 n46.blk rfl (by first | omega | (simp; done) | (simp; omega)) (by first | omega | (simp; done) | (simp; omega)) ?_)
           intro Ad50 c51 w52 hV53 x54 bt55
           have := x54.size
           have E56 := below_bl E48 N15 x54
           refine lw_v (.slice Ad50 (n + 1) c51) (dv_assign (T rfl rfl)) ?_
           refine lw_nil ?_
           refine rk_exit rfl ?_
           refine rk_reg ?_
           refine lw_v (.int .i64 ((j : Int))) (dv_move (T rfl f31)) ?_
           refine lw_v (.int .i64 (((j : Int)) + 1)) (dv_add (a := (j : Int)) (b := 1) (z := ((j : Int)) + 1) (T rfl rfl) C (wr_i64 (by omega) (by omega))) ?_
           refine lw_v (.int .i64 (((j : Int)) + 1)) (dv_assign (T rfl rfl)) ?_
           refine lw_nil ?_
           have h57 := ((h35.ext n46.ext).bt bt55 x54.size (by decide))
           have h58 := ((h36.ext n46.ext).bt bt55 x54.size (by decide))
           have h59 := ((h33.ext n46.ext).bt bt55 x54.size (by decide))
           obtain ⟨hg1, hg2, hg3⟩ := gpW_slash hst (by omega) (by rw [← hPj]; assumption)
           have hNe : gpN L F.length = k := by unfold gpN; rw [hg2]; omega
           have hMe : gpE L F.length = M := by unfold gpE; rw [hg2]; exact (cur_all hM (by omega)).symm
           have hRn := RIn.snoc h57 h58 (by omega) hNe hMe
           have hVn := vals_app (g := fun q => .slice (updA S F.length (A7, c7) q).1 (gpN L q) (updA S F.length (A7, c7) q).2) (v := .slice none 0 0) hV hVl (fun q hq => by rw [updA_ne _ _ (by omega)]) (by rw [updA_same, hNe])
           have hsz_ := E56.size
           exact ih23 (Pc5.length - ((j + 1))) _ _ (by rw [hd37]; omega) ⟨(j + 1), (F ++ [c]), [], (n + 1), 0, x, Ad50, c51, (V ++ [.slice none 0 0]), (updA S F.length (A7, c7)), none, 0, [], w52.heap.size, w52.heap.size, rfl, f26, f27, rfl, (f29.trans ((by first | rfl | exact vb (by simp only [List.length_append, List.length_cons, List.length_nil]; omega) | exact vt (by simp only [List.length_append, List.length_cons, List.length_nil]; omega) | exact vf (by simp only [List.length_append, List.length_cons, List.length_nil]; omega) | exact vf (by simp)))), f30, (vi (by omega)), E56, h59, hV53, (by rw [List.length_append]; exact hRn), (OwS.nil (Nat.le_refl _)), (by omega), hg3, (by simp; omega), rfl, rfl, (fun h_ => absurd h_ (by decide)), hxr, (by rw [List.length_append]; exact ev_snoc hev (by rw [hg2]; omega)), (by rw [List.length_append]; exact hVn), (by rw [List.length_append]; exact vals_last (by show V.length = F.length + 1; omega)), ⟨by omega, Nat.le_refl _⟩⟩
       · refine rk_cf (T rfl (congrArg Value.bool (decide_eq_false hb42))) ?_
         refine rk_skip ?_
         refine rk_seq ?_
         refine rk_reg ?_
         refine lw_v (.slice (some ⟨g40, o41, none⟩) (Pc5.length) cs4) (dv_move (T rfl f27)) ?_
         refine lw_v (.int .i64 ((j : Int))) (dv_move (T rfl f31)) ?_
         refine lw_v (.pointer (some ⟨g40, o41 + j, none⟩)) (dv_indexW (g := g40) (o := o41) (l := Pc5.length) (c := cs4) (i := j) (j := (j : Int)) us33 sz9 (T rfl rfl) (T rfl rfl) (by omega) (by first | omega | (simp; done) | (simp; omega))) ?_
         refine lw_v (.string (bOf (Pc5.getD j []))) (dv_load agt9 (T rfl rfl) (Ors.cell h33 (by first | omega | (simp; done) | (simp; omega)))) ?_
         refine lw_e (oe_callf (vs := [.string (bOf (Pc5.getD j []))]) co15 (ar1 (T rfl rfl)) (l6Int_ok (getD_ok (by rw [hPc6]; exact (toks_ok (hL)).1) j) (by first | omega | (simp only [List.length_append, List.length_cons, List.length_nil]; omega))) ?_)
         rintro _ w63 ⟨n60, rfl, e64, hdn61, hrg62⟩
         have := Below.fresh e64
         have E65 := below_ext E32 E32.size e64
         refine lw_v (.tuple #[.int .i64 n60, .bool (decide (decS (Pc5.getD j [])))]) (dv_move (T rfl rfl)) ?_
         refine lw_v (.int .i64 n60) (dv_extract (vs := #[.int .i64 n60, .bool (decide (decS (Pc5.getD j [])))]) (T rfl rfl) rfl) ?_
         refine lw_v (.bool (decide (decS (Pc5.getD j [])))) (dv_extract (vs := #[.int .i64 n60, .bool (decide (decS (Pc5.getD j [])))]) (T rfl rfl) rfl) ?_
         refine lw_v (.int .i64 n60) (dv_assign (T rfl rfl)) ?_
         refine lw_v (.bool (decide (decS (Pc5.getD j [])))) (dv_assign (T rfl rfl)) ?_
         refine lw_nil ?_
         refine rk_seq ?_
         refine rk_seq ?_
         refine rk_reg ?_
         refine lw_v (.bool (decide (decS (Pc5.getD j [])))) (dv_move (T rfl rfl)) ?_
         refine lw_v (.bool (decide (¬ (decS (Pc5.getD j []))))) (dv_notd (p := decS (Pc5.getD j [])) (T rfl rfl)) ?_
         refine lw_nil ?_
         by_cases hb66 : decS (Pc5.getD j [])
         · refine rk_cf (T rfl (congrArg Value.bool (decide_eq_false (not_not_intro hb66)))) ?_
           refine rk_skip ?_
           refine rk_seq ?_
           refine rk_seq ?_
           refine rk_reg ?_
           refine lw_v (.bool (decide (c.length % 2 = 1))) (dv_move (T rfl f29)) ?_
           refine lw_nil ?_
           by_cases hb67 : c.length % 2 = 1
           · refine rk_ct (T rfl (congrArg Value.bool (decide_eq_true hb67))) ?_
             refine rk_seq ?_
             refine rk_reg ?_
             refine lw_v (.slice A5 n c5) (dv_move (T rfl f28)) ?_
             refine lw_v (.int .i64 ((n : Int))) (dv_len (ad := A5) (l := n) (c := c5) us22 (T rfl rfl)) ?_
             refine lw_v (.int .i64 (((n : Int)) - 1)) (dv_sub (a := (n : Int)) (b := 1) (z := ((n : Int)) - 1) (T rfl rfl) C (wr_i64 (by omega) (by omega))) ?_
             refine lw_v (.int .i64 (((n : Int)) - 1)) (dv_assign (T rfl rfl)) ?_
             refine lw_nil ?_
             refine rk_reg ?_
             refine lw_v (.slice A5 n c5) (dv_move (T rfl f28)) ?_
             refine lw_v (.int .i64 (((n : Int)) - 1)) (dv_move (T rfl rfl)) ?_
             refine lw_v (.slice A5 n c5) (dv_move (T rfl f28)) ?_
             refine lw_v (.int .i64 (((n : Int)) - 1)) (dv_move (T rfl rfl)) ?_
             have h70 := (h34.ext e64)
             obtain ⟨g68, o69, rfl⟩ := OwV.at h70 (by first | omega | (simp; done) | (simp; omega))
             refine lw_v (.pointer (some ⟨g68, o69 + ((n) - 1), none⟩)) (dv_indexW (g := g68) (o := o69) (l := n) (c := c5) (i := ((n) - 1)) (j := ((n : Int)) - 1) us22 sz37 (T rfl rfl) (T rfl rfl) (by omega) (by first | omega | (simp; done) | (simp; omega))) ?_
             refine lw_v (.pointer (some ⟨g68, o69 + (((n) - 1)), none⟩)) (dv_fieldW (g := g68) (o := o69) (i := ((n) - 1)) fo37_0 (T rfl rfl)) ?_
             refine lw_v (.slice A7 k c7) (dv_load agt35 (T rfl rfl) (OwV.cell h70 (by rw [show n - 1 = F.length by omega]; exact hVl))) ?_
             refine lw_v (.int .i64 x) (dv_move (T rfl f30)) ?_
             refine lw_v (.int .i64 n60) (dv_move (T rfl rfl)) ?_
             refine lw_v (.agg #[.int .i64 x, .int .i64 n60]) (dv_build (pv := [(0, .int .i64 x), (1, .int .i64 n60)]) (l := [.int .i64 x, .int .i64 n60]) zc41 pl41 ⟨rfl, (T rfl rfl), ⟨rfl, (T rfl rfl), trivial⟩⟩ rfl) ?_
             refine lw_e (oe_buildSlice (pv := [(0, .agg #[.int .i64 x, .int .i64 n60])]) (init := [.int .i64 0, .int .i64 0]) (l := [.int .i64 x, .int .i64 n60]) us35 sz41 rfl rfl zc41 (by kernel_rfl) ⟨rfl, (T rfl rfl), trivial⟩ rfl ?_)
             intro b71 w72 n73
             have N74 : w.heap.size ≤ b71 := n73.eq ▸ E65.size
             have := n73.eq; have := n73.size
             have := Below.fresh n73.ext
             have E75 := below_ext E65 E65.size n73.ext
             have h76 := ((h36.ext e64).ext n73.ext)
             refine lw_e (oe_appendSt (base := s7) (L := M) (M := [x, n60]) (m := k) (k := .i64) (sz := 2) us35 in41 rfl (by decide) (T rfl rfl) (T rfl rfl) h76 n73.blk rfl (by first | omega | (simp; done) | (simp; omega)) (by first | omega | (simp; done) | (simp; omega)) ?_)
             intro Ad77 c78 w79 hO80 x81 bt82
             have := x81.size
             have E83 := below_bl E75 (by omega) x81
             refine lw_v (.pointer (some ⟨g68, o69 + ((n) - 1), none⟩)) (dv_indexW (g := g68) (o := o69) (l := n) (c := c5) (i := ((n) - 1)) (j := ((n : Int)) - 1) us22 sz37 (T rfl rfl) (T rfl rfl) (by omega) (by first | omega | (simp; done) | (simp; omega))) ?_
             refine lw_v (.pointer (some ⟨g68, o69 + (((n) - 1)), none⟩)) (dv_fieldW (g := g68) (o := o69) (i := ((n) - 1)) fo37_0 (T rfl rfl)) ?_
             have h84 := ((h70.ext n73.ext).bt bt82 x81.size (by decide))
             refine lw_e (oe_storeV (g := g68) (o := o69) (i := ((n) - 1)) (v := .slice Ad77 (k + 1) c78) sz35 (T rfl rfl) (T rfl rfl) rfl rfl h84 (by first | omega | (simp; done) | (simp; omega)) ?_)
             intro w85 hV86 x87 bt88
             have := x87.size
             have E89 := below_bl E83 N15 x87
             refine lw_nil ?_
             refine rk_seq ?_
             refine rk_reg ?_
             refine lw_v (.bool (decide (c.length % 2 = 1))) (dv_move (T rfl f29)) ?_
             refine lw_v (.bool (decide (¬ (c.length % 2 = 1)))) (dv_notd (p := c.length % 2 = 1) (T rfl rfl)) ?_
             refine lw_v (.bool (decide (¬ (c.length % 2 = 1)))) (dv_assign (T rfl rfl)) ?_
             refine lw_nil ?_
             refine rk_reg ?_
             refine lw_v (.int .i64 n60) (dv_move (T rfl rfl)) ?_
             refine lw_v (.int .i64 n60) (dv_assign (T rfl rfl)) ?_
             refine lw_nil ?_
             refine rk_inBlock ?_
             refine rk_reg ?_
             refine lw_v (.int .i64 ((j : Int))) (dv_move (T rfl f31)) ?_
             refine lw_v (.int .i64 (((j : Int)) + 1)) (dv_add (a := (j : Int)) (b := 1) (z := ((j : Int)) + 1) (T rfl rfl) C (wr_i64 (by omega) (by omega))) ?_
             refine lw_v (.int .i64 (((j : Int)) + 1)) (dv_assign (T rfl rfl)) ?_
             refine lw_nil ?_
             have h90 := ((((h35.ext e64).ext n73.ext).bl x81 (by omega)).bt bt88 x87.size (by decide))
             have h91 := ((((h33.ext e64).ext n73.ext).bt bt82 x81.size (by decide)).bt bt88 x87.size (by decide))
             have hgw := grp_word hst (by omega) (by rw [← hPj]; assumption)
             rw [← hPj] at hgw
             have h92 := (hO80.bt bt88 x87.size (by decide))
             exact ih23 (Pc5.length - ((j + 1))) _ _ (by rw [hd37]; omega) ⟨(j + 1), F, (c ++ [(Pc5.getD j [])]), n, (k + 1), n60, (some ⟨g68, o69, none⟩), c5, (V.set (((n) - 1)) (.slice Ad77 (k + 1) c78)), S, Ad77, c78, (M ++ [x, n60]), h7, s7, rfl, f26, f27, f28, ((by first | rfl | exact vb (by simp only [List.length_append, List.length_cons, List.length_nil]; omega) | exact vt (by simp only [List.length_append, List.length_cons, List.length_nil]; omega) | exact vf (by simp only [List.length_append, List.length_cons, List.length_nil]; omega) | exact vf (by simp))), rfl, (vi (by omega)), E89, h91, hV86, h90, h92, (by omega), hgw, hn, (by simp only [List.length_append, List.length_cons, List.length_nil]; omega), (cur_pair hM (by omega) (hx (by assumption)) (hdn61 (by assumption))), (fun h_ => absurd h_ (by simp only [List.length_append, List.length_cons, List.length_nil]; omega)), (by omega), hev, (by rw [show n - 1 = F.length by omega]; exact vals_set hV), (by rw [show n - 1 = F.length by omega]; exact vals_setl hVl), hs7⟩
           · refine rk_cf (T rfl (congrArg Value.bool (decide_eq_false hb67))) ?_
             refine rk_skip ?_
             refine rk_seq ?_
             refine rk_reg ?_
             refine lw_v (.bool (decide (c.length % 2 = 1))) (dv_move (T rfl f29)) ?_
             refine lw_v (.bool (decide (¬ (c.length % 2 = 1)))) (dv_notd (p := c.length % 2 = 1) (T rfl rfl)) ?_
             refine lw_v (.bool (decide (¬ (c.length % 2 = 1)))) (dv_assign (T rfl rfl)) ?_
             refine lw_nil ?_
             refine rk_reg ?_
             refine lw_v (.int .i64 n60) (dv_move (T rfl rfl)) ?_
             refine lw_v (.int .i64 n60) (dv_assign (T rfl rfl)) ?_
             refine lw_nil ?_
             refine rk_inBlock ?_
             refine rk_reg ?_
             refine lw_v (.int .i64 ((j : Int))) (dv_move (T rfl f31)) ?_
             refine lw_v (.int .i64 (((j : Int)) + 1)) (dv_add (a := (j : Int)) (b := 1) (z := ((j : Int)) + 1) (T rfl rfl) C (wr_i64 (by omega) (by omega))) ?_
             refine lw_v (.int .i64 (((j : Int)) + 1)) (dv_assign (T rfl rfl)) ?_
             refine lw_nil ?_
             have h93 := (h35.ext e64)
             have h94 := (h34.ext e64)
             have h95 := (h33.ext e64)
             have hgw := grp_word hst (by omega) (by rw [← hPj]; assumption)
             rw [← hPj] at hgw
             have h96 := (h36.ext e64)
             exact ih23 (Pc5.length - ((j + 1))) _ _ (by rw [hd37]; omega) ⟨(j + 1), F, (c ++ [(Pc5.getD j [])]), n, k, n60, A5, c5, V, S, A7, c7, M, h7, s7, rfl, f26, f27, f28, ((by first | rfl | exact vb (by simp only [List.length_append, List.length_cons, List.length_nil]; omega) | exact vt (by simp only [List.length_append, List.length_cons, List.length_nil]; omega) | exact vf (by simp only [List.length_append, List.length_cons, List.length_nil]; omega) | exact vf (by simp))), rfl, (vi (by omega)), E65, h95, h94, h93, h96, (by omega), hgw, hn, (by simp only [List.length_append, List.length_cons, List.length_nil]; omega), (cur_one hM (by omega)).1, (fun _ => by rw [(cur_one hM (by omega)).2]; exact hdn61 (by assumption)), (by omega), hev, hV, hVl, hs7⟩
         · refine rk_ct (T rfl (congrArg Value.bool (decide_eq_true hb66))) ?_
           refine rk_seq ?_
           refine rk_reg ?_
           refine lw_v (.slice none 0 0) (dv_assign C) ?_
           refine lw_v (.bool false) (dv_assign C) ?_
           refine lw_nil ?_
           refine rk_ret Tryd.func5 (v := .tuple #[.slice none 0 0, .bool false]) (res2 Tryd.results5 (rv_tmp rfl rfl) (rv_tmp rfl rfl)) ⟨_, rfl, ?_⟩
           -- path FFLTFF
           have hS : ¬ rdOK L := fun h_ => absurd h_ (no_dec (j := j) (by omega) (by rw [← hPj]; assumption) (by rw [← hPj]; assumption))
           have hB : ¬ rdB L := fun h_ => h_.2.elim (fun e_ => absurd e_ (by assumption)) hS
           refine ⟨none, 0, fun _ => (none, 0), [], ?_⟩
           rw [rdN_f hS, show decide (rdB L) = false from decide_eq_false hB]
           exact ⟨rfl, E65, .nil E65.size, RIn.zero ⟨E65.size, Nat.le_refl _⟩, fun i_ h_ => absurd h_ (Nat.not_lt_zero _)⟩
     · refine rk_cf (T rfl (congrArg Value.bool (decide_eq_false hb39))) ?_
       refine rk_exit rfl ?_
       refine rk_seq ?_
       refine rk_seq ?_
       refine rk_reg ?_
       refine lw_v (.bool (decide (c.length % 2 = 1))) (dv_move (T rfl f29)) ?_
       refine lw_v (.bool (decide (c.length % 2 = 1))) (dv_move (T rfl rfl)) ?_
       by_cases hb97 : c.length % 2 = 1
       · refine lw_no (d := 69) rfl rfl (congrArg Value.bool (decide_eq_true hb97)) ?_
         refine lw_no (d := 69) rfl rfl (congrArg Value.bool (decide_eq_true hb97)) ?_
         refine lw_no (d := 69) rfl rfl (congrArg Value.bool (decide_eq_true hb97)) ?_
         refine lw_no (d := 69) rfl rfl (congrArg Value.bool (decide_eq_true hb97)) ?_
         refine lw_v (.bool true) (dv_pick_t (T rfl (congrArg Value.bool (decide_eq_true hb97))) C) ?_
         refine lw_v (.bool true) (dv_move (T rfl rfl)) ?_
         refine lw_no (d := 75) rfl rfl (rfl) ?_
         refine lw_no (d := 75) rfl rfl (rfl) ?_
         refine lw_v (.bool true) (dv_pick_t (T rfl rfl) C) ?_
         refine lw_nil ?_
         refine rk_ct (T rfl rfl) ?_
         refine rk_seq ?_
         refine rk_reg ?_
         refine lw_v (.slice none 0 0) (dv_assign C) ?_
         refine lw_v (.bool false) (dv_assign C) ?_
         refine lw_nil ?_
         refine rk_ret Tryd.func5 (v := .tuple #[.slice none 0 0, .bool false]) (res2 Tryd.results5 (rv_tmp rfl rfl) (rv_tmp rfl rfl)) ⟨_, rfl, ?_⟩
         -- path FFLFT
         have hS : ¬ rdOK L := fun h_ => absurd h_ (no_odd (i := F.length) (by rw [(gpW_end hst (by omega)).1]; omega) (by rw [(gpW_end hst (by omega)).2]; assumption))
         have hB : ¬ rdB L := fun h_ => h_.2.elim (fun e_ => absurd e_ (by assumption)) hS
         refine ⟨none, 0, fun _ => (none, 0), [], ?_⟩
         rw [rdN_f hS, show decide (rdB L) = false from decide_eq_false hB]
         exact ⟨rfl, E32, .nil E32.size, RIn.zero ⟨E32.size, Nat.le_refl _⟩, fun i_ h_ => absurd h_ (Nat.not_lt_zero _)⟩
       · obtain ⟨hge1, hge2⟩ := gpW_end hst (by omega)
         have hNe : gpN L F.length = k := by unfold gpN; rw [hge2]; omega
         have hMe : gpE L F.length = M := by unfold gpE; rw [hge2]; exact (cur_all hM (by omega)).symm
         have hRn := RIn.snoc h35 h36 (by omega) hNe hMe
         have hVn := vals_all (g := fun q => .slice (updA S F.length (A7, c7) q).1 (gpN L q) (updA S F.length (A7, c7) q).2) hV hVl (fun q hq => by rw [updA_ne _ _ (by omega)]) (by rw [updA_same, hNe])
         rw [← hn] at hRn hVn
         have hRR98 := rr_of h34 hRn (by omega) hVn
         have hxn : ∀ q, q < n → gpN L q ≤ 1048576 := fun q _ => gpN_le hL (by omega) q
         have hevn : ∀ q, q < (grps L).length → (gpW L q).length % 2 = 0 := by rw [hge1]; exact ev_snoc hev (by rw [hge2]; omega)
         have hgn : (grps L).length = n := by omega
         refine lw_vy (.slice A5 n c5) (d := 69) rfl rfl (congrArg Value.bool (decide_eq_false hb97)) (dv_move (T rfl f28)) ?_
         refine lw_ey (d := 69) rfl rfl (congrArg Value.bool (decide_eq_false hb97)) (oe_callf (vs := [.slice A5 n c5]) co11 (ar1 (T rfl rfl)) (sLayerText_ok (c := c5) hRR98 (by omega) hxn) ?_)
         rintro _ w99 ⟨rfl, e100⟩
         have := Below.fresh e100
         have E101 := below_ext E32 E32.size e100
         refine lw_vy (.string (bOf L)) (d := 69) rfl rfl (congrArg Value.bool (decide_eq_false hb97)) (dv_move (T rfl f26)) ?_
         refine lw_vy (.bool (decide ((((layR n (gpN L) (gpE L))) : List Int) ≠ L))) (d := 69) rfl rfl (congrArg Value.bool (decide_eq_false hb97)) (dv_neS (L := (layR n (gpN L) (gpE L))) (M := L) (T rfl rfl) (T rfl rfl) ((ok_layR _ _ _)) ((hL))) ?_
         refine lw_v (.bool (decide ((((layR n (gpN L) (gpE L))) : List Int) ≠ L))) (dv_pick_f (T rfl (congrArg Value.bool (decide_eq_false hb97))) (T rfl rfl)) ?_
         refine lw_v (.bool (decide ((((layR n (gpN L) (gpE L))) : List Int) ≠ L))) (dv_move (T rfl rfl)) ?_
         by_cases hb102 : (((layR n (gpN L) (gpE L))) : List Int) ≠ L
         · refine lw_no (d := 75) rfl rfl (congrArg Value.bool (decide_eq_true hb102)) ?_
           refine lw_no (d := 75) rfl rfl (congrArg Value.bool (decide_eq_true hb102)) ?_
           refine lw_v (.bool true) (dv_pick_t (T rfl (congrArg Value.bool (decide_eq_true hb102))) C) ?_
           refine lw_nil ?_
           refine rk_ct (T rfl rfl) ?_
           refine rk_seq ?_
           refine rk_reg ?_
           refine lw_v (.slice none 0 0) (dv_assign C) ?_
           refine lw_v (.bool false) (dv_assign C) ?_
           refine lw_nil ?_
           refine rk_ret Tryd.func5 (v := .tuple #[.slice none 0 0, .bool false]) (res2 Tryd.results5 (rv_tmp rfl rfl) (rv_tmp rfl rfl)) ⟨_, rfl, ?_⟩
           -- path FFLFFT
           have hS : ¬ rdOK L := fun h_ => by first | exact absurd h_ (no_lay (by rw [hgn]; assumption)) | exact rd_nn (by have h2_ := h_; rw [show L = [] by assumption] at h2_; exact h2_)
           have hB : ¬ rdB L := fun h_ => h_.2.elim (fun e_ => absurd e_ (by assumption)) hS
           refine ⟨none, 0, fun _ => (none, 0), [], ?_⟩
           rw [rdN_f hS, show decide (rdB L) = false from decide_eq_false hB]
           exact ⟨rfl, E101, .nil E101.size, RIn.zero ⟨E101.size, Nat.le_refl _⟩, fun i_ h_ => absurd h_ (Nat.not_lt_zero _)⟩
         · refine lw_vy (.string (bOf L)) (d := 75) rfl rfl (congrArg Value.bool (decide_eq_false hb102)) (dv_move (T rfl f26)) ?_
           refine lw_vy (.bool (decide ((L : List Int) = ([])))) (d := 75) rfl rfl (congrArg Value.bool (decide_eq_false hb102)) (dv_eqS (L := L) (M := []) (T rfl rfl) C ((hL)) ((okC_lit [] (by decide)))) ?_
           refine lw_v (.bool (decide ((L : List Int) = ([])))) (dv_pick_f (T rfl (congrArg Value.bool (decide_eq_false hb102))) (T rfl rfl)) ?_
           refine lw_nil ?_
           by_cases hb103 : (L : List Int) = ([])
           · refine rk_ct (T rfl (congrArg Value.bool (decide_eq_true hb103))) ?_
             refine rk_seq ?_
             refine rk_reg ?_
             refine lw_v (.slice none 0 0) (dv_assign C) ?_
             refine lw_v (.bool false) (dv_assign C) ?_
             refine lw_nil ?_
             refine rk_ret Tryd.func5 (v := .tuple #[.slice none 0 0, .bool false]) (res2 Tryd.results5 (rv_tmp rfl rfl) (rv_tmp rfl rfl)) ⟨_, rfl, ?_⟩
             -- path FFLFFFT
             have hS : ¬ rdOK L := fun h_ => by first | exact absurd h_ (no_lay (by rw [hgn]; assumption)) | exact rd_nn (by have h2_ := h_; rw [show L = [] by assumption] at h2_; exact h2_)
             have hB : ¬ rdB L := fun h_ => h_.2.elim (fun e_ => absurd e_ (by assumption)) hS
             refine ⟨none, 0, fun _ => (none, 0), [], ?_⟩
             rw [rdN_f hS, show decide (rdB L) = false from decide_eq_false hB]
             exact ⟨rfl, E101, .nil E101.size, RIn.zero ⟨E101.size, Nat.le_refl _⟩, fun i_ h_ => absurd h_ (Nat.not_lt_zero _)⟩
           · refine rk_cf (T rfl (congrArg Value.bool (decide_eq_false hb103))) ?_
             refine rk_skip ?_
             refine rk_seq ?_
             refine rk_reg ?_
             refine lw_v (.slice A5 n c5) (dv_move (T rfl f28)) ?_
             refine lw_v (.slice A5 n c5) (dv_assign (T rfl rfl)) ?_
             refine lw_v (.bool true) (dv_assign C) ?_
             refine lw_nil ?_
             refine rk_ret Tryd.func5 (v := .tuple #[.slice A5 n c5, .bool true]) (res2 Tryd.results5 (rv_tmp rfl rfl) (rv_tmp rfl rfl)) ⟨_, rfl, ?_⟩
             -- path FFLFFFF
             have h104 := (h34.ext e100)
             have h105 := (hRn.ext e100)
             obtain ⟨hS, hpl2, hsm⟩ := rd_spec2 (L := L) (by omega) (by assumption) (by assumption) hevn (by rw [hgn]; first | assumption | exact Decidable.not_not.1 (by assumption))
             have hB : rdB L := ⟨hS.1, .inr hS⟩
             have hrn : rdN L = n := by rw [rdN_t hS, hpl2, hgn]
             rw [hgn] at hsm
             refine ⟨A5, c5, (updA S F.length (A7, c7)), V, ?_⟩
             rw [hrn, show decide (rdB L) = true from decide_eq_true hB]
             exact ⟨rfl, E101, OwV.mono h104 (by omega), ((RIn.mono h105 h105.lh.2 (Nat.le_refl _)).congr (fun q hq => (hsm q hq).1) (fun q hq => (hsm q hq).2) (fun _ _ => rfl)), fun q hq => by rw [(hsm q hq).1]; exact hVn q hq⟩
end Go.Proofs.YtmbpomcbdopgnaaDoor.W
