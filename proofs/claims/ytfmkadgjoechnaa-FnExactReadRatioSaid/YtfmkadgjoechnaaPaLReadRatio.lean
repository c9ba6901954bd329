/- Walks of one law, packed by a program of this session. -/
import Derived.Lib.IndexMore
import Derived.Test.YtfmkadgjoechnaaPaf
set_option linter.unusedVariables false
set_option linter.unusedSimpArgs false
namespace Go.Proofs.Ytfmkadgjoechnaa.Fw
open Go Go.RowKit
def fi (c : Int) : List Int → Nat
  | [] => 0
  | x :: l => if x = c then 0 else fi c l + 1
theorem fi_le (c : Int) : ∀ L : List Int, fi c L ≤ L.length
  | [] => Nat.le_refl _
  | x :: l => by
    unfold fi; split
    · exact Nat.zero_le _
    · have := fi_le c l; simp; omega
theorem fi_hit {c : Int} : ∀ {L : List Int} {i : Nat}, i ≤ fi c L → i < L.length → L.getD i 0 = c → fi c L = i
  | [], i, _, h, _ => by simp at h
  | x :: l, 0, _, _, h2 => by
    have hx : x = c := by simpa using h2
    unfold fi; rw [if_pos hx]
  | x :: l, i + 1, h, h1, h2 => by
    unfold fi at h ⊢
    by_cases hx : x = c
    · rw [if_pos hx] at h; omega
    · rw [if_neg hx] at h ⊢
      have := fi_hit (c := c) (L := l) (i := i) (by omega) (by simpa using h1) (by simpa using h2)
      omega
theorem fi_miss {c : Int} : ∀ {L : List Int} {i : Nat}, i ≤ fi c L → i < L.length → ¬ L.getD i 0 = c → i + 1 ≤ fi c L
  | [], i, _, h, _ => by simp at h
  | x :: l, 0, _, _, h2 => by
    have hx : ¬ x = c := by simpa using h2
    unfold fi; rw [if_neg hx]; omega
  | x :: l, i + 1, h, h1, h2 => by
    unfold fi at h ⊢
    by_cases hx : x = c
    · rw [if_pos hx] at h; omega
    · rw [if_neg hx] at h ⊢
      have := fi_miss (c := c) (L := l) (i := i) (by omega) (by simpa using h1) (by simpa using h2)
      omega
theorem ix_fi {c : Int} (hc : 0 ≤ c ∧ c < 256) : ∀ {L : List Int}, okW 256 L → Lib.index (L.map fun x => UInt8.ofNat x.toNat) [UInt8.ofNat c.toNat] = if fi c L < L.length then (fi c L : Int) else -1
  | [], _ => by rfl
  | x :: l, h => by
    have hx := h x (List.mem_cons_self ..)
    have ih := ix_fi hc (L := l) fun y hy => h y (List.mem_cons_of_mem _ hy)
    have e : ([UInt8.ofNat c.toNat].isPrefixOf ((x :: l).map fun x => UInt8.ofNat x.toNat)) = decide (x = c) := by
      simp only [List.map_cons, List.isPrefixOf, Bool.and_true]
      rw [Bool.eq_iff_iff]
      simp only [beq_iff_eq, decide_eq_true_iff]
      exact ⟨fun hh => (byte_inj hc hx hh).symm, fun hh => by rw [hh]⟩
    rw [List.map_cons] at e ⊢
    unfold Lib.index
    rw [e]
    by_cases hxc : x = c
    · rw [decide_eq_true hxc, if_pos rfl]
      unfold fi; rw [if_pos hxc, if_pos (by simp)]; rfl
    · rw [decide_eq_false hxc, if_neg (by decide), ih]
      have hf : fi c (x :: l) = fi c l + 1 := by show (if x = c then 0 else fi c l + 1) = _; rw [if_neg hxc]
      rw [hf]
      by_cases hl : fi c l < l.length
      · have hl2 : fi c l + 1 < (x :: l).length := by simp; omega
        simp only [if_pos hl, if_pos hl2]
        have : ((fi c l : Int) == -1) = false := by rw [beq_eq_false_iff_ne]; omega
        rw [this]; simp
      · have hl2 : ¬ fi c l + 1 < (x :: l).length := by simp; omega
        simp only [if_neg hl, if_neg hl2]; rfl
theorem cut_fi {c : Int} (hc : 0 ≤ c ∧ c < 256) {L : List Int} (hL : okW 256 L) :
    (⟨(Lib.cut (bOf L).data.toList (bOf [c]).data.toList).1.toArray⟩ : ByteArray) = bOf (L.take (fi c L)) ∧ (⟨(Lib.cut (bOf L).data.toList (bOf [c]).data.toList).2.1.toArray⟩ : ByteArray) = bOf (L.drop (fi c L + 1)) ∧
      (Lib.cut (bOf L).data.toList (bOf [c]).data.toList).2.2 = decide (fi c L < L.length) := by
  have e1 : (bOf L).data.toList = L.map fun x => UInt8.ofNat x.toNat := by simp [bOf]
  have e2 : (bOf [c]).data.toList = [UInt8.ofNat c.toNat] := by simp [bOf]
  rw [e1, e2]
  have hi := ix_fi hc hL
  have hle := fi_le c L
  unfold Lib.cut
  rw [hi]
  by_cases hl : fi c L < L.length
  · rw [if_pos hl, if_pos (by omega)]
    refine ⟨?_, ?_, (decide_eq_true hl).symm⟩
    · simp [bOf, List.map_take]
    · have : ((fi c L : Nat) : Int).toNat + [UInt8.ofNat c.toNat].length = fi c L + 1 := by simp
      simp [bOf, List.map_drop]
  · rw [if_neg hl, if_neg (by omega)]
    refine ⟨?_, ?_, (decide_eq_false hl).symm⟩
    · rw [List.take_of_length_le (by omega)]; simp [bOf]
    · rw [List.drop_of_length_le (by omega)]; simp [bOf]
def MLn (g : Nat) (w : World) : Prop := ∃ m : Int, w.cell? ⟨g, 0, none⟩ = some (.int .i64 m)
theorem MLn.ext {g : Nat} {w w' : World} (h : MLn g w) (e : Ext w w') : MLn g w' := by
  obtain ⟨m, hm⟩ := h
  refine ⟨m, ?_⟩
  unfold World.cell? at hm ⊢
  simp only at hm ⊢
  cases hg : w.heap[g]? with
  | none => rw [hg] at hm; cases hm
  | some o => rw [hg] at hm; rw [e.blk hg]; exact hm
theorem txt_len78 {z : Int} (h : fits z) : (txtL z).length ≤ 78 := by
  have h2 := canD_txt z
  exact (canD_len77 h2.1 (by rw [h2.2]; exact h)).2
def rrU (L : List Int) : Int := rdZ (L.take (fi 47 L))
def rrD (L : List Int) : Int := if fi 47 L < L.length then rdZ (L.drop (fi 47 L + 1)) else 1
def rrS (L : List Int) : Prop := rdS (L.take (fi 47 L)) ∧ (fi 47 L < L.length → rdS (L.drop (fi 47 L + 1))) ∧ rTxt (rrU L) (rrD L) = L
instance (L : List Int) : Decidable (rrS L) := by unfold rrS; infer_instance
theorem rrU_f (L : List Int) : fits (rrU L) := rdZ_f _
theorem rrD_f (L : List Int) : fits (rrD L) := by
  unfold rrD; split
  · exact rdZ_f _
  · exact ⟨by decide, by decide⟩
theorem rrD_t {L : List Int} (h : fi 47 L < L.length) : rrD L = rdZ (L.drop (fi 47 L + 1)) := if_pos h
theorem rrD_n {L : List Int} (h : ¬ fi 47 L < L.length) : rrD L = 1 := if_neg h
theorem rrS_len {L : List Int} (h : rrS L) : L.length ≤ 160 := by
  have h3 := h.2.2
  have h1 := txt_len78 (rrU_f L); have h2 := txt_len78 (rrD_f L)
  have hl := congrArg List.length h3
  rw [← hl]
  unfold rTxt
  split
  · split
    · omega
    · simp; omega
  · simp
end Go.Proofs.Ytfmkadgjoechnaa.Fw
set_option linter.unusedVariables false
set_option linter.unusedSimpArgs false
namespace Go.Proofs.Ytfmkadgjoechnaa.W
open Go Go.RowKit Go.Proofs.Ytfmkadgjoechnaa.Fw
attribute [local irreducible] RunK LW AW DV OE Ct
theorem agt122 : aggB Try.prog 122 = some true := by kernel_rfl
theorem agt131 : aggB Try.prog 131 = some true := by kernel_rfl
theorem agt44 : aggB Try.prog 44 = some true := by kernel_rfl
theorem co103 : callOk Try.prog 103 = true := by kernel_rfl
theorem co104 : callOk Try.prog 104 = true := by kernel_rfl
theorem co106 : callOk Try.prog 106 = true := by kernel_rfl
theorem co115 : callOk Try.prog 115 = true := by kernel_rfl
theorem co22 : callOk Try.prog 22 = true := by kernel_rfl
theorem co23 : callOk Try.prog 23 = true := by kernel_rfl
theorem co24 : callOk Try.prog 24 = true := by kernel_rfl
theorem co25 : callOk Try.prog 25 = true := by kernel_rfl
theorem co31 : callOk Try.prog 31 = true := by kernel_rfl
theorem co47 : callOk Try.prog 47 = true := by kernel_rfl
theorem co48 : callOk Try.prog 48 = true := by kernel_rfl
theorem co60 : callOk Try.prog 60 = true := by kernel_rfl
theorem co67 : callOk Try.prog 67 = true := by kernel_rfl
theorem co70 : callOk Try.prog 70 = true := by kernel_rfl
theorem co71 : callOk Try.prog 71 = true := by kernel_rfl
theorem co72 : callOk Try.prog 72 = true := by kernel_rfl
theorem fo122_0 : fieldOffB Try.prog 122 0 = some 0 := by kernel_rfl
theorem fo122_1 : fieldOffB Try.prog 122 1 = some 2 := by kernel_rfl
theorem fo131_0 : fieldOffB Try.prog 131 0 = some 0 := by kernel_rfl
theorem fo131_1 : fieldOffB Try.prog 131 1 = some 2 := by kernel_rfl
theorem fo44_0 : fieldOffB Try.prog 44 0 = some 0 := by kernel_rfl
theorem fo44_1 : fieldOffB Try.prog 44 1 = some 4 := by kernel_rfl
theorem pl122 : placesB Try.prog 122 = some [(0, 2), (2, 2)] := by kernel_rfl
theorem pl131 : placesB Try.prog 131 = some [(0, 2), (2, 2)] := by kernel_rfl
theorem pl44 : placesB Try.prog 44 = some [(0, 4), (4, 4)] := by kernel_rfl
theorem sz122 : sizeB Try.prog 122 = some 4 := by kernel_rfl
theorem sz131 : sizeB Try.prog 131 = some 4 := by kernel_rfl
theorem sz44 : sizeB Try.prog 44 = some 8 := by kernel_rfl
theorem zc122 : zcB Try.prog 122 = some [.bool false, .slice none 0 0, .bool false, .slice none 0 0] := by kernel_rfl
theorem zc131 : zcB Try.prog 131 = some [.bool false, .slice none 0 0, .bool false, .slice none 0 0] := by kernel_rfl
theorem zc44 : zcB Try.prog 44 = some [.int .u64 0, .int .u64 0, .int .u64 0, .int .u64 0, .int .u64 0, .int .u64 0, .int .u64 0, .int .u64 0] := by kernel_rfl
theorem ze122 : zeroB Try.prog 122 = some #[.bool false, .slice none 0 0, .bool false, .slice none 0 0] := by kernel_rfl
theorem ze131 : zeroB Try.prog 131 = some #[.bool false, .slice none 0 0, .bool false, .slice none 0 0] := by kernel_rfl
theorem ze44 : zeroB Try.prog 44 = some #[.int .u64 0, .int .u64 0, .int .u64 0, .int .u64 0, .int .u64 0, .int .u64 0, .int .u64 0, .int .u64 0] := by kernel_rfl
set_option maxHeartbeats 1000000 in
theorem iratio_ok {w : World}  {x y : Int} (fx_ : fits x) (fy_ : fits y)   : Ct Try.prog 115 [.agg #[.int .u64 (wv3 x), .int .u64 (wv2 x), .int .u64 (wv1 x), .int .u64 (wv0 x), .int .u64 (wv3 y), .int .u64 (wv2 y), .int .u64 (wv1 y), .int .u64 (wv0 y)]] w fun v w1 => ∃ nr0_ A0_ l0_ c0_ nr1_ A1_ l1_ c1_, v = .agg #[.bool nr0_, .slice A0_ l0_ c0_, .bool nr1_, .slice A1_ l1_ c1_] ∧ Ext w w1 ∧ Num 64 24 .u64 w1 nr0_ A0_ l0_ c0_ (x) (256) ∧ Num 64 24 .u64 w1 nr1_ A1_ l1_ c1_ (y) (256) := by
 refine ct_run (n := 10) Try.func115 rfl Try.ntmps115 rfl ?_
 have E0 : Below w.heap.size w w := Below.refl _ _
 refine rk_seq ?_
 refine rk_reg ?_
 refine lw_e (oe_box (v := .agg #[.int .u64 (wv3 x), .int .u64 (wv2 x), .int .u64 (wv1 x), .int .u64 (wv0 x), .int .u64 (wv3 y), .int .u64 (wv2 y), .int .u64 (wv1 y), .int .u64 (wv0 y)]) (cs := #[.int .u64 (wv3 x), .int .u64 (wv2 x), .int .u64 (wv1 x), .int .u64 (wv0 x), .int .u64 (wv3 y), .int .u64 (wv2 y), .int .u64 (wv1 y), .int .u64 (wv0 y)]) (T rfl rfl) rfl ?_)
 intro b1 w2 n3
 have N4 : w.heap.size ≤ b1 := n3.eq ▸ E0.size
 have E5 := below_ext E0 E0.size n3.ext
 refine lw_e (oe_alloc ze131 ?_)
 intro b6 w7 n8
 have N9 : w.heap.size ≤ b6 := n8.eq ▸ E5.size
 have : b1 < b6 := n8.eq ▸ lt_of_blk n3.blk
 have E10 := below_ext E5 E5.size n8.ext
 refine lw_nil ?_
 refine rk_seq ?_
 refine rk_any (fun w => w.heap[b1]? = some (.cells #[.int .u64 (wv3 x), .int .u64 (wv2 x), .int .u64 (wv1 x), .int .u64 (wv0 x), .int .u64 (wv3 y), .int .u64 (wv2 y), .int .u64 (wv1 y), .int .u64 (wv0 y)] 44)) [7] mo ?_
 intro w11 d12
 have E13 := below_ext E10 E10.size d12.ext
 have H14 := (d12.ext.blk (n8.ext.blk n3.blk))
 refine aw_pure 0 (.pointer (some ⟨b1, 0, none⟩)) rfl (by kernel_rfl) .none H14 (fun _ => dv_fieldAddr (a := ⟨b1, 0, none⟩) (a' := ⟨b1, 0, none⟩) fo44_0 (T rfl rfl) rfl) ?_
 refine aw_load 1 (.agg #[.int .u64 (wv3 x), .int .u64 (wv2 x), .int .u64 (wv1 x), .int .u64 (wv0 x)]) rfl (by kernel_rfl) .none H14 (fun _ s => dv_loads (l := [.int .u64 (wv3 x), .int .u64 (wv2 x), .int .u64 (wv1 x), .int .u64 (wv0 x)]) agt26 sz26 (T rfl rfl) s rfl) ?_
 refine aw_pure 3 (.pointer (some ⟨b1, 4, none⟩)) rfl (by kernel_rfl) .none H14 (fun _ => dv_fieldAddr (a := ⟨b1, 0, none⟩) (a' := ⟨b1, 4, none⟩) fo44_1 (T rfl rfl) rfl) ?_
 refine aw_load 4 (.agg #[.int .u64 (wv3 y), .int .u64 (wv2 y), .int .u64 (wv1 y), .int .u64 (wv0 y)]) rfl (by kernel_rfl) .none H14 (fun _ s => dv_loads (l := [.int .u64 (wv3 y), .int .u64 (wv2 y), .int .u64 (wv1 y), .int .u64 (wv0 y)]) agt26 sz26 (T rfl rfl) s rfl) ?_
 refine aw_one 2 rfl (by kernel_rfl) .none (oe_callf (vs := [.agg #[.int .u64 (wv3 x), .int .u64 (wv2 x), .int .u64 (wv1 x), .int .u64 (wv0 x)]]) co46 (ar1 (T rfl rfl)) (wnumz_ok (z := x) fx_) ?_)
 rintro _ w20 ⟨nr15, A16, n17, c18, rfl, e21, h19⟩
 have E22 := below_ext E13 E13.size e21
 have lh19 := Num.len (by decide) h19
 have H23 := (e21.blk H14)
 refine ⟨.inr H23, ?_⟩
 refine aw_one 5 rfl (by kernel_rfl) .none (oe_callf (vs := [.agg #[.int .u64 (wv3 y), .int .u64 (wv2 y), .int .u64 (wv1 y), .int .u64 (wv0 y)]]) co46 (ar1 (T rfl rfl)) (wnumz_ok (z := y) fy_) ?_)
 rintro _ w29 ⟨nr24, A25, n26, c27, rfl, e30, h28⟩
 have E31 := below_ext E22 E22.size e30
 have lh28 := Num.len (by decide) h28
 have H32 := (e30.blk H23)
 refine ⟨.inr H32, ?_⟩
 refine aw_pure 6 (.agg #[.bool nr15, .slice A16 n17 c18, .bool nr24, .slice A25 n26 c27]) rfl (by kernel_rfl) .none H32 (fun _ => dv_build (pv := [(0, .agg #[.bool nr15, .slice A16 n17 c18]), (1, .agg #[.bool nr24, .slice A25 n26 c27])]) (l := [.bool nr15, .slice A16 n17 c18, .bool nr24, .slice A25 n26 c27]) zc131 pl131 ⟨rfl, (T rfl rfl), ⟨rfl, (T rfl rfl), trivial⟩⟩ rfl) ?_
 have H33 := (e30.blk (e21.blk (d12.ext.blk n8.blk)))
 refine aw_one 7 rfl (by kernel_rfl) .none (oe_store (v := .agg #[.bool nr15, .slice A16 n17 c18, .bool nr24, .slice A25 n26 c27]) (vs := [.bool nr15, .slice A16 n17 c18, .bool nr24, .slice A25 n26 c27]) (l := [.bool nr15, .slice A16 n17 c18, .bool nr24, .slice A25 n26 c27]) (T rfl rfl) (T rfl rfl) sz131 rfl rfl rfl H33 rfl ?_)
 intro w34 s35 H36
 have E37 := below_st E31 N9 s35
 refine ⟨.inl rfl, ?_⟩
 refine aw_done (by kernel_rfl) ?_
 refine rk_ret Try.func115 (v := .agg #[.bool nr15, .slice A16 n17 c18, .bool nr24, .slice A25 n26 c27]) (res1 Try.results115 (rv_cells (l := [.bool nr15, .slice A16 n17 c18, .bool nr24, .slice A25 n26 c27]) agt131 sz131 rfl rfl H36 rfl)) ⟨_, rfl, ?_⟩
 have h38 := ((h19.ext e30).st s35 H33 (by decide))
 have h39 := (h28.st s35 H33 (by decide))
 exact ⟨_, _, _, _, _, _, _, _, rfl, E37, h38.to rfl (Nat.le_refl _), h39.to rfl (Nat.le_refl _)⟩
set_option maxHeartbeats 1000000 in
theorem iRatioOk_ok {w : World} {x y : Int} (fx_ : fits x) (fy_ : fits y)  : Ct Try.prog 106 [.agg #[.int .u64 (wv3 x), .int .u64 (wv2 x), .int .u64 (wv1 x), .int .u64 (wv0 x), .int .u64 (wv3 y), .int .u64 (wv2 y), .int .u64 (wv1 y), .int .u64 (wv0 y)]] w fun v w1 => v = .bool (decide (rOk x y)) ∧ Ext w w1 := by
 refine ct_run (n := 21) Try.func106 rfl Try.ntmps106 rfl ?_
 have E0 : Below w.heap.size w w := Below.refl _ _
 refine rk_seq ?_
 refine rk_reg ?_
 refine lw_e (oe_box (v := .agg #[.int .u64 (wv3 x), .int .u64 (wv2 x), .int .u64 (wv1 x), .int .u64 (wv0 x), .int .u64 (wv3 y), .int .u64 (wv2 y), .int .u64 (wv1 y), .int .u64 (wv0 y)]) (cs := #[.int .u64 (wv3 x), .int .u64 (wv2 x), .int .u64 (wv1 x), .int .u64 (wv0 x), .int .u64 (wv3 y), .int .u64 (wv2 y), .int .u64 (wv1 y), .int .u64 (wv0 y)]) (T rfl rfl) rfl ?_)
 intro b1 w2 n3
 have N4 : w.heap.size ≤ b1 := n3.eq ▸ E0.size
 have E5 := below_ext E0 E0.size n3.ext
 refine lw_v (.bool false) (dv_assign C) ?_
 refine lw_nil ?_
 refine rk_seq ?_
 refine rk_reg ?_
 refine lw_v (.agg #[.int .u64 (wv3 x), .int .u64 (wv2 x), .int .u64 (wv1 x), .int .u64 (wv0 x), .int .u64 (wv3 y), .int .u64 (wv2 y), .int .u64 (wv1 y), .int .u64 (wv0 y)]) (dv_loads (l := [.int .u64 (wv3 x), .int .u64 (wv2 x), .int .u64 (wv1 x), .int .u64 (wv0 x), .int .u64 (wv3 y), .int .u64 (wv2 y), .int .u64 (wv1 y), .int .u64 (wv0 y)]) agt44 sz44 (T rfl rfl) n3.blk rfl) ?_
 refine lw_e (oe_callf (vs := [.agg #[.int .u64 (wv3 x), .int .u64 (wv2 x), .int .u64 (wv1 x), .int .u64 (wv0 x), .int .u64 (wv3 y), .int .u64 (wv2 y), .int .u64 (wv1 y), .int .u64 (wv0 y)]]) co115 (ar1 (T rfl rfl)) (iratio_ok fx_ fy_  ) ?_)
 rintro _ w16 ⟨nr6, A7, n8, c9, nr10, A11, n12, c13, rfl, e17, h14, h15⟩
 have E18 := below_ext E5 E5.size e17
 have lh14 := Num.len (by decide) h14
 have lh15 := Num.len (by decide) h15
 refine lw_e (oe_alloc ze131 ?_)
 intro b19 w20 n21
 have N22 : w.heap.size ≤ b19 := n21.eq ▸ E18.size
 have H23 := (e17.blk n3.blk)
 have : b1 < b19 := n21.eq ▸ lt_of_blk H23
 have E24 := below_ext E18 E18.size n21.ext
 refine lw_e (oe_store (v := .agg #[.bool nr6, .slice A7 n8 c9, .bool nr10, .slice A11 n12 c13]) (vs := [.bool nr6, .slice A7 n8 c9, .bool nr10, .slice A11 n12 c13]) (l := [.bool nr6, .slice A7 n8 c9, .bool nr10, .slice A11 n12 c13]) (T rfl rfl) (T rfl rfl) sz131 rfl rfl rfl n21.blk rfl ?_)
 intro w25 s26 H27
 have E28 := below_st E24 N22 s26
 refine lw_nil ?_
 refine rk_seq ?_
 refine rk_reg ?_
 refine lw_v (.pointer (some ⟨b19, 2, none⟩)) (dv_fieldAddr (a := ⟨b19, 0, none⟩) (a' := ⟨b19, 2, none⟩) fo131_1 (T rfl rfl) rfl) ?_
 refine lw_v (.agg #[.bool nr10, .slice A11 n12 c13]) (dv_loads (l := [.bool nr10, .slice A11 n12 c13]) agt59 sz59 (T rfl rfl) H27 rfl) ?_
 have h29 := ((h15.ext n21.ext).st s26 n21.blk (by decide))
 refine lw_e (oe_callf (vs := [.agg #[.bool nr10, .slice A11 n12 c13]]) co52 (ar1 (T rfl rfl)) (nsign_ok h29 ) ?_)
 rintro _ w30 ⟨rfl, e31⟩
 have E32 := below_ext E28 E28.size e31
 refine lw_v (.bool (decide (0 < (sgnI y)))) (dv_gtr (a := sgnI y) (b := 0) (T rfl rfl) C) ?_
 refine lw_v (.bool (decide (0 < (sgnI y)))) (dv_move (T rfl rfl)) ?_
 by_cases hb33 : 0 < (sgnI y)
 · refine lw_vy (.pointer (some ⟨b19, 0, none⟩)) (d := 10) rfl rfl (congrArg Value.bool (decide_eq_true hb33)) (dv_fieldAddr (a := ⟨b19, 0, none⟩) (a' := ⟨b19, 0, none⟩) fo131_0 (T rfl rfl) rfl) ?_
   have H34 := (e31.blk H27)
   refine lw_vy (.agg #[.bool nr6, .slice A7 n8 c9]) (d := 10) rfl rfl (congrArg Value.bool (decide_eq_true hb33)) (dv_loads (l := [.bool nr6, .slice A7 n8 c9]) agt59 sz59 (T rfl rfl) H34 rfl) ?_
   refine lw_vy (.pointer (some ⟨b19, 2, none⟩)) (d := 10) rfl rfl (congrArg Value.bool (decide_eq_true hb33)) (dv_fieldAddr (a := ⟨b19, 0, none⟩) (a' := ⟨b19, 2, none⟩) fo131_1 (T rfl rfl) rfl) ?_
   refine lw_vy (.agg #[.bool nr10, .slice A11 n12 c13]) (d := 10) rfl rfl (congrArg Value.bool (decide_eq_true hb33)) (dv_loads (l := [.bool nr10, .slice A11 n12 c13]) agt59 sz59 (T rfl rfl) H34 rfl) ?_
   refine lw_ey (d := 10) rfl rfl (congrArg Value.bool (decide_eq_true hb33)) (oe_buildSlice (pv := [(0, .agg #[.bool nr6, .slice A7 n8 c9]), (1, .agg #[.bool nr10, .slice A11 n12 c13])]) (init := [.bool false, .slice none 0 0, .bool false, .slice none 0 0]) (l := [.bool nr6, .slice A7 n8 c9, .bool nr10, .slice A11 n12 c13]) us113 sz59 rfl rfl zc59 (by kernel_rfl) ⟨rfl, (T rfl rfl), ⟨rfl, (T rfl rfl), trivial⟩⟩ rfl ?_)
   intro b35 w36 n37
   have N38 : w.heap.size ≤ b35 := n37.eq ▸ E32.size
   have : b19 < b35 := n37.eq ▸ lt_of_blk H34
   have E39 := below_ext E32 E32.size n37.ext
   have h40 := ((((h14.ext n21.ext).st s26 n21.blk (by decide)).ext e31).ext n37.ext)
   have h41 := ((h29.ext e31).ext n37.ext)
   refine lw_ey (d := 10) rfl rfl (congrArg Value.bool (decide_eq_true hb33)) (oe_callf (vs := [.slice (some ⟨b35, 0, none⟩) 2 2]) co63 (ar1 (T rfl rfl)) (gcd2_ok h40 h41 (by first | decide | omega) (by first | decide | omega) n37.blk) ?_)
   rintro _ w47 ⟨nr42, A43, n44, c45, rfl, e48, h46⟩
   have E49 := below_ext E39 E39.size e48
   have lh46 := Num.len (by decide) h46
   refine lw_ey (d := 10) rfl rfl (congrArg Value.bool (decide_eq_true hb33)) (oe_callf (vs := [.int .i64 1]) co57 (ar1 C) (whole_ok  (by omega)) ?_)
   rintro _ w55 ⟨nr50, A51, n52, c53, rfl, e56, h54⟩
   have E57 := below_ext E49 E49.size e56
   have lh54 := Num.len (by decide) h54
   have h58 := (h46.ext e56)
   refine lw_ey (d := 10) rfl rfl (congrArg Value.bool (decide_eq_true hb33)) (oe_callf (vs := [.agg #[.bool nr42, .slice A43 n44 c45], .agg #[.bool nr50, .slice A51 n52 c53]]) co47 (ar2 (T rfl rfl) (T rfl rfl)) (ncmp_ok h58 h54 (by first | decide | omega) (by first | decide | omega)) ?_)
   rintro _ w59 ⟨rfl, e60⟩
   have E61 := below_ext E57 E57.size e60
   refine lw_vy (.bool (decide ((sgnI ((gI x y) - 1)) = 0))) (d := 10) rfl rfl (congrArg Value.bool (decide_eq_true hb33)) (dv_eql (a := sgnI ((gI x y) - 1)) (b := 0) (T rfl rfl) C) ?_
   refine lw_v (.bool (decide ((sgnI ((gI x y) - 1)) = 0))) (dv_pick_t (T rfl (congrArg Value.bool (decide_eq_true hb33))) (T rfl rfl)) ?_
   refine lw_v (.bool (decide ((sgnI ((gI x y) - 1)) = 0))) (dv_assign (T rfl rfl)) ?_
   refine lw_nil ?_
   refine rk_ret Try.func106 (v := .bool (decide ((sgnI ((gI x y) - 1)) = 0))) (res1 Try.results106 (rv_tmp rfl rfl)) ⟨_, rfl, ?_⟩
   exact ⟨(vb (by unfold rOk; have h1 := @sgnI_gt y; have h2 := @sgnI_zero (gI x y - 1); omega)), E61⟩
 · refine lw_no (d := 10) rfl rfl (congrArg Value.bool (decide_eq_false hb33)) ?_
   refine lw_no (d := 10) rfl rfl (congrArg Value.bool (decide_eq_false hb33)) ?_
   refine lw_no (d := 10) rfl rfl (congrArg Value.bool (decide_eq_false hb33)) ?_
   refine lw_no (d := 10) rfl rfl (congrArg Value.bool (decide_eq_false hb33)) ?_
   refine lw_no (d := 10) rfl rfl (congrArg Value.bool (decide_eq_false hb33)) ?_
   refine lw_no (d := 10) rfl rfl (congrArg Value.bool (decide_eq_false hb33)) ?_
   refine lw_no (d := 10) rfl rfl (congrArg Value.bool (decide_eq_false hb33)) ?_
   refine lw_no (d := 10) rfl rfl (congrArg Value.bool (decide_eq_false hb33)) ?_
   refine lw_no (d := 10) rfl rfl (congrArg Value.bool (decide_eq_false hb33)) ?_
   refine lw_v (.bool false) (dv_pick_f (T rfl (congrArg Value.bool (decide_eq_false hb33))) C) ?_
   refine lw_v (.bool false) (dv_assign (T rfl rfl)) ?_
   refine lw_nil ?_
   refine rk_ret Try.func106 (v := .bool false) (res1 Try.results106 (rv_tmp rfl rfl)) ⟨_, rfl, ?_⟩
   exact ⟨(vf (by unfold rOk; have h1 := @sgnI_gt y; omega)), E32⟩
set_option maxHeartbeats 1000000 in
theorem sratio_ok {w : World}  {x y : Int} (fx_ : fits x) (fy_ : fits y)   : Ct Try.prog 104 [.agg #[.int .u64 (wv3 x), .int .u64 (wv2 x), .int .u64 (wv1 x), .int .u64 (wv0 x), .int .u64 (wv3 y), .int .u64 (wv2 y), .int .u64 (wv1 y), .int .u64 (wv0 y)]] w fun v w1 => ∃ nr0_ A0_ l0_ c0_ nr1_ A1_ l1_ c1_, v = .agg #[.bool nr0_, .slice A0_ l0_ c0_, .bool nr1_, .slice A1_ l1_ c1_] ∧ Ext w w1 ∧ Num 32 95 .u32 w1 nr0_ A0_ l0_ c0_ (x) (256) ∧ Num 32 95 .u32 w1 nr1_ A1_ l1_ c1_ (y) (256) := by
 refine ct_run (n := 10) Try.func104 rfl Try.ntmps104 rfl ?_
 have E0 : Below w.heap.size w w := Below.refl _ _
 refine rk_seq ?_
 refine rk_reg ?_
 refine lw_e (oe_box (v := .agg #[.int .u64 (wv3 x), .int .u64 (wv2 x), .int .u64 (wv1 x), .int .u64 (wv0 x), .int .u64 (wv3 y), .int .u64 (wv2 y), .int .u64 (wv1 y), .int .u64 (wv0 y)]) (cs := #[.int .u64 (wv3 x), .int .u64 (wv2 x), .int .u64 (wv1 x), .int .u64 (wv0 x), .int .u64 (wv3 y), .int .u64 (wv2 y), .int .u64 (wv1 y), .int .u64 (wv0 y)]) (T rfl rfl) rfl ?_)
 intro b1 w2 n3
 have N4 : w.heap.size ≤ b1 := n3.eq ▸ E0.size
 have E5 := below_ext E0 E0.size n3.ext
 refine lw_e (oe_alloc ze122 ?_)
 intro b6 w7 n8
 have N9 : w.heap.size ≤ b6 := n8.eq ▸ E5.size
 have : b1 < b6 := n8.eq ▸ lt_of_blk n3.blk
 have E10 := below_ext E5 E5.size n8.ext
 refine lw_nil ?_
 refine rk_seq ?_
 refine rk_any (fun w => w.heap[b1]? = some (.cells #[.int .u64 (wv3 x), .int .u64 (wv2 x), .int .u64 (wv1 x), .int .u64 (wv0 x), .int .u64 (wv3 y), .int .u64 (wv2 y), .int .u64 (wv1 y), .int .u64 (wv0 y)] 44)) [7] mo ?_
 intro w11 d12
 have E13 := below_ext E10 E10.size d12.ext
 have H14 := (d12.ext.blk (n8.ext.blk n3.blk))
 refine aw_pure 0 (.pointer (some ⟨b1, 0, none⟩)) rfl (by kernel_rfl) .none H14 (fun _ => dv_fieldAddr (a := ⟨b1, 0, none⟩) (a' := ⟨b1, 0, none⟩) fo44_0 (T rfl rfl) rfl) ?_
 refine aw_load 1 (.agg #[.int .u64 (wv3 x), .int .u64 (wv2 x), .int .u64 (wv1 x), .int .u64 (wv0 x)]) rfl (by kernel_rfl) .none H14 (fun _ s => dv_loads (l := [.int .u64 (wv3 x), .int .u64 (wv2 x), .int .u64 (wv1 x), .int .u64 (wv0 x)]) agt26 sz26 (T rfl rfl) s rfl) ?_
 refine aw_pure 3 (.pointer (some ⟨b1, 4, none⟩)) rfl (by kernel_rfl) .none H14 (fun _ => dv_fieldAddr (a := ⟨b1, 0, none⟩) (a' := ⟨b1, 4, none⟩) fo44_1 (T rfl rfl) rfl) ?_
 refine aw_load 4 (.agg #[.int .u64 (wv3 y), .int .u64 (wv2 y), .int .u64 (wv1 y), .int .u64 (wv0 y)]) rfl (by kernel_rfl) .none H14 (fun _ s => dv_loads (l := [.int .u64 (wv3 y), .int .u64 (wv2 y), .int .u64 (wv1 y), .int .u64 (wv0 y)]) agt26 sz26 (T rfl rfl) s rfl) ?_
 refine aw_one 2 rfl (by kernel_rfl) .none (oe_callf (vs := [.agg #[.int .u64 (wv3 x), .int .u64 (wv2 x), .int .u64 (wv1 x), .int .u64 (wv0 x)]]) co49 (ar1 (T rfl rfl)) (l1Fromz_ok (z := x) fx_) ?_)
 rintro _ w20 ⟨nr15, A16, n17, c18, rfl, e21, h19⟩
 have E22 := below_ext E13 E13.size e21
 have lh19 := Num.len (by decide) h19
 have H23 := (e21.blk H14)
 refine ⟨.inr H23, ?_⟩
 refine aw_one 5 rfl (by kernel_rfl) .none (oe_callf (vs := [.agg #[.int .u64 (wv3 y), .int .u64 (wv2 y), .int .u64 (wv1 y), .int .u64 (wv0 y)]]) co49 (ar1 (T rfl rfl)) (l1Fromz_ok (z := y) fy_) ?_)
 rintro _ w29 ⟨nr24, A25, n26, c27, rfl, e30, h28⟩
 have E31 := below_ext E22 E22.size e30
 have lh28 := Num.len (by decide) h28
 have H32 := (e30.blk H23)
 refine ⟨.inr H32, ?_⟩
 refine aw_pure 6 (.agg #[.bool nr15, .slice A16 n17 c18, .bool nr24, .slice A25 n26 c27]) rfl (by kernel_rfl) .none H32 (fun _ => dv_build (pv := [(0, .agg #[.bool nr15, .slice A16 n17 c18]), (1, .agg #[.bool nr24, .slice A25 n26 c27])]) (l := [.bool nr15, .slice A16 n17 c18, .bool nr24, .slice A25 n26 c27]) zc122 pl122 ⟨rfl, (T rfl rfl), ⟨rfl, (T rfl rfl), trivial⟩⟩ rfl) ?_
 have H33 := (e30.blk (e21.blk (d12.ext.blk n8.blk)))
 refine aw_one 7 rfl (by kernel_rfl) .none (oe_store (v := .agg #[.bool nr15, .slice A16 n17 c18, .bool nr24, .slice A25 n26 c27]) (vs := [.bool nr15, .slice A16 n17 c18, .bool nr24, .slice A25 n26 c27]) (l := [.bool nr15, .slice A16 n17 c18, .bool nr24, .slice A25 n26 c27]) (T rfl rfl) (T rfl rfl) sz122 rfl rfl rfl H33 rfl ?_)
 intro w34 s35 H36
 have E37 := below_st E31 N9 s35
 refine ⟨.inl rfl, ?_⟩
 refine aw_done (by kernel_rfl) ?_
 refine rk_ret Try.func104 (v := .agg #[.bool nr15, .slice A16 n17 c18, .bool nr24, .slice A25 n26 c27]) (res1 Try.results104 (rv_cells (l := [.bool nr15, .slice A16 n17 c18, .bool nr24, .slice A25 n26 c27]) agt122 sz122 rfl rfl H36 rfl)) ⟨_, rfl, ?_⟩
 have h38 := ((h19.ext e30).st s35 H33 (by decide))
 have h39 := (h28.st s35 H33 (by decide))
 exact ⟨_, _, _, _, _, _, _, _, rfl, E37, h38.to rfl (Nat.le_refl _), h39.to rfl (Nat.le_refl _)⟩
set_option maxHeartbeats 1000000 in
theorem sRatioOk_ok {w : World} {x y : Int} (fx_ : fits x) (fy_ : fits y)  : Ct Try.prog 103 [.agg #[.int .u64 (wv3 x), .int .u64 (wv2 x), .int .u64 (wv1 x), .int .u64 (wv0 x), .int .u64 (wv3 y), .int .u64 (wv2 y), .int .u64 (wv1 y), .int .u64 (wv0 y)]] w fun v w1 => v = .bool (decide (rOk x y)) ∧ Ext w w1 := by
 refine ct_run (n := 20) Try.func103 rfl Try.ntmps103 rfl ?_
 have E0 : Below w.heap.size w w := Below.refl _ _
 refine rk_seq ?_
 refine rk_reg ?_
 refine lw_e (oe_box (v := .agg #[.int .u64 (wv3 x), .int .u64 (wv2 x), .int .u64 (wv1 x), .int .u64 (wv0 x), .int .u64 (wv3 y), .int .u64 (wv2 y), .int .u64 (wv1 y), .int .u64 (wv0 y)]) (cs := #[.int .u64 (wv3 x), .int .u64 (wv2 x), .int .u64 (wv1 x), .int .u64 (wv0 x), .int .u64 (wv3 y), .int .u64 (wv2 y), .int .u64 (wv1 y), .int .u64 (wv0 y)]) (T rfl rfl) rfl ?_)
 intro b1 w2 n3
 have N4 : w.heap.size ≤ b1 := n3.eq ▸ E0.size
 have E5 := below_ext E0 E0.size n3.ext
 refine lw_v (.bool false) (dv_assign C) ?_
 refine lw_nil ?_
 refine rk_seq ?_
 refine rk_reg ?_
 refine lw_v (.agg #[.int .u64 (wv3 x), .int .u64 (wv2 x), .int .u64 (wv1 x), .int .u64 (wv0 x), .int .u64 (wv3 y), .int .u64 (wv2 y), .int .u64 (wv1 y), .int .u64 (wv0 y)]) (dv_loads (l := [.int .u64 (wv3 x), .int .u64 (wv2 x), .int .u64 (wv1 x), .int .u64 (wv0 x), .int .u64 (wv3 y), .int .u64 (wv2 y), .int .u64 (wv1 y), .int .u64 (wv0 y)]) agt44 sz44 (T rfl rfl) n3.blk rfl) ?_
 refine lw_e (oe_callf (vs := [.agg #[.int .u64 (wv3 x), .int .u64 (wv2 x), .int .u64 (wv1 x), .int .u64 (wv0 x), .int .u64 (wv3 y), .int .u64 (wv2 y), .int .u64 (wv1 y), .int .u64 (wv0 y)]]) co104 (ar1 (T rfl rfl)) (sratio_ok fx_ fy_  ) ?_)
 rintro _ w16 ⟨nr6, A7, n8, c9, nr10, A11, n12, c13, rfl, e17, h14, h15⟩
 have E18 := below_ext E5 E5.size e17
 have lh14 := Num.len (by decide) h14
 have lh15 := Num.len (by decide) h15
 refine lw_e (oe_alloc ze122 ?_)
 intro b19 w20 n21
 have N22 : w.heap.size ≤ b19 := n21.eq ▸ E18.size
 have H23 := (e17.blk n3.blk)
 have : b1 < b19 := n21.eq ▸ lt_of_blk H23
 have E24 := below_ext E18 E18.size n21.ext
 refine lw_e (oe_store (v := .agg #[.bool nr6, .slice A7 n8 c9, .bool nr10, .slice A11 n12 c13]) (vs := [.bool nr6, .slice A7 n8 c9, .bool nr10, .slice A11 n12 c13]) (l := [.bool nr6, .slice A7 n8 c9, .bool nr10, .slice A11 n12 c13]) (T rfl rfl) (T rfl rfl) sz122 rfl rfl rfl n21.blk rfl ?_)
 intro w25 s26 H27
 have E28 := below_st E24 N22 s26
 refine lw_nil ?_
 refine rk_seq ?_
 refine rk_reg ?_
 refine lw_v (.pointer (some ⟨b19, 2, none⟩)) (dv_fieldAddr (a := ⟨b19, 0, none⟩) (a' := ⟨b19, 2, none⟩) fo122_1 (T rfl rfl) rfl) ?_
 refine lw_v (.agg #[.bool nr10, .slice A11 n12 c13]) (dv_loads (l := [.bool nr10, .slice A11 n12 c13]) agt65 sz65 (T rfl rfl) H27 rfl) ?_
 have h29 := ((h15.ext n21.ext).st s26 n21.blk (by decide))
 refine lw_e (oe_callf (vs := [.agg #[.bool nr10, .slice A11 n12 c13]]) co84 (ar1 (T rfl rfl)) (l1Sign_ok h29 ) ?_)
 rintro _ w30 ⟨rfl, e31⟩
 have E32 := below_ext E28 E28.size e31
 refine lw_v (.bool (decide (0 < (sgnI y)))) (dv_gtr (a := sgnI y) (b := 0) (T rfl rfl) C) ?_
 refine lw_v (.bool (decide (0 < (sgnI y)))) (dv_move (T rfl rfl)) ?_
 by_cases hb33 : 0 < (sgnI y)
 · refine lw_vy (.pointer (some ⟨b19, 0, none⟩)) (d := 10) rfl rfl (congrArg Value.bool (decide_eq_true hb33)) (dv_fieldAddr (a := ⟨b19, 0, none⟩) (a' := ⟨b19, 0, none⟩) fo122_0 (T rfl rfl) rfl) ?_
   have H34 := (e31.blk H27)
   refine lw_vy (.agg #[.bool nr6, .slice A7 n8 c9]) (d := 10) rfl rfl (congrArg Value.bool (decide_eq_true hb33)) (dv_loads (l := [.bool nr6, .slice A7 n8 c9]) agt65 sz65 (T rfl rfl) H34 rfl) ?_
   refine lw_vy (.pointer (some ⟨b19, 2, none⟩)) (d := 10) rfl rfl (congrArg Value.bool (decide_eq_true hb33)) (dv_fieldAddr (a := ⟨b19, 0, none⟩) (a' := ⟨b19, 2, none⟩) fo122_1 (T rfl rfl) rfl) ?_
   refine lw_vy (.agg #[.bool nr10, .slice A11 n12 c13]) (d := 10) rfl rfl (congrArg Value.bool (decide_eq_true hb33)) (dv_loads (l := [.bool nr10, .slice A11 n12 c13]) agt65 sz65 (T rfl rfl) H34 rfl) ?_
   have h35 := (((h14.ext n21.ext).st s26 n21.blk (by decide)).ext e31)
   have h36 := (h29.ext e31)
   refine lw_ey (d := 10) rfl rfl (congrArg Value.bool (decide_eq_true hb33)) (oe_callf (vs := [.agg #[.bool nr6, .slice A7 n8 c9], .agg #[.bool nr10, .slice A11 n12 c13]]) co64 (ar2 (T rfl rfl) (T rfl rfl)) (l1Gcd_ok h35 h36 (by first | decide | omega) (by first | decide | omega)) ?_)
   rintro _ w42 ⟨nr37, A38, n39, c40, rfl, e43, h41⟩
   have E44 := below_ext E32 E32.size e43
   have lh41 := Num.len (by decide) h41
   refine lw_ey (d := 10) rfl rfl (congrArg Value.bool (decide_eq_true hb33)) (oe_callf (vs := [.int .i64 1]) co79 (ar1 C) (l1Int_ok  (by omega)) ?_)
   rintro _ w50 ⟨nr45, A46, n47, c48, rfl, e51, h49⟩
   have E52 := below_ext E44 E44.size e51
   have lh49 := Num.len (by decide) h49
   have h53 := (h41.ext e51)
   refine lw_ey (d := 10) rfl rfl (congrArg Value.bool (decide_eq_true hb33)) (oe_callf (vs := [.agg #[.bool nr37, .slice A38 n39 c40], .agg #[.bool nr45, .slice A46 n47 c48]]) co48 (ar2 (T rfl rfl) (T rfl rfl)) (l1Cmp_ok h53 h49 (by first | decide | omega) (by first | decide | omega)) ?_)
   rintro _ w54 ⟨rfl, e55⟩
   have E56 := below_ext E52 E52.size e55
   refine lw_vy (.bool (decide ((sgnI ((gI x y) - 1)) = 0))) (d := 10) rfl rfl (congrArg Value.bool (decide_eq_true hb33)) (dv_eql (a := sgnI ((gI x y) - 1)) (b := 0) (T rfl rfl) C) ?_
   refine lw_v (.bool (decide ((sgnI ((gI x y) - 1)) = 0))) (dv_pick_t (T rfl (congrArg Value.bool (decide_eq_true hb33))) (T rfl rfl)) ?_
   refine lw_v (.bool (decide ((sgnI ((gI x y) - 1)) = 0))) (dv_assign (T rfl rfl)) ?_
   refine lw_nil ?_
   refine rk_ret Try.func103 (v := .bool (decide ((sgnI ((gI x y) - 1)) = 0))) (res1 Try.results103 (rv_tmp rfl rfl)) ⟨_, rfl, ?_⟩
   exact ⟨(vb (by unfold rOk; have h1 := @sgnI_gt y; have h2 := @sgnI_zero (gI x y - 1); omega)), E56⟩
 · refine lw_no (d := 10) rfl rfl (congrArg Value.bool (decide_eq_false hb33)) ?_
   refine lw_no (d := 10) rfl rfl (congrArg Value.bool (decide_eq_false hb33)) ?_
   refine lw_no (d := 10) rfl rfl (congrArg Value.bool (decide_eq_false hb33)) ?_
   refine lw_no (d := 10) rfl rfl (congrArg Value.bool (decide_eq_false hb33)) ?_
   refine lw_no (d := 10) rfl rfl (congrArg Value.bool (decide_eq_false hb33)) ?_
   refine lw_no (d := 10) rfl rfl (congrArg Value.bool (decide_eq_false hb33)) ?_
   refine lw_no (d := 10) rfl rfl (congrArg Value.bool (decide_eq_false hb33)) ?_
   refine lw_no (d := 10) rfl rfl (congrArg Value.bool (decide_eq_false hb33)) ?_
   refine lw_v (.bool false) (dv_pick_f (T rfl (congrArg Value.bool (decide_eq_false hb33))) C) ?_
   refine lw_v (.bool false) (dv_assign (T rfl rfl)) ?_
   refine lw_nil ?_
   refine rk_ret Try.func103 (v := .bool false) (res1 Try.results103 (rv_tmp rfl rfl)) ⟨_, rfl, ?_⟩
   exact ⟨(vf (by unfold rOk; have h1 := @sgnI_gt y; omega)), E32⟩
set_option maxHeartbeats 1000000 in
theorem iWideText_ok {w : World} {x : Int} (fx_ : fits x)  : Ct Try.prog 31 [.agg #[.int .u64 (wv3 x), .int .u64 (wv2 x), .int .u64 (wv1 x), .int .u64 (wv0 x)]] w fun v w1 => v = .string (bOf (txtL x)) ∧ Ext w w1 := by
 refine ct_run (n := 6) Try.func31 rfl Try.ntmps31 rfl ?_
 have E0 : Below w.heap.size w w := Below.refl _ _
 refine rk_seq ?_
 refine rk_reg ?_
 refine lw_e (oe_box (v := .agg #[.int .u64 (wv3 x), .int .u64 (wv2 x), .int .u64 (wv1 x), .int .u64 (wv0 x)]) (cs := #[.int .u64 (wv3 x), .int .u64 (wv2 x), .int .u64 (wv1 x), .int .u64 (wv0 x)]) (T rfl rfl) rfl ?_)
 intro b1 w2 n3
 have N4 : w.heap.size ≤ b1 := n3.eq ▸ E0.size
 have E5 := below_ext E0 E0.size n3.ext
 refine lw_v (.string (bOf [])) (dv_assign C) ?_
 refine lw_nil ?_
 refine rk_seq ?_
 refine rk_reg ?_
 refine lw_v (.agg #[.int .u64 (wv3 x), .int .u64 (wv2 x), .int .u64 (wv1 x), .int .u64 (wv0 x)]) (dv_loads (l := [.int .u64 (wv3 x), .int .u64 (wv2 x), .int .u64 (wv1 x), .int .u64 (wv0 x)]) agt26 sz26 (T rfl rfl) n3.blk rfl) ?_
 refine lw_e (oe_callf (vs := [.agg #[.int .u64 (wv3 x), .int .u64 (wv2 x), .int .u64 (wv1 x), .int .u64 (wv0 x)]]) co46 (ar1 (T rfl rfl)) (wnumz_ok (z := x) fx_) ?_)
 rintro _ w11 ⟨nr6, A7, n8, c9, rfl, e12, h10⟩
 have E13 := below_ext E5 E5.size e12
 have lh10 := Num.len (by decide) h10
 refine lw_e (oe_callf (vs := [.agg #[.bool nr6, .slice A7 n8 c9]]) co66 (ar1 (T rfl rfl)) (ntext_ok h10 (by first | decide | omega)) ?_)
 rintro _ w15 ⟨rfl, e16⟩
 have E17 := below_ext E13 E13.size e16
 have ht14 := txt_len (h10).lt
 refine lw_v (.string (bOf (txtL x))) (dv_assign (T rfl rfl)) ?_
 refine lw_nil ?_
 refine rk_ret Try.func31 (v := .string (bOf (txtL x))) (res1 Try.results31 (rv_tmp rfl rfl)) ⟨_, rfl, ?_⟩
 exact ⟨rfl, E17⟩
set_option maxHeartbeats 1000000 in
theorem iWideOf_ok {w : World} {x : Int}  (hx : -9223372036854775808 ≤ x ∧ x < 9223372036854775808) : Ct Try.prog 22 [.int .i64 x] w fun v w1 => v = .agg #[.int .u64 (wv3 x), .int .u64 (wv2 x), .int .u64 (wv1 x), .int .u64 (wv0 x)] ∧ Ext w w1 := by
 refine ct_run (n := 12) Try.func22 rfl Try.ntmps22 rfl ?_
 have E0 : Below w.heap.size w w := Below.refl _ _
 refine rk_seq ?_
 refine rk_reg ?_
 refine lw_e (oe_alloc ze26 ?_)
 intro b1 w2 n3
 have N4 : w.heap.size ≤ b1 := n3.eq ▸ E0.size
 have E5 := below_ext E0 E0.size n3.ext
 refine lw_nil ?_
 refine rk_seq ?_
 refine rk_reg ?_
 refine lw_v (.int .i64 x) (dv_move (T rfl rfl)) ?_
 refine lw_e (oe_callf (vs := [.int .i64 x]) co57 (ar1 (T rfl rfl)) (whole_ok  (by omega)) ?_)
 rintro _ w11 ⟨nr6, A7, n8, c9, rfl, e12, h10⟩
 have E13 := below_ext E5 E5.size e12
 have lh10 := Num.len (by decide) h10
 refine lw_e (oe_callf (vs := [.agg #[.bool nr6, .slice A7 n8 c9]]) co51 (ar1 (T rfl rfl)) (nwide_ok h10 (by first | decide | omega)) ?_)
 rintro _ w15 ⟨rfl, e16⟩
 have E17 := below_ext E13 E13.size e16
 have bw14 := w_rg (x)
 refine lw_v (.tuple #[.agg #[.int .u64 (wv3 x), .int .u64 (wv2 x), .int .u64 (wv1 x), .int .u64 (wv0 x)], .bool (decide (fits x))]) (dv_move (T rfl rfl)) ?_
 refine lw_v (.agg #[.int .u64 (wv3 x), .int .u64 (wv2 x), .int .u64 (wv1 x), .int .u64 (wv0 x)]) (dv_extract (vs := #[.agg #[.int .u64 (wv3 x), .int .u64 (wv2 x), .int .u64 (wv1 x), .int .u64 (wv0 x)], .bool (decide (fits x))]) (T rfl rfl) rfl) ?_
 refine lw_v (.bool (decide (fits x))) (dv_extract (vs := #[.agg #[.int .u64 (wv3 x), .int .u64 (wv2 x), .int .u64 (wv1 x), .int .u64 (wv0 x)], .bool (decide (fits x))]) (T rfl rfl) rfl) ?_
 refine lw_e (oe_alloc ze26 ?_)
 intro b18 w19 n20
 have N21 : w.heap.size ≤ b18 := n20.eq ▸ E17.size
 have H22 := (e16.blk (e12.blk n3.blk))
 have : b1 < b18 := n20.eq ▸ lt_of_blk H22
 have E23 := below_ext E17 E17.size n20.ext
 refine lw_e (oe_store (v := .agg #[.int .u64 (wv3 x), .int .u64 (wv2 x), .int .u64 (wv1 x), .int .u64 (wv0 x)]) (vs := [.int .u64 (wv3 x), .int .u64 (wv2 x), .int .u64 (wv1 x), .int .u64 (wv0 x)]) (l := [.int .u64 (wv3 x), .int .u64 (wv2 x), .int .u64 (wv1 x), .int .u64 (wv0 x)]) (T rfl rfl) (T rfl rfl) sz26 rfl rfl rfl n20.blk rfl ?_)
 intro w24 s25 H26
 have E27 := below_st E23 N21 s25
 refine lw_v (.bool (decide (fits x))) (dv_assign (T rfl rfl)) ?_
 refine lw_nil ?_
 refine rk_seq ?_
 refine rk_reg ?_
 refine lw_v (.agg #[.int .u64 (wv3 x), .int .u64 (wv2 x), .int .u64 (wv1 x), .int .u64 (wv0 x)]) (dv_loads (l := [.int .u64 (wv3 x), .int .u64 (wv2 x), .int .u64 (wv1 x), .int .u64 (wv0 x)]) agt26 sz26 (T rfl rfl) H26 rfl) ?_
 have H28 := (s25.blk (n20.ext.blk H22) (by omega))
 refine lw_e (oe_store (v := .agg #[.int .u64 (wv3 x), .int .u64 (wv2 x), .int .u64 (wv1 x), .int .u64 (wv0 x)]) (vs := [.int .u64 (wv3 x), .int .u64 (wv2 x), .int .u64 (wv1 x), .int .u64 (wv0 x)]) (l := [.int .u64 (wv3 x), .int .u64 (wv2 x), .int .u64 (wv1 x), .int .u64 (wv0 x)]) (T rfl rfl) (T rfl rfl) sz26 rfl rfl rfl H28 rfl ?_)
 intro w29 s30 H31
 have E32 := below_st E27 N4 s30
 refine lw_nil ?_
 refine rk_ret Try.func22 (v := .agg #[.int .u64 (wv3 x), .int .u64 (wv2 x), .int .u64 (wv1 x), .int .u64 (wv0 x)]) (res1 Try.results22 (rv_cells (l := [.int .u64 (wv3 x), .int .u64 (wv2 x), .int .u64 (wv1 x), .int .u64 (wv0 x)]) agt26 sz26 rfl rfl H31 rfl)) ⟨_, rfl, ?_⟩
 exact ⟨rfl, E32⟩
set_option maxHeartbeats 1000000 in
theorem sWideOf_ok {w : World} {x : Int}  (hx : -9223372036854775808 ≤ x ∧ x < 9223372036854775808) : Ct Try.prog 60 [.int .i64 x] w fun v w1 => v = .agg #[.int .u64 (wv3 x), .int .u64 (wv2 x), .int .u64 (wv1 x), .int .u64 (wv0 x)] ∧ Ext w w1 := by
 refine ct_run (n := 12) Try.func60 rfl Try.ntmps60 rfl ?_
 have E0 : Below w.heap.size w w := Below.refl _ _
 refine rk_seq ?_
 refine rk_reg ?_
 refine lw_e (oe_alloc ze26 ?_)
 intro b1 w2 n3
 have N4 : w.heap.size ≤ b1 := n3.eq ▸ E0.size
 have E5 := below_ext E0 E0.size n3.ext
 refine lw_nil ?_
 refine rk_seq ?_
 refine rk_reg ?_
 refine lw_v (.int .i64 x) (dv_move (T rfl rfl)) ?_
 refine lw_e (oe_callf (vs := [.int .i64 x]) co79 (ar1 (T rfl rfl)) (l1Int_ok  (by omega)) ?_)
 rintro _ w11 ⟨nr6, A7, n8, c9, rfl, e12, h10⟩
 have E13 := below_ext E5 E5.size e12
 have lh10 := Num.len (by decide) h10
 refine lw_e (oe_callf (vs := [.agg #[.bool nr6, .slice A7 n8 c9]]) co54 (ar1 (T rfl rfl)) (l1Wide_ok h10 (by first | decide | omega)) ?_)
 rintro _ w15 ⟨rfl, e16⟩
 have E17 := below_ext E13 E13.size e16
 have bw14 := w_rg (x)
 refine lw_v (.tuple #[.agg #[.int .u64 (wv3 x), .int .u64 (wv2 x), .int .u64 (wv1 x), .int .u64 (wv0 x)], .bool (decide (fits x))]) (dv_move (T rfl rfl)) ?_
 refine lw_v (.agg #[.int .u64 (wv3 x), .int .u64 (wv2 x), .int .u64 (wv1 x), .int .u64 (wv0 x)]) (dv_extract (vs := #[.agg #[.int .u64 (wv3 x), .int .u64 (wv2 x), .int .u64 (wv1 x), .int .u64 (wv0 x)], .bool (decide (fits x))]) (T rfl rfl) rfl) ?_
 refine lw_v (.bool (decide (fits x))) (dv_extract (vs := #[.agg #[.int .u64 (wv3 x), .int .u64 (wv2 x), .int .u64 (wv1 x), .int .u64 (wv0 x)], .bool (decide (fits x))]) (T rfl rfl) rfl) ?_
 refine lw_e (oe_alloc ze26 ?_)
 intro b18 w19 n20
 have N21 : w.heap.size ≤ b18 := n20.eq ▸ E17.size
 have H22 := (e16.blk (e12.blk n3.blk))
 have : b1 < b18 := n20.eq ▸ lt_of_blk H22
 have E23 := below_ext E17 E17.size n20.ext
 refine lw_e (oe_store (v := .agg #[.int .u64 (wv3 x), .int .u64 (wv2 x), .int .u64 (wv1 x), .int .u64 (wv0 x)]) (vs := [.int .u64 (wv3 x), .int .u64 (wv2 x), .int .u64 (wv1 x), .int .u64 (wv0 x)]) (l := [.int .u64 (wv3 x), .int .u64 (wv2 x), .int .u64 (wv1 x), .int .u64 (wv0 x)]) (T rfl rfl) (T rfl rfl) sz26 rfl rfl rfl n20.blk rfl ?_)
 intro w24 s25 H26
 have E27 := below_st E23 N21 s25
 refine lw_v (.bool (decide (fits x))) (dv_assign (T rfl rfl)) ?_
 refine lw_nil ?_
 refine rk_seq ?_
 refine rk_reg ?_
 refine lw_v (.agg #[.int .u64 (wv3 x), .int .u64 (wv2 x), .int .u64 (wv1 x), .int .u64 (wv0 x)]) (dv_loads (l := [.int .u64 (wv3 x), .int .u64 (wv2 x), .int .u64 (wv1 x), .int .u64 (wv0 x)]) agt26 sz26 (T rfl rfl) H26 rfl) ?_
 have H28 := (s25.blk (n20.ext.blk H22) (by omega))
 refine lw_e (oe_store (v := .agg #[.int .u64 (wv3 x), .int .u64 (wv2 x), .int .u64 (wv1 x), .int .u64 (wv0 x)]) (vs := [.int .u64 (wv3 x), .int .u64 (wv2 x), .int .u64 (wv1 x), .int .u64 (wv0 x)]) (l := [.int .u64 (wv3 x), .int .u64 (wv2 x), .int .u64 (wv1 x), .int .u64 (wv0 x)]) (T rfl rfl) (T rfl rfl) sz26 rfl rfl rfl H28 rfl ?_)
 intro w29 s30 H31
 have E32 := below_st E27 N4 s30
 refine lw_nil ?_
 refine rk_ret Try.func60 (v := .agg #[.int .u64 (wv3 x), .int .u64 (wv2 x), .int .u64 (wv1 x), .int .u64 (wv0 x)]) (res1 Try.results60 (rv_cells (l := [.int .u64 (wv3 x), .int .u64 (wv2 x), .int .u64 (wv1 x), .int .u64 (wv0 x)]) agt26 sz26 rfl rfl H31 rfl)) ⟨_, rfl, ?_⟩
 exact ⟨rfl, E32⟩
set_option maxHeartbeats 1000000 in
theorem iRatioText_ok {w : World} {x y : Int} (fx_ : fits x) (fy_ : fits y)  : Ct Try.prog 72 [.agg #[.int .u64 (wv3 x), .int .u64 (wv2 x), .int .u64 (wv1 x), .int .u64 (wv0 x), .int .u64 (wv3 y), .int .u64 (wv2 y), .int .u64 (wv1 y), .int .u64 (wv0 y)]] w fun v w1 => v = .string (bOf (rTxt x y)) ∧ Ext w w1 := by
 refine ct_run (n := 23) Try.func72 rfl Try.ntmps72 rfl ?_
 have E0 : Below w.heap.size w w := Below.refl _ _
 have htx := txt_len (fits_natAbs fx_)
 have hty := txt_len (fits_natAbs fy_)
 refine rk_seq ?_
 refine rk_reg ?_
 refine lw_e (oe_box (v := .agg #[.int .u64 (wv3 x), .int .u64 (wv2 x), .int .u64 (wv1 x), .int .u64 (wv0 x), .int .u64 (wv3 y), .int .u64 (wv2 y), .int .u64 (wv1 y), .int .u64 (wv0 y)]) (cs := #[.int .u64 (wv3 x), .int .u64 (wv2 x), .int .u64 (wv1 x), .int .u64 (wv0 x), .int .u64 (wv3 y), .int .u64 (wv2 y), .int .u64 (wv1 y), .int .u64 (wv0 y)]) (T rfl rfl) rfl ?_)
 intro b1 w2 n3
 have N4 : w.heap.size ≤ b1 := n3.eq ▸ E0.size
 have E5 := below_ext E0 E0.size n3.ext
 refine lw_v (.string (bOf [])) (dv_assign C) ?_
 refine lw_nil ?_
 refine rk_seq ?_
 refine rk_block ?_
 refine rk_seq ?_
 refine rk_reg ?_
 refine lw_v (.agg #[.int .u64 (wv3 x), .int .u64 (wv2 x), .int .u64 (wv1 x), .int .u64 (wv0 x), .int .u64 (wv3 y), .int .u64 (wv2 y), .int .u64 (wv1 y), .int .u64 (wv0 y)]) (dv_loads (l := [.int .u64 (wv3 x), .int .u64 (wv2 x), .int .u64 (wv1 x), .int .u64 (wv0 x), .int .u64 (wv3 y), .int .u64 (wv2 y), .int .u64 (wv1 y), .int .u64 (wv0 y)]) agt44 sz44 (T rfl rfl) n3.blk rfl) ?_
 refine lw_e (oe_callf (vs := [.agg #[.int .u64 (wv3 x), .int .u64 (wv2 x), .int .u64 (wv1 x), .int .u64 (wv0 x), .int .u64 (wv3 y), .int .u64 (wv2 y), .int .u64 (wv1 y), .int .u64 (wv0 y)]]) co106 (ar1 (T rfl rfl)) (iRatioOk_ok (x := x) (y := y) fx_ fy_ ) ?_)
 rintro _ w6 ⟨rfl, e7⟩
 have E8 := below_ext E5 E5.size e7
 refine lw_v (.bool (decide (¬ (rOk x y)))) (dv_notd (p := rOk x y) (T rfl rfl)) ?_
 refine lw_v (.bool (decide (¬ (rOk x y)))) (dv_assign (T rfl rfl)) ?_
 refine lw_nil ?_
 by_cases hb9 : rOk x y
 · refine rk_cf (T rfl (congrArg Value.bool (decide_eq_false (not_not_intro hb9)))) ?_
   refine rk_seq ?_
   refine rk_any (fun w => w.heap[b1]? = some (.cells #[.int .u64 (wv3 x), .int .u64 (wv2 x), .int .u64 (wv1 x), .int .u64 (wv0 x), .int .u64 (wv3 y), .int .u64 (wv2 y), .int .u64 (wv1 y), .int .u64 (wv0 y)] 44)) [] mo ?_
   intro w10 d11
   have E12 := below_ext E8 E8.size d11.ext
   have H13 := (d11.ext.blk (e7.blk n3.blk))
   refine aw_pure 0 (.pointer (some ⟨b1, 4, none⟩)) rfl (by kernel_rfl) .none H13 (fun _ => dv_fieldAddr (a := ⟨b1, 0, none⟩) (a' := ⟨b1, 4, none⟩) fo44_1 (T rfl rfl) rfl) ?_
   refine aw_load 1 (.agg #[.int .u64 (wv3 y), .int .u64 (wv2 y), .int .u64 (wv1 y), .int .u64 (wv0 y)]) rfl (by kernel_rfl) .none H13 (fun _ s => dv_loads (l := [.int .u64 (wv3 y), .int .u64 (wv2 y), .int .u64 (wv1 y), .int .u64 (wv0 y)]) agt26 sz26 (T rfl rfl) s rfl) ?_
   refine aw_one 2 rfl (by kernel_rfl) .none (oe_callf (vs := [.int .i64 1]) co22 (ar1 C) (iWideOf_ok (x := 1)  (by omega)) ?_)
   rintro _ w14 ⟨rfl, e15⟩
   have E16 := below_ext E12 E12.size e15
   have H17 := (e15.blk H13)
   refine ⟨.inr H17, ?_⟩
   refine aw_pure 3 (.bool (decide (([wv3 y, wv2 y, wv1 y, wv0 y] : List Int) = [wv3 (1 : Int), wv2 (1 : Int), wv1 (1 : Int), wv0 (1 : Int)]))) rfl (by kernel_rfl) .none H17 (fun _ => dv_eqls (k := .u64) (la := [wv3 y, wv2 y, wv1 y, wv0 y]) (lb := [wv3 (1 : Int), wv2 (1 : Int), wv1 (1 : Int), wv0 (1 : Int)]) fl26 eg26 (T rfl rfl) (T rfl rfl) rfl rfl) ?_
   refine aw_pure 4 (.bool (decide (([wv3 y, wv2 y, wv1 y, wv0 y] : List Int) = [wv3 (1 : Int), wv2 (1 : Int), wv1 (1 : Int), wv0 (1 : Int)]))) rfl (by kernel_rfl) .none H17 (fun _ => dv_assign (T rfl rfl)) ?_
   refine aw_done (by kernel_rfl) ?_
   by_cases hb18 : ([wv3 y, wv2 y, wv1 y, wv0 y] : List Int) = [wv3 (1 : Int), wv2 (1 : Int), wv1 (1 : Int), wv0 (1 : Int)]
   · have hz19 := (wl_eq fy_ (⟨by decide, by decide⟩ : fits 1)).1 hb18
     refine rk_ct (T rfl (congrArg Value.bool (decide_eq_true hb18))) ?_
     refine rk_seq ?_
     refine rk_reg ?_
     refine lw_v (.pointer (some ⟨b1, 0, none⟩)) (dv_fieldAddr (a := ⟨b1, 0, none⟩) (a' := ⟨b1, 0, none⟩) fo44_0 (T rfl rfl) rfl) ?_
     refine lw_v (.agg #[.int .u64 (wv3 x), .int .u64 (wv2 x), .int .u64 (wv1 x), .int .u64 (wv0 x)]) (dv_loads (l := [.int .u64 (wv3 x), .int .u64 (wv2 x), .int .u64 (wv1 x), .int .u64 (wv0 x)]) agt26 sz26 (T rfl rfl) H17 rfl) ?_
     refine lw_e (oe_callf (vs := [.agg #[.int .u64 (wv3 x), .int .u64 (wv2 x), .int .u64 (wv1 x), .int .u64 (wv0 x)]]) co31 (ar1 (T rfl rfl)) (iWideText_ok (x := x) fx_ ) ?_)
     rintro _ w20 ⟨rfl, e21⟩
     have E22 := below_ext E16 E16.size e21
     refine lw_v (.string (bOf (txtL x))) (dv_assign (T rfl rfl)) ?_
     refine lw_nil ?_
     refine rk_ret Try.func72 (v := .string (bOf (txtL x))) (res1 Try.results72 (rv_tmp rfl rfl)) ⟨_, rfl, ?_⟩
     exact ⟨(congrArg (fun l => Value.string (bOf l)) (by unfold rTxt; rw [if_pos (by first | assumption | simpa using ‹_›), if_pos (by first | assumption | (have := @sgnI_zero (y - 1); omega))])), E22⟩
   · have hz23 := mt (wl_eq fy_ (⟨by decide, by decide⟩ : fits 1)).2 hb18
     refine rk_cf (T rfl (congrArg Value.bool (decide_eq_false hb18))) ?_
     refine rk_skip ?_
     refine rk_inBlock ?_
     refine rk_seq ?_
     refine rk_any (fun w => w.heap[b1]? = some (.cells #[.int .u64 (wv3 x), .int .u64 (wv2 x), .int .u64 (wv1 x), .int .u64 (wv0 x), .int .u64 (wv3 y), .int .u64 (wv2 y), .int .u64 (wv1 y), .int .u64 (wv0 y)] 44)) [8] mo ?_
     intro w24 d25
     have E26 := below_ext E16 E16.size d25.ext
     have H27 := (d25.ext.blk H17)
     refine aw_pure 0 (.pointer (some ⟨b1, 0, none⟩)) rfl (by kernel_rfl) .none H27 (fun _ => dv_fieldAddr (a := ⟨b1, 0, none⟩) (a' := ⟨b1, 0, none⟩) fo44_0 (T rfl rfl) rfl) ?_
     refine aw_load 1 (.agg #[.int .u64 (wv3 x), .int .u64 (wv2 x), .int .u64 (wv1 x), .int .u64 (wv0 x)]) rfl (by kernel_rfl) .none H27 (fun _ s => dv_loads (l := [.int .u64 (wv3 x), .int .u64 (wv2 x), .int .u64 (wv1 x), .int .u64 (wv0 x)]) agt26 sz26 (T rfl rfl) s rfl) ?_
     refine aw_pure 4 (.pointer (some ⟨b1, 4, none⟩)) rfl (by kernel_rfl) .none H27 (fun _ => dv_fieldAddr (a := ⟨b1, 0, none⟩) (a' := ⟨b1, 4, none⟩) fo44_1 (T rfl rfl) rfl) ?_
     refine aw_load 5 (.agg #[.int .u64 (wv3 y), .int .u64 (wv2 y), .int .u64 (wv1 y), .int .u64 (wv0 y)]) rfl (by kernel_rfl) .none H27 (fun _ s => dv_loads (l := [.int .u64 (wv3 y), .int .u64 (wv2 y), .int .u64 (wv1 y), .int .u64 (wv0 y)]) agt26 sz26 (T rfl rfl) s rfl) ?_
     refine aw_one 2 rfl (by kernel_rfl) .none (oe_callf (vs := [.agg #[.int .u64 (wv3 x), .int .u64 (wv2 x), .int .u64 (wv1 x), .int .u64 (wv0 x)]]) co31 (ar1 (T rfl rfl)) (iWideText_ok (x := x) fx_ ) ?_)
     rintro _ w28 ⟨rfl, e29⟩
     have E30 := below_ext E26 E26.size e29
     have H31 := (e29.blk H27)
     refine ⟨.inr H31, ?_⟩
     refine aw_pure 3 (.string (bOf ((txtL x) ++ [47]))) rfl (by kernel_rfl) .none H31 (fun _ => dv_addS (L := (txtL x)) (M := [47]) (T rfl rfl) C (by simp; omega)) ?_
     refine aw_one 6 rfl (by kernel_rfl) .none (oe_callf (vs := [.agg #[.int .u64 (wv3 y), .int .u64 (wv2 y), .int .u64 (wv1 y), .int .u64 (wv0 y)]]) co31 (ar1 (T rfl rfl)) (iWideText_ok (x := y) fy_ ) ?_)
     rintro _ w32 ⟨rfl, e33⟩
     have E34 := below_ext E30 E30.size e33
     have H35 := (e33.blk H31)
     refine ⟨.inr H35, ?_⟩
     refine aw_pure 7 (.string (bOf (((txtL x) ++ [47]) ++ (txtL y)))) rfl (by kernel_rfl) .none H35 (fun _ => dv_addS (L := ((txtL x) ++ [47])) (M := (txtL y)) (T rfl rfl) (T rfl rfl) (by simp; omega)) ?_
     refine aw_last 8 (.string (bOf (((txtL x) ++ [47]) ++ (txtL y)))) rfl (by kernel_rfl) .none (fun _ => dv_assign (T rfl rfl)) ?_
     refine aw_done (by kernel_rfl) ?_
     refine rk_ret Try.func72 (v := .string (bOf (((txtL x) ++ [47]) ++ (txtL y)))) (res1 Try.results72 (rv_tmp rfl rfl)) ⟨_, rfl, ?_⟩
     exact ⟨(congrArg (fun l => Value.string (bOf l)) (by unfold rTxt; rw [if_pos (by first | assumption | simpa using ‹_›), if_neg (by first | assumption | (have := @sgnI_zero (y - 1); omega))])), E34⟩
 · refine rk_ct (T rfl (congrArg Value.bool (decide_eq_true hb9))) ?_
   refine rk_seq ?_
   refine rk_reg ?_
   refine lw_v (.string (bOf [])) (dv_assign C) ?_
   refine lw_nil ?_
   refine rk_ret Try.func72 (v := .string (bOf [])) (res1 Try.results72 (rv_tmp rfl rfl)) ⟨_, rfl, ?_⟩
   exact ⟨(congrArg (fun l => Value.string (bOf l)) (by unfold rTxt; rw [if_neg (by first | assumption | simpa using ‹_›)])), E8⟩
set_option maxHeartbeats 1000000 in
theorem sRatioText_ok {w : World} {x y : Int} (fx_ : fits x) (fy_ : fits y)  : Ct Try.prog 70 [.agg #[.int .u64 (wv3 x), .int .u64 (wv2 x), .int .u64 (wv1 x), .int .u64 (wv0 x), .int .u64 (wv3 y), .int .u64 (wv2 y), .int .u64 (wv1 y), .int .u64 (wv0 y)]] w fun v w1 => v = .string (bOf (rTxt x y)) ∧ Ext w w1 := by
 refine ct_run (n := 25) Try.func70 rfl Try.ntmps70 rfl ?_
 have E0 : Below w.heap.size w w := Below.refl _ _
 have htx := txt_len (fits_natAbs fx_)
 have hty := txt_len (fits_natAbs fy_)
 refine rk_seq ?_
 refine rk_reg ?_
 refine lw_e (oe_box (v := .agg #[.int .u64 (wv3 x), .int .u64 (wv2 x), .int .u64 (wv1 x), .int .u64 (wv0 x), .int .u64 (wv3 y), .int .u64 (wv2 y), .int .u64 (wv1 y), .int .u64 (wv0 y)]) (cs := #[.int .u64 (wv3 x), .int .u64 (wv2 x), .int .u64 (wv1 x), .int .u64 (wv0 x), .int .u64 (wv3 y), .int .u64 (wv2 y), .int .u64 (wv1 y), .int .u64 (wv0 y)]) (T rfl rfl) rfl ?_)
 intro b1 w2 n3
 have N4 : w.heap.size ≤ b1 := n3.eq ▸ E0.size
 have E5 := below_ext E0 E0.size n3.ext
 refine lw_v (.string (bOf [])) (dv_assign C) ?_
 refine lw_nil ?_
 refine rk_seq ?_
 refine rk_seq ?_
 refine rk_reg ?_
 refine lw_v (.agg #[.int .u64 (wv3 x), .int .u64 (wv2 x), .int .u64 (wv1 x), .int .u64 (wv0 x), .int .u64 (wv3 y), .int .u64 (wv2 y), .int .u64 (wv1 y), .int .u64 (wv0 y)]) (dv_loads (l := [.int .u64 (wv3 x), .int .u64 (wv2 x), .int .u64 (wv1 x), .int .u64 (wv0 x), .int .u64 (wv3 y), .int .u64 (wv2 y), .int .u64 (wv1 y), .int .u64 (wv0 y)]) agt44 sz44 (T rfl rfl) n3.blk rfl) ?_
 refine lw_e (oe_callf (vs := [.agg #[.int .u64 (wv3 x), .int .u64 (wv2 x), .int .u64 (wv1 x), .int .u64 (wv0 x), .int .u64 (wv3 y), .int .u64 (wv2 y), .int .u64 (wv1 y), .int .u64 (wv0 y)]]) co103 (ar1 (T rfl rfl)) (sRatioOk_ok (x := x) (y := y) fx_ fy_ ) ?_)
 rintro _ w6 ⟨rfl, e7⟩
 have E8 := below_ext E5 E5.size e7
 refine lw_v (.bool (decide (¬ (rOk x y)))) (dv_notd (p := rOk x y) (T rfl rfl)) ?_
 refine lw_nil ?_
 by_cases hb9 : rOk x y
 · refine rk_cf (T rfl (congrArg Value.bool (decide_eq_false (not_not_intro hb9)))) ?_
   refine rk_skip ?_
   refine rk_seq ?_
   refine rk_reg ?_
   have H10 := (e7.blk n3.blk)
   refine lw_v (.agg #[.int .u64 (wv3 x), .int .u64 (wv2 x), .int .u64 (wv1 x), .int .u64 (wv0 x), .int .u64 (wv3 y), .int .u64 (wv2 y), .int .u64 (wv1 y), .int .u64 (wv0 y)]) (dv_loads (l := [.int .u64 (wv3 x), .int .u64 (wv2 x), .int .u64 (wv1 x), .int .u64 (wv0 x), .int .u64 (wv3 y), .int .u64 (wv2 y), .int .u64 (wv1 y), .int .u64 (wv0 y)]) agt44 sz44 (T rfl rfl) H10 rfl) ?_
   refine lw_e (oe_callf (vs := [.agg #[.int .u64 (wv3 x), .int .u64 (wv2 x), .int .u64 (wv1 x), .int .u64 (wv0 x), .int .u64 (wv3 y), .int .u64 (wv2 y), .int .u64 (wv1 y), .int .u64 (wv0 y)]]) co104 (ar1 (T rfl rfl)) (sratio_ok fx_ fy_  ) ?_)
   rintro _ w21 ⟨nr11, A12, n13, c14, nr15, A16, n17, c18, rfl, e22, h19, h20⟩
   have E23 := below_ext E8 E8.size e22
   have lh19 := Num.len (by decide) h19
   have lh20 := Num.len (by decide) h20
   refine lw_e (oe_alloc ze122 ?_)
   intro b24 w25 n26
   have N27 : w.heap.size ≤ b24 := n26.eq ▸ E23.size
   have H28 := (e22.blk H10)
   have : b1 < b24 := n26.eq ▸ lt_of_blk H28
   have E29 := below_ext E23 E23.size n26.ext
   refine lw_e (oe_store (v := .agg #[.bool nr11, .slice A12 n13 c14, .bool nr15, .slice A16 n17 c18]) (vs := [.bool nr11, .slice A12 n13 c14, .bool nr15, .slice A16 n17 c18]) (l := [.bool nr11, .slice A12 n13 c14, .bool nr15, .slice A16 n17 c18]) (T rfl rfl) (T rfl rfl) sz122 rfl rfl rfl n26.blk rfl ?_)
   intro w30 s31 H32
   have E33 := below_st E29 N27 s31
   refine lw_nil ?_
   refine rk_seq ?_
   refine rk_seq ?_
   refine rk_any (fun w => w.heap[b24]? = some (.cells #[.bool nr11, .slice A12 n13 c14, .bool nr15, .slice A16 n17 c18] 122)) [] mo ?_
   intro w34 d35
   have E36 := below_ext E33 E33.size d35.ext
   have H37 := (d35.ext.blk H32)
   refine aw_pure 0 (.pointer (some ⟨b24, 2, none⟩)) rfl (by kernel_rfl) .none H37 (fun _ => dv_fieldAddr (a := ⟨b24, 0, none⟩) (a' := ⟨b24, 2, none⟩) fo122_1 (T rfl rfl) rfl) ?_
   refine aw_load 1 (.agg #[.bool nr15, .slice A16 n17 c18]) rfl (by kernel_rfl) .none H37 (fun _ s => dv_loads (l := [.bool nr15, .slice A16 n17 c18]) agt65 sz65 (T rfl rfl) s rfl) ?_
   refine aw_one 2 rfl (by kernel_rfl) .none (oe_callf (vs := [.int .i64 1]) co79 (ar1 C) (l1Int_ok  (by omega)) ?_)
   rintro _ w43 ⟨nr38, A39, n40, c41, rfl, e44, h42⟩
   have E45 := below_ext E36 E36.size e44
   have lh42 := Num.len (by decide) h42
   have H46 := (e44.blk H37)
   refine ⟨.inr H46, ?_⟩
   have h47 := ((((h20.ext n26.ext).st s31 n26.blk (by decide)).ext d35.ext).ext e44)
   refine aw_one 3 rfl (by kernel_rfl) .none (oe_callf (vs := [.agg #[.bool nr15, .slice A16 n17 c18], .agg #[.bool nr38, .slice A39 n40 c41]]) co48 (ar2 (T rfl rfl) (T rfl rfl)) (l1Cmp_ok h47 h42 (by first | decide | omega) (by first | decide | omega)) ?_)
   rintro _ w48 ⟨rfl, e49⟩
   have E50 := below_ext E45 E45.size e49
   have H51 := (e49.blk H46)
   refine ⟨.inr H51, ?_⟩
   refine aw_pure 4 (.bool (decide ((sgnI (y - 1)) = 0))) rfl (by kernel_rfl) .none H51 (fun _ => dv_eql (a := sgnI (y - 1)) (b := 0) (T rfl rfl) C) ?_
   refine aw_done (by kernel_rfl) ?_
   by_cases hb52 : (sgnI (y - 1)) = 0
   · refine rk_ct (T rfl (congrArg Value.bool (decide_eq_true hb52))) ?_
     refine rk_seq ?_
     refine rk_reg ?_
     refine lw_v (.pointer (some ⟨b24, 0, none⟩)) (dv_fieldAddr (a := ⟨b24, 0, none⟩) (a' := ⟨b24, 0, none⟩) fo122_0 (T rfl rfl) rfl) ?_
     refine lw_v (.agg #[.bool nr11, .slice A12 n13 c14]) (dv_loads (l := [.bool nr11, .slice A12 n13 c14]) agt65 sz65 (T rfl rfl) H51 rfl) ?_
     have h53 := (((((h19.ext n26.ext).st s31 n26.blk (by decide)).ext d35.ext).ext e44).ext e49)
     refine lw_e (oe_callf (vs := [.agg #[.bool nr11, .slice A12 n13 c14]]) co67 (ar1 (T rfl rfl)) (l1Text_ok h53 (by first | decide | omega)) ?_)
     rintro _ w55 ⟨rfl, e56⟩
     have E57 := below_ext E50 E50.size e56
     have ht54 := txt_len (h53).lt
     refine lw_v (.string (bOf (txtL x))) (dv_assign (T rfl rfl)) ?_
     refine lw_nil ?_
     refine rk_ret Try.func70 (v := .string (bOf (txtL x))) (res1 Try.results70 (rv_tmp rfl rfl)) ⟨_, rfl, ?_⟩
     exact ⟨(congrArg (fun l => Value.string (bOf l)) (by unfold rTxt; rw [if_pos (by first | assumption | simpa using ‹_›), if_pos (by first | assumption | (have := @sgnI_zero (y - 1); omega))])), E57⟩
   · refine rk_cf (T rfl (congrArg Value.bool (decide_eq_false hb52))) ?_
     refine rk_skip ?_
     refine rk_seq ?_
     refine rk_any (fun w => w.heap[b24]? = some (.cells #[.bool nr11, .slice A12 n13 c14, .bool nr15, .slice A16 n17 c18] 122)) [8] mo ?_
     intro w58 d59
     have E60 := below_ext E50 E50.size d59.ext
     have H61 := (d59.ext.blk H51)
     refine aw_pure 0 (.pointer (some ⟨b24, 0, none⟩)) rfl (by kernel_rfl) .none H61 (fun _ => dv_fieldAddr (a := ⟨b24, 0, none⟩) (a' := ⟨b24, 0, none⟩) fo122_0 (T rfl rfl) rfl) ?_
     refine aw_load 1 (.agg #[.bool nr11, .slice A12 n13 c14]) rfl (by kernel_rfl) .none H61 (fun _ s => dv_loads (l := [.bool nr11, .slice A12 n13 c14]) agt65 sz65 (T rfl rfl) s rfl) ?_
     refine aw_pure 4 (.pointer (some ⟨b24, 2, none⟩)) rfl (by kernel_rfl) .none H61 (fun _ => dv_fieldAddr (a := ⟨b24, 0, none⟩) (a' := ⟨b24, 2, none⟩) fo122_1 (T rfl rfl) rfl) ?_
     refine aw_load 5 (.agg #[.bool nr15, .slice A16 n17 c18]) rfl (by kernel_rfl) .none H61 (fun _ s => dv_loads (l := [.bool nr15, .slice A16 n17 c18]) agt65 sz65 (T rfl rfl) s rfl) ?_
     have h62 := ((((((h19.ext n26.ext).st s31 n26.blk (by decide)).ext d35.ext).ext e44).ext e49).ext d59.ext)
     refine aw_one 2 rfl (by kernel_rfl) .none (oe_callf (vs := [.agg #[.bool nr11, .slice A12 n13 c14]]) co67 (ar1 (T rfl rfl)) (l1Text_ok h62 (by first | decide | omega)) ?_)
     rintro _ w64 ⟨rfl, e65⟩
     have E66 := below_ext E60 E60.size e65
     have ht63 := txt_len (h62).lt
     have H67 := (e65.blk H61)
     refine ⟨.inr H67, ?_⟩
     refine aw_pure 3 (.string (bOf ((txtL x) ++ [47]))) rfl (by kernel_rfl) .none H67 (fun _ => dv_addS (L := (txtL x)) (M := [47]) (T rfl rfl) C (by simp; omega)) ?_
     have h68 := (((h47.ext e49).ext d59.ext).ext e65)
     refine aw_one 6 rfl (by kernel_rfl) .none (oe_callf (vs := [.agg #[.bool nr15, .slice A16 n17 c18]]) co67 (ar1 (T rfl rfl)) (l1Text_ok h68 (by first | decide | omega)) ?_)
     rintro _ w70 ⟨rfl, e71⟩
     have E72 := below_ext E66 E66.size e71
     have ht69 := txt_len (h68).lt
     have H73 := (e71.blk H67)
     refine ⟨.inr H73, ?_⟩
     refine aw_pure 7 (.string (bOf (((txtL x) ++ [47]) ++ (txtL y)))) rfl (by kernel_rfl) .none H73 (fun _ => dv_addS (L := ((txtL x) ++ [47])) (M := (txtL y)) (T rfl rfl) (T rfl rfl) (by simp; omega)) ?_
     refine aw_last 8 (.string (bOf (((txtL x) ++ [47]) ++ (txtL y)))) rfl (by kernel_rfl) .none (fun _ => dv_assign (T rfl rfl)) ?_
     refine aw_done (by kernel_rfl) ?_
     refine rk_ret Try.func70 (v := .string (bOf (((txtL x) ++ [47]) ++ (txtL y)))) (res1 Try.results70 (rv_tmp rfl rfl)) ⟨_, rfl, ?_⟩
     exact ⟨(congrArg (fun l => Value.string (bOf l)) (by unfold rTxt; rw [if_pos (by first | assumption | simpa using ‹_›), if_neg (by first | assumption | (have := @sgnI_zero (y - 1); omega))])), E72⟩
 · refine rk_ct (T rfl (congrArg Value.bool (decide_eq_true hb9))) ?_
   refine rk_seq ?_
   refine rk_reg ?_
   refine lw_v (.string (bOf [])) (dv_assign C) ?_
   refine lw_nil ?_
   refine rk_ret Try.func70 (v := .string (bOf [])) (res1 Try.results70 (rv_tmp rfl rfl)) ⟨_, rfl, ?_⟩
   exact ⟨(congrArg (fun l => Value.string (bOf l)) (by unfold rTxt; rw [if_neg (by first | assumption | simpa using ‹_›)])), E8⟩
set_option maxHeartbeats 1000000 in
theorem eqRatio_ok {w : World} {x y p q : Int} (fx_ : fits x) (fy_ : fits y) (fp_ : fits p) (fq_ : fits q)  : Ct Try.prog 39 [.agg #[.int .u64 (wv3 x), .int .u64 (wv2 x), .int .u64 (wv1 x), .int .u64 (wv0 x), .int .u64 (wv3 y), .int .u64 (wv2 y), .int .u64 (wv1 y), .int .u64 (wv0 y)], .agg #[.int .u64 (wv3 p), .int .u64 (wv2 p), .int .u64 (wv1 p), .int .u64 (wv0 p), .int .u64 (wv3 q), .int .u64 (wv2 q), .int .u64 (wv1 q), .int .u64 (wv0 q)]] w fun v w1 => v = .bool (decide (x = p ∧ y = q)) ∧ Ext w w1 := by
 refine ct_run (n := 17) Try.func39 rfl Try.ntmps39 rfl ?_
 have E0 : Below w.heap.size w w := Below.refl _ _
 refine rk_seq ?_
 refine rk_reg ?_
 refine lw_e (oe_box (v := .agg #[.int .u64 (wv3 x), .int .u64 (wv2 x), .int .u64 (wv1 x), .int .u64 (wv0 x), .int .u64 (wv3 y), .int .u64 (wv2 y), .int .u64 (wv1 y), .int .u64 (wv0 y)]) (cs := #[.int .u64 (wv3 x), .int .u64 (wv2 x), .int .u64 (wv1 x), .int .u64 (wv0 x), .int .u64 (wv3 y), .int .u64 (wv2 y), .int .u64 (wv1 y), .int .u64 (wv0 y)]) (T rfl rfl) rfl ?_)
 intro b1 w2 n3
 have N4 : w.heap.size ≤ b1 := n3.eq ▸ E0.size
 have E5 := below_ext E0 E0.size n3.ext
 refine lw_e (oe_box (v := .agg #[.int .u64 (wv3 p), .int .u64 (wv2 p), .int .u64 (wv1 p), .int .u64 (wv0 p), .int .u64 (wv3 q), .int .u64 (wv2 q), .int .u64 (wv1 q), .int .u64 (wv0 q)]) (cs := #[.int .u64 (wv3 p), .int .u64 (wv2 p), .int .u64 (wv1 p), .int .u64 (wv0 p), .int .u64 (wv3 q), .int .u64 (wv2 q), .int .u64 (wv1 q), .int .u64 (wv0 q)]) (T rfl rfl) rfl ?_)
 intro b6 w7 n8
 have N9 : w.heap.size ≤ b6 := n8.eq ▸ E5.size
 have : b1 < b6 := n8.eq ▸ lt_of_blk n3.blk
 have E10 := below_ext E5 E5.size n8.ext
 refine lw_v (.bool false) (dv_assign C) ?_
 refine lw_nil ?_
 refine rk_seq ?_
 refine rk_seq ?_
 refine rk_reg ?_
 refine lw_v (.pointer (some ⟨b1, 0, none⟩)) (dv_fieldAddr (a := ⟨b1, 0, none⟩) (a' := ⟨b1, 0, none⟩) fo44_0 (T rfl rfl) rfl) ?_
 have H11 := (n8.ext.blk n3.blk)
 refine lw_v (.agg #[.int .u64 (wv3 x), .int .u64 (wv2 x), .int .u64 (wv1 x), .int .u64 (wv0 x)]) (dv_loads (l := [.int .u64 (wv3 x), .int .u64 (wv2 x), .int .u64 (wv1 x), .int .u64 (wv0 x)]) agt26 sz26 (T rfl rfl) H11 rfl) ?_
 refine lw_v (.pointer (some ⟨b6, 0, none⟩)) (dv_fieldAddr (a := ⟨b6, 0, none⟩) (a' := ⟨b6, 0, none⟩) fo44_0 (T rfl rfl) rfl) ?_
 refine lw_v (.agg #[.int .u64 (wv3 p), .int .u64 (wv2 p), .int .u64 (wv1 p), .int .u64 (wv0 p)]) (dv_loads (l := [.int .u64 (wv3 p), .int .u64 (wv2 p), .int .u64 (wv1 p), .int .u64 (wv0 p)]) agt26 sz26 (T rfl rfl) n8.blk rfl) ?_
 refine lw_e (oe_callf (vs := [.agg #[.int .u64 (wv3 x), .int .u64 (wv2 x), .int .u64 (wv1 x), .int .u64 (wv0 x)], .agg #[.int .u64 (wv3 p), .int .u64 (wv2 p), .int .u64 (wv1 p), .int .u64 (wv0 p)]]) co25 (ar2 (T rfl rfl) (T rfl rfl)) (eqWide_ok (x := x) (y := p) fx_ fp_ ) ?_)
 rintro _ w12 ⟨rfl, e13⟩
 have E14 := below_ext E10 E10.size e13
 refine lw_v (.bool (decide (¬ (x = p)))) (dv_notd (p := x = p) (T rfl rfl)) ?_
 refine lw_nil ?_
 by_cases hb15 : x = p
 · refine rk_cf (T rfl (congrArg Value.bool (decide_eq_false (not_not_intro hb15)))) ?_
   refine rk_skip ?_
   refine rk_seq ?_
   refine rk_seq ?_
   refine rk_reg ?_
   refine lw_v (.pointer (some ⟨b1, 4, none⟩)) (dv_fieldAddr (a := ⟨b1, 0, none⟩) (a' := ⟨b1, 4, none⟩) fo44_1 (T rfl rfl) rfl) ?_
   have H16 := (e13.blk H11)
   refine lw_v (.agg #[.int .u64 (wv3 y), .int .u64 (wv2 y), .int .u64 (wv1 y), .int .u64 (wv0 y)]) (dv_loads (l := [.int .u64 (wv3 y), .int .u64 (wv2 y), .int .u64 (wv1 y), .int .u64 (wv0 y)]) agt26 sz26 (T rfl rfl) H16 rfl) ?_
   refine lw_v (.pointer (some ⟨b6, 4, none⟩)) (dv_fieldAddr (a := ⟨b6, 0, none⟩) (a' := ⟨b6, 4, none⟩) fo44_1 (T rfl rfl) rfl) ?_
   have H17 := (e13.blk n8.blk)
   refine lw_v (.agg #[.int .u64 (wv3 q), .int .u64 (wv2 q), .int .u64 (wv1 q), .int .u64 (wv0 q)]) (dv_loads (l := [.int .u64 (wv3 q), .int .u64 (wv2 q), .int .u64 (wv1 q), .int .u64 (wv0 q)]) agt26 sz26 (T rfl rfl) H17 rfl) ?_
   refine lw_e (oe_callf (vs := [.agg #[.int .u64 (wv3 y), .int .u64 (wv2 y), .int .u64 (wv1 y), .int .u64 (wv0 y)], .agg #[.int .u64 (wv3 q), .int .u64 (wv2 q), .int .u64 (wv1 q), .int .u64 (wv0 q)]]) co25 (ar2 (T rfl rfl) (T rfl rfl)) (eqWide_ok (x := y) (y := q) fy_ fq_ ) ?_)
   rintro _ w18 ⟨rfl, e19⟩
   have E20 := below_ext E14 E14.size e19
   refine lw_v (.bool (decide (¬ (y = q)))) (dv_notd (p := y = q) (T rfl rfl)) ?_
   refine lw_nil ?_
   by_cases hb21 : y = q
   · refine rk_cf (T rfl (congrArg Value.bool (decide_eq_false (not_not_intro hb21)))) ?_
     refine rk_skip ?_
     refine rk_seq ?_
     refine rk_reg ?_
     refine lw_v (.bool true) (dv_assign C) ?_
     refine lw_nil ?_
     refine rk_ret Try.func39 (v := .bool true) (res1 Try.results39 (rv_tmp rfl rfl)) ⟨_, rfl, ?_⟩
     exact ⟨(vt (by omega)), E20⟩
   · refine rk_ct (T rfl (congrArg Value.bool (decide_eq_true hb21))) ?_
     refine rk_seq ?_
     refine rk_reg ?_
     refine lw_v (.bool false) (dv_assign C) ?_
     refine lw_nil ?_
     refine rk_ret Try.func39 (v := .bool false) (res1 Try.results39 (rv_tmp rfl rfl)) ⟨_, rfl, ?_⟩
     exact ⟨(vf (by omega)), E20⟩
 · refine rk_ct (T rfl (congrArg Value.bool (decide_eq_true hb15))) ?_
   refine rk_seq ?_
   refine rk_reg ?_
   refine lw_v (.bool false) (dv_assign C) ?_
   refine lw_nil ?_
   refine rk_ret Try.func39 (v := .bool false) (res1 Try.results39 (rv_tmp rfl rfl)) ⟨_, rfl, ?_⟩
   exact ⟨(vf (by omega)), E14⟩
theorem cut_ok {w : World} {L : List Int} {c : Int} (hc : 0 ≤ c ∧ c < 256) (hL : okW 256 L) (hm : MLn 2 w) (hl : L.length ≤ 1048576) : Ct Try.prog 71 [.string (bOf L), .string (bOf [c])] w fun v w1 =>
 v = .tuple #[.string (bOf (L.take (fi c L))), .string (bOf (L.drop (fi c L + 1))), .bool (decide (fi c L < L.length))] ∧ Ext w w1 := by
 obtain ⟨m, hm⟩ := hm
 unfold Ct
 refine Calls.mono (Try.strings_Cut (bOf L) (bOf [c]) m w (by rw [bOf_size]; omega) hm) fun e w' ⟨he, n, hw⟩ => ⟨_, he, ?_, ?_⟩
 · obtain ⟨h1, h2, h3⟩ := cut_fi hc hL
   rw [h1, h2, h3]
 · subst hw; exact (Below.refl _ _).trans ⟨rfl, rfl, rfl, Nat.le_refl _, fun _ _ => rfl⟩
set_option maxHeartbeats 1000000 in
theorem iReadRatio_ok {w : World} {L : List Int} (hL : okW 256 L) (hl : L.length ≤ 1048576) (hm : MLn 2 w) : Ct Try.prog 38 [.string (bOf L)] w fun v w1 => v = .tuple #[.agg #[.int .u64 (wv3 (pkz (rrS L) (rrU L))), .int .u64 (wv2 (pkz (rrS L) (rrU L))), .int .u64 (wv1 (pkz (rrS L) (rrU L))), .int .u64 (wv0 (pkz (rrS L) (rrU L))), .int .u64 (wv3 (pkz (rrS L) (rrD L))), .int .u64 (wv2 (pkz (rrS L) (rrD L))), .int .u64 (wv1 (pkz (rrS L) (rrD L))), .int .u64 (wv0 (pkz (rrS L) (rrD L)))], .bool (decide (rrS L))] ∧ Ext w w1 := by
 refine ct_run (n := 45) Try.func38 rfl Try.ntmps38 rfl ?_
 have E0 : Below w.heap.size w w := Below.refl _ _
 refine rk_seq ?_
 refine rk_reg ?_
 refine lw_e (oe_alloc ze44 ?_)
 intro b1 w2 n3
 have N4 : w.heap.size ≤ b1 := n3.eq ▸ E0.size
 have E5 := below_ext E0 E0.size n3.ext
 refine lw_v (.bool false) (dv_assign C) ?_
 refine lw_nil ?_
 refine rk_seq ?_
 refine rk_reg ?_
 refine lw_v (.string (bOf L)) (dv_move (T rfl rfl)) ?_
 have h6 := (hm.ext n3.ext)
 have := fi_le 47 L
 refine lw_e (oe_callf (vs := [.string (bOf L), .string (bOf [47])]) co71 (ar2 (T rfl rfl) C) (cut_ok (c := 47) (by decide) (hL) h6 (by first | omega | (simp; omega) | (have h1_ := fi_le 47 L; simp; omega))) ?_)
 rintro _ w7 ⟨rfl, e8⟩
 have E9 := below_ext E5 E5.size e8
 refine lw_v (.tuple #[.string (bOf (L.take (fi 47 L))), .string (bOf (L.drop (fi 47 L + 1))), .bool (decide (fi 47 L < L.length))]) (dv_move (T rfl rfl)) ?_
 refine lw_v (.string (bOf (L.take (fi 47 L)))) (dv_extract (vs := #[.string (bOf (L.take (fi 47 L))), .string (bOf (L.drop (fi 47 L + 1))), .bool (decide (fi 47 L < L.length))]) (T rfl rfl) rfl) ?_
 refine lw_v (.string (bOf (L.drop (fi 47 L + 1)))) (dv_extract (vs := #[.string (bOf (L.take (fi 47 L))), .string (bOf (L.drop (fi 47 L + 1))), .bool (decide (fi 47 L < L.length))]) (T rfl rfl) rfl) ?_
 refine lw_v (.bool (decide (fi 47 L < L.length))) (dv_extract (vs := #[.string (bOf (L.take (fi 47 L))), .string (bOf (L.drop (fi 47 L + 1))), .bool (decide (fi 47 L < L.length))]) (T rfl rfl) rfl) ?_
 refine lw_v (.string (bOf (L.take (fi 47 L)))) (dv_assign (T rfl rfl)) ?_
 refine lw_v (.string (bOf (L.drop (fi 47 L + 1)))) (dv_assign (T rfl rfl)) ?_
 refine lw_v (.bool (decide (fi 47 L < L.length))) (dv_assign (T rfl rfl)) ?_
 refine lw_nil ?_
 refine rk_seq ?_
 refine rk_reg ?_
 refine lw_e (oe_callf (vs := [.int .i64 1]) co22 (ar1 C) (iWideOf_ok (x := 1)  (by omega)) ?_)
 rintro _ w10 ⟨rfl, e11⟩
 have E12 := below_ext E9 E9.size e11
 refine lw_v (.agg #[.int .u64 0, .int .u64 0, .int .u64 0, .int .u64 0, .int .u64 (wv3 (1 : Int)), .int .u64 (wv2 (1 : Int)), .int .u64 (wv1 (1 : Int)), .int .u64 (wv0 (1 : Int))]) (dv_build (pv := [(1, .agg #[.int .u64 (wv3 (1 : Int)), .int .u64 (wv2 (1 : Int)), .int .u64 (wv1 (1 : Int)), .int .u64 (wv0 (1 : Int))])]) (l := [.int .u64 0, .int .u64 0, .int .u64 0, .int .u64 0, .int .u64 (wv3 (1 : Int)), .int .u64 (wv2 (1 : Int)), .int .u64 (wv1 (1 : Int)), .int .u64 (wv0 (1 : Int))]) zc44 pl44 ⟨rfl, (T rfl rfl), trivial⟩ rfl) ?_
 refine lw_e (oe_alloc ze44 ?_)
 intro b13 w14 n15
 have N16 : w.heap.size ≤ b13 := n15.eq ▸ E12.size
 have H17 := (e11.blk (e8.blk n3.blk))
 have : b1 < b13 := n15.eq ▸ lt_of_blk H17
 have E18 := below_ext E12 E12.size n15.ext
 refine lw_e (oe_store (v := .agg #[.int .u64 0, .int .u64 0, .int .u64 0, .int .u64 0, .int .u64 (wv3 (1 : Int)), .int .u64 (wv2 (1 : Int)), .int .u64 (wv1 (1 : Int)), .int .u64 (wv0 (1 : Int))]) (vs := [.int .u64 0, .int .u64 0, .int .u64 0, .int .u64 0, .int .u64 (wv3 (1 : Int)), .int .u64 (wv2 (1 : Int)), .int .u64 (wv1 (1 : Int)), .int .u64 (wv0 (1 : Int))]) (l := [.int .u64 0, .int .u64 0, .int .u64 0, .int .u64 0, .int .u64 (wv3 (1 : Int)), .int .u64 (wv2 (1 : Int)), .int .u64 (wv1 (1 : Int)), .int .u64 (wv0 (1 : Int))]) (T rfl rfl) (T rfl rfl) sz44 rfl rfl rfl n15.blk rfl ?_)
 intro w19 s20 H21
 have E22 := below_st E18 N16 s20
 refine lw_nil ?_
 refine rk_seq ?_
 refine rk_reg ?_
 refine lw_v (.bool false) (dv_assign C) ?_
 refine lw_v (.bool true) (dv_assign C) ?_
 refine lw_nil ?_
 refine rk_seq ?_
 refine rk_reg ?_
 refine lw_v (.string (bOf (L.take (fi 47 L)))) (dv_move (T rfl rfl)) ?_
 refine lw_e (oe_callf (vs := [.string (bOf (L.take (fi 47 L)))]) co24 (ar1 (T rfl rfl)) (iReadWide_ok (okW_take (hL) ((fi 47 L))) (by first | omega | (simp; omega) | (have h1_ := fi_le 47 L; simp; omega))) ?_)
 rintro _ w23 ⟨rfl, e24⟩
 have E25 := below_ext E22 E22.size e24
 refine lw_v (.tuple #[.agg #[.int .u64 (wv3 (rdZ (L.take (fi 47 L)))), .int .u64 (wv2 (rdZ (L.take (fi 47 L)))), .int .u64 (wv1 (rdZ (L.take (fi 47 L)))), .int .u64 (wv0 (rdZ (L.take (fi 47 L))))], .bool (decide (rdS (L.take (fi 47 L))))]) (dv_move (T rfl rfl)) ?_
 refine lw_v (.agg #[.int .u64 (wv3 (rdZ (L.take (fi 47 L)))), .int .u64 (wv2 (rdZ (L.take (fi 47 L)))), .int .u64 (wv1 (rdZ (L.take (fi 47 L)))), .int .u64 (wv0 (rdZ (L.take (fi 47 L))))]) (dv_extract (vs := #[.agg #[.int .u64 (wv3 (rdZ (L.take (fi 47 L)))), .int .u64 (wv2 (rdZ (L.take (fi 47 L)))), .int .u64 (wv1 (rdZ (L.take (fi 47 L)))), .int .u64 (wv0 (rdZ (L.take (fi 47 L))))], .bool (decide (rdS (L.take (fi 47 L))))]) (T rfl rfl) rfl) ?_
 refine lw_v (.bool (decide (rdS (L.take (fi 47 L))))) (dv_extract (vs := #[.agg #[.int .u64 (wv3 (rdZ (L.take (fi 47 L)))), .int .u64 (wv2 (rdZ (L.take (fi 47 L)))), .int .u64 (wv1 (rdZ (L.take (fi 47 L)))), .int .u64 (wv0 (rdZ (L.take (fi 47 L))))], .bool (decide (rdS (L.take (fi 47 L))))]) (T rfl rfl) rfl) ?_
 refine lw_v (.pointer (some ⟨b13, 0, none⟩)) (dv_fieldAddr (a := ⟨b13, 0, none⟩) (a' := ⟨b13, 0, none⟩) fo44_0 (T rfl rfl) rfl) ?_
 have H26 := (e24.blk H21)
 refine lw_e (oe_store (v := .agg #[.int .u64 (wv3 (rdZ (L.take (fi 47 L)))), .int .u64 (wv2 (rdZ (L.take (fi 47 L)))), .int .u64 (wv1 (rdZ (L.take (fi 47 L)))), .int .u64 (wv0 (rdZ (L.take (fi 47 L))))]) (vs := [.int .u64 (wv3 (rdZ (L.take (fi 47 L)))), .int .u64 (wv2 (rdZ (L.take (fi 47 L)))), .int .u64 (wv1 (rdZ (L.take (fi 47 L)))), .int .u64 (wv0 (rdZ (L.take (fi 47 L))))]) (l := [.int .u64 (wv3 (rdZ (L.take (fi 47 L)))), .int .u64 (wv2 (rdZ (L.take (fi 47 L)))), .int .u64 (wv1 (rdZ (L.take (fi 47 L)))), .int .u64 (wv0 (rdZ (L.take (fi 47 L)))), .int .u64 (wv3 (1 : Int)), .int .u64 (wv2 (1 : Int)), .int .u64 (wv1 (1 : Int)), .int .u64 (wv0 (1 : Int))]) (T rfl rfl) (T rfl rfl) sz26 rfl rfl rfl H26 rfl ?_)
 intro w27 s28 H29
 have E30 := below_st E25 N16 s28
 refine lw_v (.bool (decide (rdS (L.take (fi 47 L))))) (dv_assign (T rfl rfl)) ?_
 refine lw_nil ?_
 refine rk_seq ?_
 refine rk_seq ?_
 refine rk_reg ?_
 refine lw_v (.bool (decide (fi 47 L < L.length))) (dv_move (T rfl rfl)) ?_
 refine lw_nil ?_
 by_cases hb31 : fi 47 L < L.length
 · refine rk_ct (T rfl (congrArg Value.bool (decide_eq_true hb31))) ?_
   refine rk_reg ?_
   refine lw_v (.string (bOf (L.drop (fi 47 L + 1)))) (dv_move (T rfl rfl)) ?_
   refine lw_e (oe_callf (vs := [.string (bOf (L.drop (fi 47 L + 1)))]) co24 (ar1 (T rfl rfl)) (iReadWide_ok (okW_drop (hL) ((fi 47 L + 1))) (by first | omega | (simp; omega) | (have h1_ := fi_le 47 L; simp; omega))) ?_)
   rintro _ w32 ⟨rfl, e33⟩
   have E34 := below_ext E30 E30.size e33
   refine lw_v (.tuple #[.agg #[.int .u64 (wv3 (rdZ (L.drop (fi 47 L + 1)))), .int .u64 (wv2 (rdZ (L.drop (fi 47 L + 1)))), .int .u64 (wv1 (rdZ (L.drop (fi 47 L + 1)))), .int .u64 (wv0 (rdZ (L.drop (fi 47 L + 1))))], .bool (decide (rdS (L.drop (fi 47 L + 1))))]) (dv_move (T rfl rfl)) ?_
   refine lw_v (.agg #[.int .u64 (wv3 (rdZ (L.drop (fi 47 L + 1)))), .int .u64 (wv2 (rdZ (L.drop (fi 47 L + 1)))), .int .u64 (wv1 (rdZ (L.drop (fi 47 L + 1)))), .int .u64 (wv0 (rdZ (L.drop (fi 47 L + 1))))]) (dv_extract (vs := #[.agg #[.int .u64 (wv3 (rdZ (L.drop (fi 47 L + 1)))), .int .u64 (wv2 (rdZ (L.drop (fi 47 L + 1)))), .int .u64 (wv1 (rdZ (L.drop (fi 47 L + 1)))), .int .u64 (wv0 (rdZ (L.drop (fi 47 L + 1))))], .bool (decide (rdS (L.drop (fi 47 L + 1))))]) (T rfl rfl) rfl) ?_
   refine lw_v (.bool (decide (rdS (L.drop (fi 47 L + 1))))) (dv_extract (vs := #[.agg #[.int .u64 (wv3 (rdZ (L.drop (fi 47 L + 1)))), .int .u64 (wv2 (rdZ (L.drop (fi 47 L + 1)))), .int .u64 (wv1 (rdZ (L.drop (fi 47 L + 1)))), .int .u64 (wv0 (rdZ (L.drop (fi 47 L + 1))))], .bool (decide (rdS (L.drop (fi 47 L + 1))))]) (T rfl rfl) rfl) ?_
   refine lw_v (.pointer (some ⟨b13, 4, none⟩)) (dv_fieldAddr (a := ⟨b13, 0, none⟩) (a' := ⟨b13, 4, none⟩) fo44_1 (T rfl rfl) rfl) ?_
   have H35 := (e33.blk H29)
   refine lw_e (oe_store (v := .agg #[.int .u64 (wv3 (rdZ (L.drop (fi 47 L + 1)))), .int .u64 (wv2 (rdZ (L.drop (fi 47 L + 1)))), .int .u64 (wv1 (rdZ (L.drop (fi 47 L + 1)))), .int .u64 (wv0 (rdZ (L.drop (fi 47 L + 1))))]) (vs := [.int .u64 (wv3 (rdZ (L.drop (fi 47 L + 1)))), .int .u64 (wv2 (rdZ (L.drop (fi 47 L + 1)))), .int .u64 (wv1 (rdZ (L.drop (fi 47 L + 1)))), .int .u64 (wv0 (rdZ (L.drop (fi 47 L + 1))))]) (l := [.int .u64 (wv3 (rdZ (L.take (fi 47 L)))), .int .u64 (wv2 (rdZ (L.take (fi 47 L)))), .int .u64 (wv1 (rdZ (L.take (fi 47 L)))), .int .u64 (wv0 (rdZ (L.take (fi 47 L)))), .int .u64 (wv3 (rdZ (L.drop (fi 47 L + 1)))), .int .u64 (wv2 (rdZ (L.drop (fi 47 L + 1)))), .int .u64 (wv1 (rdZ (L.drop (fi 47 L + 1)))), .int .u64 (wv0 (rdZ (L.drop (fi 47 L + 1))))]) (T rfl rfl) (T rfl rfl) sz26 rfl rfl rfl H35 rfl ?_)
   intro w36 s37 H38
   have E39 := below_st E34 N16 s37
   refine lw_v (.bool (decide (rdS (L.drop (fi 47 L + 1))))) (dv_assign (T rfl rfl)) ?_
   refine lw_nil ?_
   refine rk_seq ?_
   refine rk_seq ?_
   refine rk_reg ?_
   refine lw_v (.bool (decide (rdS (L.take (fi 47 L))))) (dv_move (T rfl rfl)) ?_
   refine lw_v (.bool (decide (¬ (rdS (L.take (fi 47 L)))))) (dv_notd (p := rdS (L.take (fi 47 L))) (T rfl rfl)) ?_
   refine lw_v (.bool (decide (¬ (rdS (L.take (fi 47 L)))))) (dv_move (T rfl rfl)) ?_
   by_cases hb40 : rdS (L.take (fi 47 L))
   · refine lw_vy (.bool (decide (rdS (L.drop (fi 47 L + 1))))) (d := 33) rfl rfl (congrArg Value.bool (decide_eq_false (not_not_intro hb40))) (dv_move (T rfl rfl)) ?_
     refine lw_vy (.bool (decide (¬ (rdS (L.drop (fi 47 L + 1)))))) (d := 33) rfl rfl (congrArg Value.bool (decide_eq_false (not_not_intro hb40))) (dv_notd (p := rdS (L.drop (fi 47 L + 1))) (T rfl rfl)) ?_
     refine lw_v (.bool (decide (¬ (rdS (L.drop (fi 47 L + 1)))))) (dv_pick_f (T rfl (congrArg Value.bool (decide_eq_false (not_not_intro hb40)))) (T rfl rfl)) ?_
     refine lw_v (.bool (decide (¬ (rdS (L.drop (fi 47 L + 1)))))) (dv_move (T rfl rfl)) ?_
     by_cases hb41 : rdS (L.drop (fi 47 L + 1))
     · refine lw_vy (.agg #[.int .u64 (wv3 (rdZ (L.take (fi 47 L)))), .int .u64 (wv2 (rdZ (L.take (fi 47 L)))), .int .u64 (wv1 (rdZ (L.take (fi 47 L)))), .int .u64 (wv0 (rdZ (L.take (fi 47 L)))), .int .u64 (wv3 (rdZ (L.drop (fi 47 L + 1)))), .int .u64 (wv2 (rdZ (L.drop (fi 47 L + 1)))), .int .u64 (wv1 (rdZ (L.drop (fi 47 L + 1)))), .int .u64 (wv0 (rdZ (L.drop (fi 47 L + 1))))]) (d := 37) rfl rfl (congrArg Value.bool (decide_eq_false (not_not_intro hb41))) (dv_loads (l := [.int .u64 (wv3 (rdZ (L.take (fi 47 L)))), .int .u64 (wv2 (rdZ (L.take (fi 47 L)))), .int .u64 (wv1 (rdZ (L.take (fi 47 L)))), .int .u64 (wv0 (rdZ (L.take (fi 47 L)))), .int .u64 (wv3 (rdZ (L.drop (fi 47 L + 1)))), .int .u64 (wv2 (rdZ (L.drop (fi 47 L + 1)))), .int .u64 (wv1 (rdZ (L.drop (fi 47 L + 1)))), .int .u64 (wv0 (rdZ (L.drop (fi 47 L + 1))))]) agt44 sz44 (T rfl rfl) H38 rfl) ?_
       refine lw_ey (d := 37) rfl rfl (congrArg Value.bool (decide_eq_false (not_not_intro hb41))) (oe_callf (vs := [.agg #[.int .u64 (wv3 (rdZ (L.take (fi 47 L)))), .int .u64 (wv2 (rdZ (L.take (fi 47 L)))), .int .u64 (wv1 (rdZ (L.take (fi 47 L)))), .int .u64 (wv0 (rdZ (L.take (fi 47 L)))), .int .u64 (wv3 (rdZ (L.drop (fi 47 L + 1)))), .int .u64 (wv2 (rdZ (L.drop (fi 47 L + 1)))), .int .u64 (wv1 (rdZ (L.drop (fi 47 L + 1)))), .int .u64 (wv0 (rdZ (L.drop (fi 47 L + 1))))]]) co72 (ar1 (T rfl rfl)) (iRatioText_ok (x := rdZ (L.take (fi 47 L))) (y := rdZ (L.drop (fi 47 L + 1))) (rdZ_f _) (rdZ_f _) ) ?_)
       rintro _ w42 ⟨rfl, e43⟩
       have E44 := below_ext E39 E39.size e43
       refine lw_vy (.string (bOf L)) (d := 37) rfl rfl (congrArg Value.bool (decide_eq_false (not_not_intro hb41))) (dv_move (T rfl rfl)) ?_
       refine lw_vy (.bool (decide ((((rTxt (rdZ (L.take (fi 47 L))) (rdZ (L.drop (fi 47 L + 1))))) : List Int) ≠ L))) (d := 37) rfl rfl (congrArg Value.bool (decide_eq_false (not_not_intro hb41))) (dv_neS (L := (rTxt (rdZ (L.take (fi 47 L))) (rdZ (L.drop (fi 47 L + 1))))) (M := L) (T rfl rfl) (T rfl rfl) ((okC_rTxt _ _)) ((hL))) ?_
       refine lw_v (.bool (decide ((((rTxt (rdZ (L.take (fi 47 L))) (rdZ (L.drop (fi 47 L + 1))))) : List Int) ≠ L))) (dv_pick_f (T rfl (congrArg Value.bool (decide_eq_false (not_not_intro hb41)))) (T rfl rfl)) ?_
       refine lw_nil ?_
       by_cases hb45 : (((rTxt (rdZ (L.take (fi 47 L))) (rdZ (L.drop (fi 47 L + 1))))) : List Int) ≠ L
       · refine rk_ct (T rfl (congrArg Value.bool (decide_eq_true hb45))) ?_
         refine rk_seq ?_
         refine rk_reg ?_
         refine lw_v (.agg #[.int .u64 0, .int .u64 0, .int .u64 0, .int .u64 0, .int .u64 0, .int .u64 0, .int .u64 0, .int .u64 0]) (dv_build (pv := []) (l := [.int .u64 0, .int .u64 0, .int .u64 0, .int .u64 0, .int .u64 0, .int .u64 0, .int .u64 0, .int .u64 0]) zc44 pl44 trivial rfl) ?_
         have H46 := (e43.blk (s37.blk (e33.blk (s28.blk (e24.blk (s20.blk (n15.ext.blk H17) (by omega))) (by omega))) (by omega)))
         refine lw_e (oe_store (v := .agg #[.int .u64 0, .int .u64 0, .int .u64 0, .int .u64 0, .int .u64 0, .int .u64 0, .int .u64 0, .int .u64 0]) (vs := [.int .u64 0, .int .u64 0, .int .u64 0, .int .u64 0, .int .u64 0, .int .u64 0, .int .u64 0, .int .u64 0]) (l := [.int .u64 0, .int .u64 0, .int .u64 0, .int .u64 0, .int .u64 0, .int .u64 0, .int .u64 0, .int .u64 0]) (T rfl rfl) (T rfl rfl) sz44 rfl rfl rfl H46 rfl ?_)
         intro w47 s48 H49
         have E50 := below_st E44 N4 s48
         refine lw_v (.bool false) (dv_assign C) ?_
         refine lw_nil ?_
         refine rk_ret Try.func38 (v := .tuple #[.agg #[.int .u64 0, .int .u64 0, .int .u64 0, .int .u64 0, .int .u64 0, .int .u64 0, .int .u64 0, .int .u64 0], .bool false]) (res2 Try.results38 (rv_cells (l := [.int .u64 0, .int .u64 0, .int .u64 0, .int .u64 0, .int .u64 0, .int .u64 0, .int .u64 0, .int .u64 0]) agt44 sz44 rfl rfl H49 rfl) (rv_tmp rfl rfl)) ⟨_, rfl, ?_⟩
         have hS : ¬ rrS L := fun hh => by first | exact absurd hh.1 (by assumption) | exact absurd (hh.2.1 (by omega)) (by assumption) | (have h3 := hh.2.2; unfold rrU at h3; first | (rw [rrD_t (by omega)] at h3; exact absurd h3 (by assumption)) | (rw [rrD_n (by omega)] at h3; exact absurd h3 (by assumption)))
         exact ⟨(tu2 (ag8 (vi (wf3 hS)) (vi (wf2 hS)) (vi (wf1 hS)) (vi (wf0 hS)) (vi (wf3 hS)) (vi (wf2 hS)) (vi (wf1 hS)) (vi (wf0 hS))) (vf hS)), E50⟩
       · refine rk_cf (T rfl (congrArg Value.bool (decide_eq_false hb45))) ?_
         refine rk_skip ?_
         refine rk_seq ?_
         refine rk_reg ?_
         have H51 := (e43.blk H38)
         refine lw_v (.agg #[.int .u64 (wv3 (rdZ (L.take (fi 47 L)))), .int .u64 (wv2 (rdZ (L.take (fi 47 L)))), .int .u64 (wv1 (rdZ (L.take (fi 47 L)))), .int .u64 (wv0 (rdZ (L.take (fi 47 L)))), .int .u64 (wv3 (rdZ (L.drop (fi 47 L + 1)))), .int .u64 (wv2 (rdZ (L.drop (fi 47 L + 1)))), .int .u64 (wv1 (rdZ (L.drop (fi 47 L + 1)))), .int .u64 (wv0 (rdZ (L.drop (fi 47 L + 1))))]) (dv_loads (l := [.int .u64 (wv3 (rdZ (L.take (fi 47 L)))), .int .u64 (wv2 (rdZ (L.take (fi 47 L)))), .int .u64 (wv1 (rdZ (L.take (fi 47 L)))), .int .u64 (wv0 (rdZ (L.take (fi 47 L)))), .int .u64 (wv3 (rdZ (L.drop (fi 47 L + 1)))), .int .u64 (wv2 (rdZ (L.drop (fi 47 L + 1)))), .int .u64 (wv1 (rdZ (L.drop (fi 47 L + 1)))), .int .u64 (wv0 (rdZ (L.drop (fi 47 L + 1))))]) agt44 sz44 (T rfl rfl) H51 rfl) ?_
         have H52 := (e43.blk (s37.blk (e33.blk (s28.blk (e24.blk (s20.blk (n15.ext.blk H17) (by omega))) (by omega))) (by omega)))
         refine lw_e (oe_store (v := .agg #[.int .u64 (wv3 (rdZ (L.take (fi 47 L)))), .int .u64 (wv2 (rdZ (L.take (fi 47 L)))), .int .u64 (wv1 (rdZ (L.take (fi 47 L)))), .int .u64 (wv0 (rdZ (L.take (fi 47 L)))), .int .u64 (wv3 (rdZ (L.drop (fi 47 L + 1)))), .int .u64 (wv2 (rdZ (L.drop (fi 47 L + 1)))), .int .u64 (wv1 (rdZ (L.drop (fi 47 L + 1)))), .int .u64 (wv0 (rdZ (L.drop (fi 47 L + 1))))]) (vs := [.int .u64 (wv3 (rdZ (L.take (fi 47 L)))), .int .u64 (wv2 (rdZ (L.take (fi 47 L)))), .int .u64 (wv1 (rdZ (L.take (fi 47 L)))), .int .u64 (wv0 (rdZ (L.take (fi 47 L)))), .int .u64 (wv3 (rdZ (L.drop (fi 47 L + 1)))), .int .u64 (wv2 (rdZ (L.drop (fi 47 L + 1)))), .int .u64 (wv1 (rdZ (L.drop (fi 47 L + 1)))), .int .u64 (wv0 (rdZ (L.drop (fi 47 L + 1))))]) (l := [.int .u64 (wv3 (rdZ (L.take (fi 47 L)))), .int .u64 (wv2 (rdZ (L.take (fi 47 L)))), .int .u64 (wv1 (rdZ (L.take (fi 47 L)))), .int .u64 (wv0 (rdZ (L.take (fi 47 L)))), .int .u64 (wv3 (rdZ (L.drop (fi 47 L + 1)))), .int .u64 (wv2 (rdZ (L.drop (fi 47 L + 1)))), .int .u64 (wv1 (rdZ (L.drop (fi 47 L + 1)))), .int .u64 (wv0 (rdZ (L.drop (fi 47 L + 1))))]) (T rfl rfl) (T rfl rfl) sz44 rfl rfl rfl H52 rfl ?_)
         intro w53 s54 H55
         have E56 := below_st E44 N4 s54
         refine lw_v (.bool true) (dv_assign C) ?_
         refine lw_nil ?_
         refine rk_ret Try.func38 (v := .tuple #[.agg #[.int .u64 (wv3 (rdZ (L.take (fi 47 L)))), .int .u64 (wv2 (rdZ (L.take (fi 47 L)))), .int .u64 (wv1 (rdZ (L.take (fi 47 L)))), .int .u64 (wv0 (rdZ (L.take (fi 47 L)))), .int .u64 (wv3 (rdZ (L.drop (fi 47 L + 1)))), .int .u64 (wv2 (rdZ (L.drop (fi 47 L + 1)))), .int .u64 (wv1 (rdZ (L.drop (fi 47 L + 1)))), .int .u64 (wv0 (rdZ (L.drop (fi 47 L + 1))))], .bool true]) (res2 Try.results38 (rv_cells (l := [.int .u64 (wv3 (rdZ (L.take (fi 47 L)))), .int .u64 (wv2 (rdZ (L.take (fi 47 L)))), .int .u64 (wv1 (rdZ (L.take (fi 47 L)))), .int .u64 (wv0 (rdZ (L.take (fi 47 L)))), .int .u64 (wv3 (rdZ (L.drop (fi 47 L + 1)))), .int .u64 (wv2 (rdZ (L.drop (fi 47 L + 1)))), .int .u64 (wv1 (rdZ (L.drop (fi 47 L + 1)))), .int .u64 (wv0 (rdZ (L.drop (fi 47 L + 1))))]) agt44 sz44 rfl rfl H55 rfl) (rv_tmp rfl rfl)) ⟨_, rfl, ?_⟩
         have hd : rrD L = rdZ (L.drop (fi 47 L + 1)) := rrD_t (by omega)
         have hS : rrS L := ⟨by assumption, fun hh => by first | assumption | (exfalso; omega), by unfold rrU; rw [hd]; first | assumption | exact Decidable.not_not.1 (by assumption)⟩
         exact ⟨(tu2 (ag8 (vi (congrArg wv3 (pkz_t hS).symm)) (vi (congrArg wv2 (pkz_t hS).symm)) (vi (congrArg wv1 (pkz_t hS).symm)) (vi (congrArg wv0 (pkz_t hS).symm)) (vi (congrArg wv3 ((pkz_t hS).trans hd).symm)) (vi (congrArg wv2 ((pkz_t hS).trans hd).symm)) (vi (congrArg wv1 ((pkz_t hS).trans hd).symm)) (vi (congrArg wv0 ((pkz_t hS).trans hd).symm))) (vt hS)), E56⟩
     · refine lw_no (d := 37) rfl rfl (congrArg Value.bool (decide_eq_true hb41)) ?_
       refine lw_no (d := 37) rfl rfl (congrArg Value.bool (decide_eq_true hb41)) ?_
       refine lw_no (d := 37) rfl rfl (congrArg Value.bool (decide_eq_true hb41)) ?_
       refine lw_no (d := 37) rfl rfl (congrArg Value.bool (decide_eq_true hb41)) ?_
       refine lw_v (.bool true) (dv_pick_t (T rfl (congrArg Value.bool (decide_eq_true hb41))) C) ?_
       refine lw_nil ?_
       refine rk_ct (T rfl rfl) ?_
       refine rk_seq ?_
       refine rk_reg ?_
       refine lw_v (.agg #[.int .u64 0, .int .u64 0, .int .u64 0, .int .u64 0, .int .u64 0, .int .u64 0, .int .u64 0, .int .u64 0]) (dv_build (pv := []) (l := [.int .u64 0, .int .u64 0, .int .u64 0, .int .u64 0, .int .u64 0, .int .u64 0, .int .u64 0, .int .u64 0]) zc44 pl44 trivial rfl) ?_
       have H57 := (s37.blk (e33.blk (s28.blk (e24.blk (s20.blk (n15.ext.blk H17) (by omega))) (by omega))) (by omega))
       refine lw_e (oe_store (v := .agg #[.int .u64 0, .int .u64 0, .int .u64 0, .int .u64 0, .int .u64 0, .int .u64 0, .int .u64 0, .int .u64 0]) (vs := [.int .u64 0, .int .u64 0, .int .u64 0, .int .u64 0, .int .u64 0, .int .u64 0, .int .u64 0, .int .u64 0]) (l := [.int .u64 0, .int .u64 0, .int .u64 0, .int .u64 0, .int .u64 0, .int .u64 0, .int .u64 0, .int .u64 0]) (T rfl rfl) (T rfl rfl) sz44 rfl rfl rfl H57 rfl ?_)
       intro w58 s59 H60
       have E61 := below_st E39 N4 s59
       refine lw_v (.bool false) (dv_assign C) ?_
       refine lw_nil ?_
       refine rk_ret Try.func38 (v := .tuple #[.agg #[.int .u64 0, .int .u64 0, .int .u64 0, .int .u64 0, .int .u64 0, .int .u64 0, .int .u64 0, .int .u64 0], .bool false]) (res2 Try.results38 (rv_cells (l := [.int .u64 0, .int .u64 0, .int .u64 0, .int .u64 0, .int .u64 0, .int .u64 0, .int .u64 0, .int .u64 0]) agt44 sz44 rfl rfl H60 rfl) (rv_tmp rfl rfl)) ⟨_, rfl, ?_⟩
       have hS : ¬ rrS L := fun hh => by first | exact absurd hh.1 (by assumption) | exact absurd (hh.2.1 (by omega)) (by assumption) | (have h3 := hh.2.2; unfold rrU at h3; first | (rw [rrD_t (by omega)] at h3; exact absurd h3 (by assumption)) | (rw [rrD_n (by omega)] at h3; exact absurd h3 (by assumption)))
       exact ⟨(tu2 (ag8 (vi (wf3 hS)) (vi (wf2 hS)) (vi (wf1 hS)) (vi (wf0 hS)) (vi (wf3 hS)) (vi (wf2 hS)) (vi (wf1 hS)) (vi (wf0 hS))) (vf hS)), E61⟩
   · refine lw_no (d := 33) rfl rfl (congrArg Value.bool (decide_eq_true hb40)) ?_
     refine lw_no (d := 33) rfl rfl (congrArg Value.bool (decide_eq_true hb40)) ?_
     refine lw_v (.bool true) (dv_pick_t (T rfl (congrArg Value.bool (decide_eq_true hb40))) C) ?_
     refine lw_v (.bool true) (dv_move (T rfl rfl)) ?_
     refine lw_no (d := 37) rfl rfl (rfl) ?_
     refine lw_no (d := 37) rfl rfl (rfl) ?_
     refine lw_no (d := 37) rfl rfl (rfl) ?_
     refine lw_no (d := 37) rfl rfl (rfl) ?_
     refine lw_v (.bool true) (dv_pick_t (T rfl rfl) C) ?_
     refine lw_nil ?_
     refine rk_ct (T rfl rfl) ?_
     refine rk_seq ?_
     refine rk_reg ?_
     refine lw_v (.agg #[.int .u64 0, .int .u64 0, .int .u64 0, .int .u64 0, .int .u64 0, .int .u64 0, .int .u64 0, .int .u64 0]) (dv_build (pv := []) (l := [.int .u64 0, .int .u64 0, .int .u64 0, .int .u64 0, .int .u64 0, .int .u64 0, .int .u64 0, .int .u64 0]) zc44 pl44 trivial rfl) ?_
     have H62 := (s37.blk (e33.blk (s28.blk (e24.blk (s20.blk (n15.ext.blk H17) (by omega))) (by omega))) (by omega))
     refine lw_e (oe_store (v := .agg #[.int .u64 0, .int .u64 0, .int .u64 0, .int .u64 0, .int .u64 0, .int .u64 0, .int .u64 0, .int .u64 0]) (vs := [.int .u64 0, .int .u64 0, .int .u64 0, .int .u64 0, .int .u64 0, .int .u64 0, .int .u64 0, .int .u64 0]) (l := [.int .u64 0, .int .u64 0, .int .u64 0, .int .u64 0, .int .u64 0, .int .u64 0, .int .u64 0, .int .u64 0]) (T rfl rfl) (T rfl rfl) sz44 rfl rfl rfl H62 rfl ?_)
     intro w63 s64 H65
     have E66 := below_st E39 N4 s64
     refine lw_v (.bool false) (dv_assign C) ?_
     refine lw_nil ?_
     refine rk_ret Try.func38 (v := .tuple #[.agg #[.int .u64 0, .int .u64 0, .int .u64 0, .int .u64 0, .int .u64 0, .int .u64 0, .int .u64 0, .int .u64 0], .bool false]) (res2 Try.results38 (rv_cells (l := [.int .u64 0, .int .u64 0, .int .u64 0, .int .u64 0, .int .u64 0, .int .u64 0, .int .u64 0, .int .u64 0]) agt44 sz44 rfl rfl H65 rfl) (rv_tmp rfl rfl)) ⟨_, rfl, ?_⟩
     have hS : ¬ rrS L := fun hh => by first | exact absurd hh.1 (by assumption) | exact absurd (hh.2.1 (by omega)) (by assumption) | (have h3 := hh.2.2; unfold rrU at h3; first | (rw [rrD_t (by omega)] at h3; exact absurd h3 (by assumption)) | (rw [rrD_n (by omega)] at h3; exact absurd h3 (by assumption)))
     exact ⟨(tu2 (ag8 (vi (wf3 hS)) (vi (wf2 hS)) (vi (wf1 hS)) (vi (wf0 hS)) (vi (wf3 hS)) (vi (wf2 hS)) (vi (wf1 hS)) (vi (wf0 hS))) (vf hS)), E66⟩
 · refine rk_cf (T rfl (congrArg Value.bool (decide_eq_false hb31))) ?_
   refine rk_skip ?_
   refine rk_seq ?_
   refine rk_seq ?_
   refine rk_reg ?_
   refine lw_v (.bool (decide (rdS (L.take (fi 47 L))))) (dv_move (T rfl rfl)) ?_
   refine lw_v (.bool (decide (¬ (rdS (L.take (fi 47 L)))))) (dv_notd (p := rdS (L.take (fi 47 L))) (T rfl rfl)) ?_
   refine lw_v (.bool (decide (¬ (rdS (L.take (fi 47 L)))))) (dv_move (T rfl rfl)) ?_
   by_cases hb67 : rdS (L.take (fi 47 L))
   · refine lw_vy (.bool true) (d := 33) rfl rfl (congrArg Value.bool (decide_eq_false (not_not_intro hb67))) (dv_move (T rfl rfl)) ?_
     refine lw_vy (.bool false) (d := 33) rfl rfl (congrArg Value.bool (decide_eq_false (not_not_intro hb67))) (dv_not (b := true) (T rfl rfl)) ?_
     refine lw_v (.bool false) (dv_pick_f (T rfl (congrArg Value.bool (decide_eq_false (not_not_intro hb67)))) (T rfl rfl)) ?_
     refine lw_v (.bool false) (dv_move (T rfl rfl)) ?_
     refine lw_vy (.agg #[.int .u64 (wv3 (rdZ (L.take (fi 47 L)))), .int .u64 (wv2 (rdZ (L.take (fi 47 L)))), .int .u64 (wv1 (rdZ (L.take (fi 47 L)))), .int .u64 (wv0 (rdZ (L.take (fi 47 L)))), .int .u64 (wv3 (1 : Int)), .int .u64 (wv2 (1 : Int)), .int .u64 (wv1 (1 : Int)), .int .u64 (wv0 (1 : Int))]) (d := 37) rfl rfl (rfl) (dv_loads (l := [.int .u64 (wv3 (rdZ (L.take (fi 47 L)))), .int .u64 (wv2 (rdZ (L.take (fi 47 L)))), .int .u64 (wv1 (rdZ (L.take (fi 47 L)))), .int .u64 (wv0 (rdZ (L.take (fi 47 L)))), .int .u64 (wv3 (1 : Int)), .int .u64 (wv2 (1 : Int)), .int .u64 (wv1 (1 : Int)), .int .u64 (wv0 (1 : Int))]) agt44 sz44 (T rfl rfl) H29 rfl) ?_
     refine lw_ey (d := 37) rfl rfl (rfl) (oe_callf (vs := [.agg #[.int .u64 (wv3 (rdZ (L.take (fi 47 L)))), .int .u64 (wv2 (rdZ (L.take (fi 47 L)))), .int .u64 (wv1 (rdZ (L.take (fi 47 L)))), .int .u64 (wv0 (rdZ (L.take (fi 47 L)))), .int .u64 (wv3 (1 : Int)), .int .u64 (wv2 (1 : Int)), .int .u64 (wv1 (1 : Int)), .int .u64 (wv0 (1 : Int))]]) co72 (ar1 (T rfl rfl)) (iRatioText_ok (x := rdZ (L.take (fi 47 L))) (y := 1) (rdZ_f _) (⟨by decide, by decide⟩ : fits 1) ) ?_)
     rintro _ w68 ⟨rfl, e69⟩
     have E70 := below_ext E30 E30.size e69
     refine lw_vy (.string (bOf L)) (d := 37) rfl rfl (rfl) (dv_move (T rfl rfl)) ?_
     refine lw_vy (.bool (decide ((((rTxt (rdZ (L.take (fi 47 L))) (1 : Int))) : List Int) ≠ L))) (d := 37) rfl rfl (rfl) (dv_neS (L := (rTxt (rdZ (L.take (fi 47 L))) (1 : Int))) (M := L) (T rfl rfl) (T rfl rfl) ((okC_rTxt _ _)) ((hL))) ?_
     refine lw_v (.bool (decide ((((rTxt (rdZ (L.take (fi 47 L))) (1 : Int))) : List Int) ≠ L))) (dv_pick_f (T rfl rfl) (T rfl rfl)) ?_
     refine lw_nil ?_
     by_cases hb71 : (((rTxt (rdZ (L.take (fi 47 L))) (1 : Int))) : List Int) ≠ L
     · refine rk_ct (T rfl (congrArg Value.bool (decide_eq_true hb71))) ?_
       refine rk_seq ?_
       refine rk_reg ?_
       refine lw_v (.agg #[.int .u64 0, .int .u64 0, .int .u64 0, .int .u64 0, .int .u64 0, .int .u64 0, .int .u64 0, .int .u64 0]) (dv_build (pv := []) (l := [.int .u64 0, .int .u64 0, .int .u64 0, .int .u64 0, .int .u64 0, .int .u64 0, .int .u64 0, .int .u64 0]) zc44 pl44 trivial rfl) ?_
       have H72 := (e69.blk (s28.blk (e24.blk (s20.blk (n15.ext.blk H17) (by omega))) (by omega)))
       refine lw_e (oe_store (v := .agg #[.int .u64 0, .int .u64 0, .int .u64 0, .int .u64 0, .int .u64 0, .int .u64 0, .int .u64 0, .int .u64 0]) (vs := [.int .u64 0, .int .u64 0, .int .u64 0, .int .u64 0, .int .u64 0, .int .u64 0, .int .u64 0, .int .u64 0]) (l := [.int .u64 0, .int .u64 0, .int .u64 0, .int .u64 0, .int .u64 0, .int .u64 0, .int .u64 0, .int .u64 0]) (T rfl rfl) (T rfl rfl) sz44 rfl rfl rfl H72 rfl ?_)
       intro w73 s74 H75
       have E76 := below_st E70 N4 s74
       refine lw_v (.bool false) (dv_assign C) ?_
       refine lw_nil ?_
       refine rk_ret Try.func38 (v := .tuple #[.agg #[.int .u64 0, .int .u64 0, .int .u64 0, .int .u64 0, .int .u64 0, .int .u64 0, .int .u64 0, .int .u64 0], .bool false]) (res2 Try.results38 (rv_cells (l := [.int .u64 0, .int .u64 0, .int .u64 0, .int .u64 0, .int .u64 0, .int .u64 0, .int .u64 0, .int .u64 0]) agt44 sz44 rfl rfl H75 rfl) (rv_tmp rfl rfl)) ⟨_, rfl, ?_⟩
       have hS : ¬ rrS L := fun hh => by first | exact absurd hh.1 (by assumption) | exact absurd (hh.2.1 (by omega)) (by assumption) | (have h3 := hh.2.2; unfold rrU at h3; first | (rw [rrD_t (by omega)] at h3; exact absurd h3 (by assumption)) | (rw [rrD_n (by omega)] at h3; exact absurd h3 (by assumption)))
       exact ⟨(tu2 (ag8 (vi (wf3 hS)) (vi (wf2 hS)) (vi (wf1 hS)) (vi (wf0 hS)) (vi (wf3 hS)) (vi (wf2 hS)) (vi (wf1 hS)) (vi (wf0 hS))) (vf hS)), E76⟩
     · refine rk_cf (T rfl (congrArg Value.bool (decide_eq_false hb71))) ?_
       refine rk_skip ?_
       refine rk_seq ?_
       refine rk_reg ?_
       have H77 := (e69.blk H29)
       refine lw_v (.agg #[.int .u64 (wv3 (rdZ (L.take (fi 47 L)))), .int .u64 (wv2 (rdZ (L.take (fi 47 L)))), .int .u64 (wv1 (rdZ (L.take (fi 47 L)))), .int .u64 (wv0 (rdZ (L.take (fi 47 L)))), .int .u64 (wv3 (1 : Int)), .int .u64 (wv2 (1 : Int)), .int .u64 (wv1 (1 : Int)), .int .u64 (wv0 (1 : Int))]) (dv_loads (l := [.int .u64 (wv3 (rdZ (L.take (fi 47 L)))), .int .u64 (wv2 (rdZ (L.take (fi 47 L)))), .int .u64 (wv1 (rdZ (L.take (fi 47 L)))), .int .u64 (wv0 (rdZ (L.take (fi 47 L)))), .int .u64 (wv3 (1 : Int)), .int .u64 (wv2 (1 : Int)), .int .u64 (wv1 (1 : Int)), .int .u64 (wv0 (1 : Int))]) agt44 sz44 (T rfl rfl) H77 rfl) ?_
       have H78 := (e69.blk (s28.blk (e24.blk (s20.blk (n15.ext.blk H17) (by omega))) (by omega)))
       refine lw_e (oe_store (v := .agg #[.int .u64 (wv3 (rdZ (L.take (fi 47 L)))), .int .u64 (wv2 (rdZ (L.take (fi 47 L)))), .int .u64 (wv1 (rdZ (L.take (fi 47 L)))), .int .u64 (wv0 (rdZ (L.take (fi 47 L)))), .int .u64 (wv3 (1 : Int)), .int .u64 (wv2 (1 : Int)), .int .u64 (wv1 (1 : Int)), .int .u64 (wv0 (1 : Int))]) (vs := [.int .u64 (wv3 (rdZ (L.take (fi 47 L)))), .int .u64 (wv2 (rdZ (L.take (fi 47 L)))), .int .u64 (wv1 (rdZ (L.take (fi 47 L)))), .int .u64 (wv0 (rdZ (L.take (fi 47 L)))), .int .u64 (wv3 (1 : Int)), .int .u64 (wv2 (1 : Int)), .int .u64 (wv1 (1 : Int)), .int .u64 (wv0 (1 : Int))]) (l := [.int .u64 (wv3 (rdZ (L.take (fi 47 L)))), .int .u64 (wv2 (rdZ (L.take (fi 47 L)))), .int .u64 (wv1 (rdZ (L.take (fi 47 L)))), .int .u64 (wv0 (rdZ (L.take (fi 47 L)))), .int .u64 (wv3 (1 : Int)), .int .u64 (wv2 (1 : Int)), .int .u64 (wv1 (1 : Int)), .int .u64 (wv0 (1 : Int))]) (T rfl rfl) (T rfl rfl) sz44 rfl rfl rfl H78 rfl ?_)
       intro w79 s80 H81
       have E82 := below_st E70 N4 s80
       refine lw_v (.bool true) (dv_assign C) ?_
       refine lw_nil ?_
       refine rk_ret Try.func38 (v := .tuple #[.agg #[.int .u64 (wv3 (rdZ (L.take (fi 47 L)))), .int .u64 (wv2 (rdZ (L.take (fi 47 L)))), .int .u64 (wv1 (rdZ (L.take (fi 47 L)))), .int .u64 (wv0 (rdZ (L.take (fi 47 L)))), .int .u64 (wv3 (1 : Int)), .int .u64 (wv2 (1 : Int)), .int .u64 (wv1 (1 : Int)), .int .u64 (wv0 (1 : Int))], .bool true]) (res2 Try.results38 (rv_cells (l := [.int .u64 (wv3 (rdZ (L.take (fi 47 L)))), .int .u64 (wv2 (rdZ (L.take (fi 47 L)))), .int .u64 (wv1 (rdZ (L.take (fi 47 L)))), .int .u64 (wv0 (rdZ (L.take (fi 47 L)))), .int .u64 (wv3 (1 : Int)), .int .u64 (wv2 (1 : Int)), .int .u64 (wv1 (1 : Int)), .int .u64 (wv0 (1 : Int))]) agt44 sz44 rfl rfl H81 rfl) (rv_tmp rfl rfl)) ⟨_, rfl, ?_⟩
       have hd : rrD L = 1 := rrD_n (by omega)
       have hS : rrS L := ⟨by assumption, fun hh => by first | assumption | (exfalso; omega), by unfold rrU; rw [hd]; first | assumption | exact Decidable.not_not.1 (by assumption)⟩
       exact ⟨(tu2 (ag8 (vi (congrArg wv3 (pkz_t hS).symm)) (vi (congrArg wv2 (pkz_t hS).symm)) (vi (congrArg wv1 (pkz_t hS).symm)) (vi (congrArg wv0 (pkz_t hS).symm)) (vi (congrArg wv3 ((pkz_t hS).trans hd).symm)) (vi (congrArg wv2 ((pkz_t hS).trans hd).symm)) (vi (congrArg wv1 ((pkz_t hS).trans hd).symm)) (vi (congrArg wv0 ((pkz_t hS).trans hd).symm))) (vt hS)), E82⟩
   · refine lw_no (d := 33) rfl rfl (congrArg Value.bool (decide_eq_true hb67)) ?_
     refine lw_no (d := 33) rfl rfl (congrArg Value.bool (decide_eq_true hb67)) ?_
     refine lw_v (.bool true) (dv_pick_t (T rfl (congrArg Value.bool (decide_eq_true hb67))) C) ?_
     refine lw_v (.bool true) (dv_move (T rfl rfl)) ?_
     refine lw_no (d := 37) rfl rfl (rfl) ?_
     refine lw_no (d := 37) rfl rfl (rfl) ?_
     refine lw_no (d := 37) rfl rfl (rfl) ?_
     refine lw_no (d := 37) rfl rfl (rfl) ?_
     refine lw_v (.bool true) (dv_pick_t (T rfl rfl) C) ?_
     refine lw_nil ?_
     refine rk_ct (T rfl rfl) ?_
     refine rk_seq ?_
     refine rk_reg ?_
     refine lw_v (.agg #[.int .u64 0, .int .u64 0, .int .u64 0, .int .u64 0, .int .u64 0, .int .u64 0, .int .u64 0, .int .u64 0]) (dv_build (pv := []) (l := [.int .u64 0, .int .u64 0, .int .u64 0, .int .u64 0, .int .u64 0, .int .u64 0, .int .u64 0, .int .u64 0]) zc44 pl44 trivial rfl) ?_
     have H83 := (s28.blk (e24.blk (s20.blk (n15.ext.blk H17) (by omega))) (by omega))
     refine lw_e (oe_store (v := .agg #[.int .u64 0, .int .u64 0, .int .u64 0, .int .u64 0, .int .u64 0, .int .u64 0, .int .u64 0, .int .u64 0]) (vs := [.int .u64 0, .int .u64 0, .int .u64 0, .int .u64 0, .int .u64 0, .int .u64 0, .int .u64 0, .int .u64 0]) (l := [.int .u64 0, .int .u64 0, .int .u64 0, .int .u64 0, .int .u64 0, .int .u64 0, .int .u64 0, .int .u64 0]) (T rfl rfl) (T rfl rfl) sz44 rfl rfl rfl H83 rfl ?_)
     intro w84 s85 H86
     have E87 := below_st E30 N4 s85
     refine lw_v (.bool false) (dv_assign C) ?_
     refine lw_nil ?_
     refine rk_ret Try.func38 (v := .tuple #[.agg #[.int .u64 0, .int .u64 0, .int .u64 0, .int .u64 0, .int .u64 0, .int .u64 0, .int .u64 0, .int .u64 0], .bool false]) (res2 Try.results38 (rv_cells (l := [.int .u64 0, .int .u64 0, .int .u64 0, .int .u64 0, .int .u64 0, .int .u64 0, .int .u64 0, .int .u64 0]) agt44 sz44 rfl rfl H86 rfl) (rv_tmp rfl rfl)) ⟨_, rfl, ?_⟩
     have hS : ¬ rrS L := fun hh => by first | exact absurd hh.1 (by assumption) | exact absurd (hh.2.1 (by omega)) (by assumption) | (have h3 := hh.2.2; unfold rrU at h3; first | (rw [rrD_t (by omega)] at h3; exact absurd h3 (by assumption)) | (rw [rrD_n (by omega)] at h3; exact absurd h3 (by assumption)))
     exact ⟨(tu2 (ag8 (vi (wf3 hS)) (vi (wf2 hS)) (vi (wf1 hS)) (vi (wf0 hS)) (vi (wf3 hS)) (vi (wf2 hS)) (vi (wf1 hS)) (vi (wf0 hS))) (vf hS)), E87⟩
set_option maxHeartbeats 1000000 in
theorem sReadRatio_ok {w : World} {L : List Int} (hL : okW 256 L) (hl : L.length ≤ 1048576) : Ct Try.prog 37 [.string (bOf L)] w fun v w1 => v = .tuple #[.agg #[.int .u64 (wv3 (pkz (rrS L) (rrU L))), .int .u64 (wv2 (pkz (rrS L) (rrU L))), .int .u64 (wv1 (pkz (rrS L) (rrU L))), .int .u64 (wv0 (pkz (rrS L) (rrU L))), .int .u64 (wv3 (pkz (rrS L) (rrD L))), .int .u64 (wv2 (pkz (rrS L) (rrD L))), .int .u64 (wv1 (pkz (rrS L) (rrD L))), .int .u64 (wv0 (pkz (rrS L) (rrD L)))], .bool (decide (rrS L))] ∧ Ext w w1 := by
 refine ct_run (n := 71) Try.func37 rfl Try.ntmps37 rfl ?_
 have E0 : Below w.heap.size w w := Below.refl _ _
 refine rk_seq ?_
 refine rk_reg ?_
 refine lw_e (oe_alloc ze44 ?_)
 intro b1 w2 n3
 have N4 : w.heap.size ≤ b1 := n3.eq ▸ E0.size
 have E5 := below_ext E0 E0.size n3.ext
 refine lw_v (.bool false) (dv_assign C) ?_
 refine lw_nil ?_
 refine rk_seq ?_
 refine rk_seq ?_
 refine rk_reg ?_
 refine lw_v (.string (bOf L)) (dv_move (T rfl rfl)) ?_
 refine lw_v (.int .i64 ((L.length : Int))) (dv_lenS (L := L) ut9 (T rfl rfl)) ?_
 refine lw_v (.bool (decide (160 < ((L.length : Int))))) (dv_gtr (a := (L.length : Int)) (b := 160) (T rfl rfl) C) ?_
 refine lw_nil ?_
 by_cases hb6 : 160 < ((L.length : Int))
 · refine rk_ct (T rfl (congrArg Value.bool (decide_eq_true hb6))) ?_
   refine rk_seq ?_
   refine rk_reg ?_
   refine lw_v (.agg #[.int .u64 0, .int .u64 0, .int .u64 0, .int .u64 0, .int .u64 0, .int .u64 0, .int .u64 0, .int .u64 0]) (dv_build (pv := []) (l := [.int .u64 0, .int .u64 0, .int .u64 0, .int .u64 0, .int .u64 0, .int .u64 0, .int .u64 0, .int .u64 0]) zc44 pl44 trivial rfl) ?_
   refine lw_e (oe_store (v := .agg #[.int .u64 0, .int .u64 0, .int .u64 0, .int .u64 0, .int .u64 0, .int .u64 0, .int .u64 0, .int .u64 0]) (vs := [.int .u64 0, .int .u64 0, .int .u64 0, .int .u64 0, .int .u64 0, .int .u64 0, .int .u64 0, .int .u64 0]) (l := [.int .u64 0, .int .u64 0, .int .u64 0, .int .u64 0, .int .u64 0, .int .u64 0, .int .u64 0, .int .u64 0]) (T rfl rfl) (T rfl rfl) sz44 rfl rfl rfl n3.blk rfl ?_)
   intro w7 s8 H9
   have E10 := below_st E5 N4 s8
   refine lw_v (.bool false) (dv_assign C) ?_
   refine lw_nil ?_
   refine rk_ret Try.func37 (v := .tuple #[.agg #[.int .u64 0, .int .u64 0, .int .u64 0, .int .u64 0, .int .u64 0, .int .u64 0, .int .u64 0, .int .u64 0], .bool false]) (res2 Try.results37 (rv_cells (l := [.int .u64 0, .int .u64 0, .int .u64 0, .int .u64 0, .int .u64 0, .int .u64 0, .int .u64 0, .int .u64 0]) agt44 sz44 rfl rfl H9 rfl) (rv_tmp rfl rfl)) ⟨_, rfl, ?_⟩
   have hS : ¬ rrS L := fun hh => by have := rrS_len hh; omega
   exact ⟨(tu2 (ag8 (vi (wf3 hS)) (vi (wf2 hS)) (vi (wf1 hS)) (vi (wf0 hS)) (vi (wf3 hS)) (vi (wf2 hS)) (vi (wf1 hS)) (vi (wf0 hS))) (vf hS)), E10⟩
 · refine rk_cf (T rfl (congrArg Value.bool (decide_eq_false hb6))) ?_
   refine rk_skip ?_
   refine rk_seq ?_
   refine rk_reg ?_
   refine lw_v (.string (bOf L)) (dv_move (T rfl rfl)) ?_
   refine lw_v (.int .i64 ((L.length : Int))) (dv_lenS (L := L) ut9 (T rfl rfl)) ?_
   refine lw_v (.int .i64 ((L.length : Int))) (dv_assign (T rfl rfl)) ?_
   refine lw_nil ?_
   refine rk_seq ?_
   refine rk_seq ?_
   refine rk_reg ?_
   refine lw_v (.int .i64 0) (dv_assign C) ?_
   refine lw_nil ?_
   refine rk_block ?_
   refine rk_loop (fun dm_ fr wl => ∃ (i a : Nat), dm_ = L.length - i ∧ fr 0 = .string (bOf L) ∧ fr 2 = .pointer (some ⟨b1, 0, none⟩) ∧ fr 3 = .bool false ∧ fr 4 = .int .i64 ((a : Int)) ∧ fr 5 = .int .i64 ((i : Int)) ∧ Below w.heap.size w wl ∧ wl.heap[b1]? = some (.cells #[.int .u64 0, .int .u64 0, .int .u64 0, .int .u64 0, .int .u64 0, .int .u64 0, .int .u64 0, .int .u64 0] 44) ∧ (i ≤ L.length) ∧ ((a = L.length ∧ i ≤ fi 47 L) ∨ (a = fi 47 L ∧ a < L.length))) (L.length - 0) ⟨0, L.length, rfl, rfl, rfl, rfl, (vi (by omega)), (vi (by omega)), E5, n3.blk, (Nat.zero_le _), (by left; omega)⟩ ?_
   intro d15 fr14 w11 hI12 ih13
   obtain ⟨i, a, hd23, f16, f17, f18, f19, f20, E21, H22, hi, ha⟩ := hI12
   have hfl := fi_le 47 L
   refine rk_seq ?_
   refine rk_seq ?_
   refine rk_reg ?_
   refine lw_v (.int .i64 ((i : Int))) (dv_move (T rfl f20)) ?_
   refine lw_v (.string (bOf L)) (dv_move (T rfl f16)) ?_
   refine lw_v (.int .i64 ((L.length : Int))) (dv_lenS (L := L) ut9 (T rfl rfl)) ?_
   refine lw_v (.bool (decide (((i : Int)) < ((L.length : Int))))) (dv_lss (a := (i : Int)) (b := (L.length : Int)) (T rfl rfl) (T rfl rfl)) ?_
   refine lw_v (.bool (decide (((i : Int)) < ((L.length : Int))))) (dv_move (T rfl rfl)) ?_
   by_cases hb24 : ((i : Int)) < ((L.length : Int))
   · refine lw_vy (.int .i64 ((a : Int))) (d := 21) rfl rfl (congrArg Value.bool (decide_eq_true hb24)) (dv_move (T rfl f19)) ?_
     refine lw_vy (.string (bOf L)) (d := 21) rfl rfl (congrArg Value.bool (decide_eq_true hb24)) (dv_move (T rfl f16)) ?_
     refine lw_vy (.int .i64 ((L.length : Int))) (d := 21) rfl rfl (congrArg Value.bool (decide_eq_true hb24)) (dv_lenS (L := L) ut9 (T rfl rfl)) ?_
     refine lw_vy (.bool (decide (((a : Int)) = ((L.length : Int))))) (d := 21) rfl rfl (congrArg Value.bool (decide_eq_true hb24)) (dv_eql (a := (a : Int)) (b := (L.length : Int)) (T rfl rfl) (T rfl rfl)) ?_
     refine lw_v (.bool (decide (((a : Int)) = ((L.length : Int))))) (dv_pick_t (T rfl (congrArg Value.bool (decide_eq_true hb24))) (T rfl rfl)) ?_
     refine lw_nil ?_
     by_cases hb25 : ((a : Int)) = ((L.length : Int))
     · refine rk_ct (T rfl (congrArg Value.bool (decide_eq_true hb25))) ?_
       refine rk_skip ?_
       refine rk_seq ?_
       refine rk_block ?_
       refine rk_seq ?_
       refine rk_reg ?_
       refine lw_v (.string (bOf L)) (dv_move (T rfl f16)) ?_
       refine lw_v (.int .i64 ((i : Int))) (dv_move (T rfl f20)) ?_
       have bg26 := okW.getD (hL) (by decide) i
       refine lw_v (.int .u8 (L.getD i 0)) (dv_indexS (L := L) (i := i) (j := (i : Int)) ut9 (T rfl rfl) (T rfl rfl) (hL) (by omega) (by first | omega | (simp; done) | (simp; omega))) ?_
       refine lw_v (.bool (decide ((L.getD i 0) = 47))) (dv_eql (a := L.getD i 0) (b := 47) (T rfl rfl) C) ?_
       refine lw_nil ?_
       by_cases hb27 : (L.getD i 0) = 47
       · refine rk_ct (T rfl (congrArg Value.bool (decide_eq_true hb27))) ?_
         refine rk_reg ?_
         refine lw_v (.int .i64 ((i : Int))) (dv_move (T rfl f20)) ?_
         refine lw_v (.int .i64 ((i : Int))) (dv_assign (T rfl rfl)) ?_
         refine lw_nil ?_
         refine rk_inBlock ?_
         refine rk_reg ?_
         refine lw_v (.int .i64 ((i : Int))) (dv_move (T rfl f20)) ?_
         refine lw_v (.int .i64 (((i : Int)) + 1)) (dv_add (a := (i : Int)) (b := 1) (z := ((i : Int)) + 1) (T rfl rfl) C (wr_i64 (by omega) (by omega))) ?_
         refine lw_v (.int .i64 (((i : Int)) + 1)) (dv_assign (T rfl rfl)) ?_
         refine lw_nil ?_
         exact ih13 (L.length - ((i + 1))) _ _ (by rw [hd23]; omega) ⟨(i + 1), i, rfl, f16, f17, f18, (vi (by omega)), (vi (by omega)), E21, H22, (by omega), (by right; have h1 := fi_hit (c := 47) (L := L) (i := i) (by omega) (by omega) (by assumption); omega)⟩
       · refine rk_cf (T rfl (congrArg Value.bool (decide_eq_false hb27))) ?_
         refine rk_skip ?_
         refine rk_inBlock ?_
         refine rk_reg ?_
         refine lw_v (.int .i64 ((i : Int))) (dv_move (T rfl f20)) ?_
         refine lw_v (.int .i64 (((i : Int)) + 1)) (dv_add (a := (i : Int)) (b := 1) (z := ((i : Int)) + 1) (T rfl rfl) C (wr_i64 (by omega) (by omega))) ?_
         refine lw_v (.int .i64 (((i : Int)) + 1)) (dv_assign (T rfl rfl)) ?_
         refine lw_nil ?_
         exact ih13 (L.length - ((i + 1))) _ _ (by rw [hd23]; omega) ⟨(i + 1), a, rfl, f16, f17, f18, (f19.trans (vi (by omega))), (vi (by omega)), E21, H22, (by omega), (by left; have h1 := fi_miss (c := 47) (L := L) (i := i) (by omega) (by omega) (by assumption); omega)⟩
     · refine rk_cf (T rfl (congrArg Value.bool (decide_eq_false hb25))) ?_
       refine rk_exit rfl ?_
       refine rk_seq ?_
       have hfa : a = fi 47 L := by omega
       subst hfa
       refine rk_reg ?_
       refine lw_v (.string (bOf L)) (dv_move (T rfl f16)) ?_
       refine lw_v (.int .i64 ((fi 47 L : Int))) (dv_move (T rfl f19)) ?_
       refine lw_v (.string (bOf (L.take (fi 47 L)))) (dv_sliceSh (L := L) (i := fi 47 L) (j := (fi 47 L : Int)) ut9 (T rfl rfl) (T rfl rfl) (by omega) (by first | omega | (simp; done) | (simp; omega))) ?_
       refine lw_e (oe_callf (vs := [.string (bOf (L.take (fi 47 L)))]) co23 (ar1 (T rfl rfl)) (sReadWide_ok (okW_take (hL) ((fi 47 L))) (by first | omega | (simp; omega) | (have h1_ := fi_le 47 L; simp; omega))) ?_)
       rintro _ w28 ⟨rfl, e29⟩
       have E30 := below_ext E21 E21.size e29
       refine lw_v (.tuple #[.agg #[.int .u64 (wv3 (rdZ (L.take (fi 47 L)))), .int .u64 (wv2 (rdZ (L.take (fi 47 L)))), .int .u64 (wv1 (rdZ (L.take (fi 47 L)))), .int .u64 (wv0 (rdZ (L.take (fi 47 L))))], .bool (decide (rdS (L.take (fi 47 L))))]) (dv_move (T rfl rfl)) ?_
       refine lw_v (.agg #[.int .u64 (wv3 (rdZ (L.take (fi 47 L)))), .int .u64 (wv2 (rdZ (L.take (fi 47 L)))), .int .u64 (wv1 (rdZ (L.take (fi 47 L)))), .int .u64 (wv0 (rdZ (L.take (fi 47 L))))]) (dv_extract (vs := #[.agg #[.int .u64 (wv3 (rdZ (L.take (fi 47 L)))), .int .u64 (wv2 (rdZ (L.take (fi 47 L)))), .int .u64 (wv1 (rdZ (L.take (fi 47 L)))), .int .u64 (wv0 (rdZ (L.take (fi 47 L))))], .bool (decide (rdS (L.take (fi 47 L))))]) (T rfl rfl) rfl) ?_
       refine lw_v (.bool (decide (rdS (L.take (fi 47 L))))) (dv_extract (vs := #[.agg #[.int .u64 (wv3 (rdZ (L.take (fi 47 L)))), .int .u64 (wv2 (rdZ (L.take (fi 47 L)))), .int .u64 (wv1 (rdZ (L.take (fi 47 L)))), .int .u64 (wv0 (rdZ (L.take (fi 47 L))))], .bool (decide (rdS (L.take (fi 47 L))))]) (T rfl rfl) rfl) ?_
       refine lw_e (oe_alloc ze26 ?_)
       intro b31 w32 n33
       have N34 : w.heap.size ≤ b31 := n33.eq ▸ E30.size
       have H35 := (e29.blk H22)
       have : b1 < b31 := n33.eq ▸ lt_of_blk H35
       have E36 := below_ext E30 E30.size n33.ext
       refine lw_e (oe_store (v := .agg #[.int .u64 (wv3 (rdZ (L.take (fi 47 L)))), .int .u64 (wv2 (rdZ (L.take (fi 47 L)))), .int .u64 (wv1 (rdZ (L.take (fi 47 L)))), .int .u64 (wv0 (rdZ (L.take (fi 47 L))))]) (vs := [.int .u64 (wv3 (rdZ (L.take (fi 47 L)))), .int .u64 (wv2 (rdZ (L.take (fi 47 L)))), .int .u64 (wv1 (rdZ (L.take (fi 47 L)))), .int .u64 (wv0 (rdZ (L.take (fi 47 L))))]) (l := [.int .u64 (wv3 (rdZ (L.take (fi 47 L)))), .int .u64 (wv2 (rdZ (L.take (fi 47 L)))), .int .u64 (wv1 (rdZ (L.take (fi 47 L)))), .int .u64 (wv0 (rdZ (L.take (fi 47 L))))]) (T rfl rfl) (T rfl rfl) sz26 rfl rfl rfl n33.blk rfl ?_)
       intro w37 s38 H39
       have E40 := below_st E36 N34 s38
       refine lw_v (.bool (decide (rdS (L.take (fi 47 L))))) (dv_assign (T rfl rfl)) ?_
       refine lw_nil ?_
       refine rk_seq ?_
       refine rk_reg ?_
       refine lw_e (oe_callf (vs := [.int .i64 1]) co60 (ar1 C) (sWideOf_ok (x := 1)  (by omega)) ?_)
       rintro _ w41 ⟨rfl, e42⟩
       have E43 := below_ext E40 E40.size e42
       refine lw_e (oe_alloc ze26 ?_)
       intro b44 w45 n46
       have N47 : w.heap.size ≤ b44 := n46.eq ▸ E43.size
       have H48 := (e42.blk H39)
       have : b31 < b44 := n46.eq ▸ lt_of_blk H48
       have E49 := below_ext E43 E43.size n46.ext
       refine lw_e (oe_store (v := .agg #[.int .u64 (wv3 (1 : Int)), .int .u64 (wv2 (1 : Int)), .int .u64 (wv1 (1 : Int)), .int .u64 (wv0 (1 : Int))]) (vs := [.int .u64 (wv3 (1 : Int)), .int .u64 (wv2 (1 : Int)), .int .u64 (wv1 (1 : Int)), .int .u64 (wv0 (1 : Int))]) (l := [.int .u64 (wv3 (1 : Int)), .int .u64 (wv2 (1 : Int)), .int .u64 (wv1 (1 : Int)), .int .u64 (wv0 (1 : Int))]) (T rfl rfl) (T rfl rfl) sz26 rfl rfl rfl n46.blk rfl ?_)
       intro w50 s51 H52
       have E53 := below_st E49 N47 s51
       refine lw_nil ?_
       refine rk_seq ?_
       refine rk_reg ?_
       refine lw_v (.bool true) (dv_assign C) ?_
       refine lw_nil ?_
       refine rk_seq ?_
       refine rk_seq ?_
       refine rk_reg ?_
       refine lw_v (.int .i64 ((fi 47 L : Int))) (dv_move (T rfl f19)) ?_
       refine lw_v (.string (bOf L)) (dv_move (T rfl f16)) ?_
       refine lw_v (.int .i64 ((L.length : Int))) (dv_lenS (L := L) ut9 (T rfl rfl)) ?_
       refine lw_v (.bool (decide (((fi 47 L : Int)) < ((L.length : Int))))) (dv_lss (a := (fi 47 L : Int)) (b := (L.length : Int)) (T rfl rfl) (T rfl rfl)) ?_
       refine lw_nil ?_
       by_cases hb54 : ((fi 47 L : Int)) < ((L.length : Int))
       · refine rk_ct (T rfl (congrArg Value.bool (decide_eq_true hb54))) ?_
         refine rk_reg ?_
         refine lw_v (.string (bOf L)) (dv_move (T rfl f16)) ?_
         refine lw_v (.int .i64 ((fi 47 L : Int))) (dv_move (T rfl f19)) ?_
         refine lw_v (.int .i64 (((fi 47 L : Int)) + 1)) (dv_add (a := (fi 47 L : Int)) (b := 1) (z := ((fi 47 L : Int)) + 1) (T rfl rfl) C (wr_i64 (by omega) (by omega))) ?_
         refine lw_v (.string (bOf (L.drop (((fi 47 L) + 1))))) (dv_sliceSl (L := L) (i := ((fi 47 L) + 1)) (j := ((fi 47 L : Int)) + 1) ut9 (T rfl rfl) (T rfl rfl) (by omega) (by first | omega | (simp; done) | (simp; omega))) ?_
         refine lw_e (oe_callf (vs := [.string (bOf (L.drop (((fi 47 L) + 1))))]) co23 (ar1 (T rfl rfl)) (sReadWide_ok (okW_drop (hL) ((((fi 47 L) + 1)))) (by first | omega | (simp; omega) | (have h1_ := fi_le 47 L; simp; omega))) ?_)
         rintro _ w55 ⟨rfl, e56⟩
         have E57 := below_ext E53 E53.size e56
         refine lw_v (.tuple #[.agg #[.int .u64 (wv3 (rdZ (L.drop (((fi 47 L) + 1))))), .int .u64 (wv2 (rdZ (L.drop (((fi 47 L) + 1))))), .int .u64 (wv1 (rdZ (L.drop (((fi 47 L) + 1))))), .int .u64 (wv0 (rdZ (L.drop (((fi 47 L) + 1)))))], .bool (decide (rdS (L.drop (((fi 47 L) + 1)))))]) (dv_move (T rfl rfl)) ?_
         refine lw_v (.agg #[.int .u64 (wv3 (rdZ (L.drop (((fi 47 L) + 1))))), .int .u64 (wv2 (rdZ (L.drop (((fi 47 L) + 1))))), .int .u64 (wv1 (rdZ (L.drop (((fi 47 L) + 1))))), .int .u64 (wv0 (rdZ (L.drop (((fi 47 L) + 1)))))]) (dv_extract (vs := #[.agg #[.int .u64 (wv3 (rdZ (L.drop (((fi 47 L) + 1))))), .int .u64 (wv2 (rdZ (L.drop (((fi 47 L) + 1))))), .int .u64 (wv1 (rdZ (L.drop (((fi 47 L) + 1))))), .int .u64 (wv0 (rdZ (L.drop (((fi 47 L) + 1)))))], .bool (decide (rdS (L.drop (((fi 47 L) + 1)))))]) (T rfl rfl) rfl) ?_
         refine lw_v (.bool (decide (rdS (L.drop (((fi 47 L) + 1)))))) (dv_extract (vs := #[.agg #[.int .u64 (wv3 (rdZ (L.drop (((fi 47 L) + 1))))), .int .u64 (wv2 (rdZ (L.drop (((fi 47 L) + 1))))), .int .u64 (wv1 (rdZ (L.drop (((fi 47 L) + 1))))), .int .u64 (wv0 (rdZ (L.drop (((fi 47 L) + 1)))))], .bool (decide (rdS (L.drop (((fi 47 L) + 1)))))]) (T rfl rfl) rfl) ?_
         have H58 := (e56.blk H52)
         refine lw_e (oe_store (v := .agg #[.int .u64 (wv3 (rdZ (L.drop (((fi 47 L) + 1))))), .int .u64 (wv2 (rdZ (L.drop (((fi 47 L) + 1))))), .int .u64 (wv1 (rdZ (L.drop (((fi 47 L) + 1))))), .int .u64 (wv0 (rdZ (L.drop (((fi 47 L) + 1)))))]) (vs := [.int .u64 (wv3 (rdZ (L.drop (((fi 47 L) + 1))))), .int .u64 (wv2 (rdZ (L.drop (((fi 47 L) + 1))))), .int .u64 (wv1 (rdZ (L.drop (((fi 47 L) + 1))))), .int .u64 (wv0 (rdZ (L.drop (((fi 47 L) + 1)))))]) (l := [.int .u64 (wv3 (rdZ (L.drop (((fi 47 L) + 1))))), .int .u64 (wv2 (rdZ (L.drop (((fi 47 L) + 1))))), .int .u64 (wv1 (rdZ (L.drop (((fi 47 L) + 1))))), .int .u64 (wv0 (rdZ (L.drop (((fi 47 L) + 1)))))]) (T rfl rfl) (T rfl rfl) sz26 rfl rfl rfl H58 rfl ?_)
         intro w59 s60 H61
         have E62 := below_st E57 N47 s60
         refine lw_v (.bool (decide (rdS (L.drop (((fi 47 L) + 1)))))) (dv_assign (T rfl rfl)) ?_
         refine lw_nil ?_
         refine rk_seq ?_
         refine rk_reg ?_
         have H63 := (s60.blk (e56.blk (s51.blk (n46.ext.blk H48) (by omega))) (by omega))
         refine lw_v (.agg #[.int .u64 (wv3 (rdZ (L.take (fi 47 L)))), .int .u64 (wv2 (rdZ (L.take (fi 47 L)))), .int .u64 (wv1 (rdZ (L.take (fi 47 L)))), .int .u64 (wv0 (rdZ (L.take (fi 47 L))))]) (dv_loads (l := [.int .u64 (wv3 (rdZ (L.take (fi 47 L)))), .int .u64 (wv2 (rdZ (L.take (fi 47 L)))), .int .u64 (wv1 (rdZ (L.take (fi 47 L)))), .int .u64 (wv0 (rdZ (L.take (fi 47 L))))]) agt26 sz26 (T rfl rfl) H63 rfl) ?_
         refine lw_v (.agg #[.int .u64 (wv3 (rdZ (L.drop (((fi 47 L) + 1))))), .int .u64 (wv2 (rdZ (L.drop (((fi 47 L) + 1))))), .int .u64 (wv1 (rdZ (L.drop (((fi 47 L) + 1))))), .int .u64 (wv0 (rdZ (L.drop (((fi 47 L) + 1)))))]) (dv_loads (l := [.int .u64 (wv3 (rdZ (L.drop (((fi 47 L) + 1))))), .int .u64 (wv2 (rdZ (L.drop (((fi 47 L) + 1))))), .int .u64 (wv1 (rdZ (L.drop (((fi 47 L) + 1))))), .int .u64 (wv0 (rdZ (L.drop (((fi 47 L) + 1)))))]) agt26 sz26 (T rfl rfl) H61 rfl) ?_
         refine lw_v (.agg #[.int .u64 (wv3 (rdZ (L.take (fi 47 L)))), .int .u64 (wv2 (rdZ (L.take (fi 47 L)))), .int .u64 (wv1 (rdZ (L.take (fi 47 L)))), .int .u64 (wv0 (rdZ (L.take (fi 47 L)))), .int .u64 (wv3 (rdZ (L.drop (((fi 47 L) + 1))))), .int .u64 (wv2 (rdZ (L.drop (((fi 47 L) + 1))))), .int .u64 (wv1 (rdZ (L.drop (((fi 47 L) + 1))))), .int .u64 (wv0 (rdZ (L.drop (((fi 47 L) + 1)))))]) (dv_build (pv := [(0, .agg #[.int .u64 (wv3 (rdZ (L.take (fi 47 L)))), .int .u64 (wv2 (rdZ (L.take (fi 47 L)))), .int .u64 (wv1 (rdZ (L.take (fi 47 L)))), .int .u64 (wv0 (rdZ (L.take (fi 47 L))))]), (1, .agg #[.int .u64 (wv3 (rdZ (L.drop (((fi 47 L) + 1))))), .int .u64 (wv2 (rdZ (L.drop (((fi 47 L) + 1))))), .int .u64 (wv1 (rdZ (L.drop (((fi 47 L) + 1))))), .int .u64 (wv0 (rdZ (L.drop (((fi 47 L) + 1)))))])]) (l := [.int .u64 (wv3 (rdZ (L.take (fi 47 L)))), .int .u64 (wv2 (rdZ (L.take (fi 47 L)))), .int .u64 (wv1 (rdZ (L.take (fi 47 L)))), .int .u64 (wv0 (rdZ (L.take (fi 47 L)))), .int .u64 (wv3 (rdZ (L.drop (((fi 47 L) + 1))))), .int .u64 (wv2 (rdZ (L.drop (((fi 47 L) + 1))))), .int .u64 (wv1 (rdZ (L.drop (((fi 47 L) + 1))))), .int .u64 (wv0 (rdZ (L.drop (((fi 47 L) + 1)))))]) zc44 pl44 ⟨rfl, (T rfl rfl), ⟨rfl, (T rfl rfl), trivial⟩⟩ rfl) ?_
         refine lw_e (oe_alloc ze44 ?_)
         intro b64 w65 n66
         have N67 : w.heap.size ≤ b64 := n66.eq ▸ E62.size
         have : b44 < b64 := n66.eq ▸ lt_of_blk H61
         have E68 := below_ext E62 E62.size n66.ext
         refine lw_e (oe_store (v := .agg #[.int .u64 (wv3 (rdZ (L.take (fi 47 L)))), .int .u64 (wv2 (rdZ (L.take (fi 47 L)))), .int .u64 (wv1 (rdZ (L.take (fi 47 L)))), .int .u64 (wv0 (rdZ (L.take (fi 47 L)))), .int .u64 (wv3 (rdZ (L.drop (((fi 47 L) + 1))))), .int .u64 (wv2 (rdZ (L.drop (((fi 47 L) + 1))))), .int .u64 (wv1 (rdZ (L.drop (((fi 47 L) + 1))))), .int .u64 (wv0 (rdZ (L.drop (((fi 47 L) + 1)))))]) (vs := [.int .u64 (wv3 (rdZ (L.take (fi 47 L)))), .int .u64 (wv2 (rdZ (L.take (fi 47 L)))), .int .u64 (wv1 (rdZ (L.take (fi 47 L)))), .int .u64 (wv0 (rdZ (L.take (fi 47 L)))), .int .u64 (wv3 (rdZ (L.drop (((fi 47 L) + 1))))), .int .u64 (wv2 (rdZ (L.drop (((fi 47 L) + 1))))), .int .u64 (wv1 (rdZ (L.drop (((fi 47 L) + 1))))), .int .u64 (wv0 (rdZ (L.drop (((fi 47 L) + 1)))))]) (l := [.int .u64 (wv3 (rdZ (L.take (fi 47 L)))), .int .u64 (wv2 (rdZ (L.take (fi 47 L)))), .int .u64 (wv1 (rdZ (L.take (fi 47 L)))), .int .u64 (wv0 (rdZ (L.take (fi 47 L)))), .int .u64 (wv3 (rdZ (L.drop (((fi 47 L) + 1))))), .int .u64 (wv2 (rdZ (L.drop (((fi 47 L) + 1))))), .int .u64 (wv1 (rdZ (L.drop (((fi 47 L) + 1))))), .int .u64 (wv0 (rdZ (L.drop (((fi 47 L) + 1)))))]) (T rfl rfl) (T rfl rfl) sz44 rfl rfl rfl n66.blk rfl ?_)
         intro w69 s70 H71
         have E72 := below_st E68 N67 s70
         refine lw_nil ?_
         refine rk_seq ?_
         refine rk_seq ?_
         refine rk_reg ?_
         refine lw_v (.bool (decide (rdS (L.take (fi 47 L))))) (dv_move (T rfl rfl)) ?_
         refine lw_v (.bool (decide (¬ (rdS (L.take (fi 47 L)))))) (dv_notd (p := rdS (L.take (fi 47 L))) (T rfl rfl)) ?_
         refine lw_v (.bool (decide (¬ (rdS (L.take (fi 47 L)))))) (dv_move (T rfl rfl)) ?_
         by_cases hb73 : rdS (L.take (fi 47 L))
         · refine lw_vy (.bool (decide (rdS (L.drop (((fi 47 L) + 1)))))) (d := 59) rfl rfl (congrArg Value.bool (decide_eq_false (not_not_intro hb73))) (dv_move (T rfl rfl)) ?_
           refine lw_vy (.bool (decide (¬ (rdS (L.drop (((fi 47 L) + 1))))))) (d := 59) rfl rfl (congrArg Value.bool (decide_eq_false (not_not_intro hb73))) (dv_notd (p := rdS (L.drop (((fi 47 L) + 1)))) (T rfl rfl)) ?_
           refine lw_v (.bool (decide (¬ (rdS (L.drop (((fi 47 L) + 1))))))) (dv_pick_f (T rfl (congrArg Value.bool (decide_eq_false (not_not_intro hb73)))) (T rfl rfl)) ?_
           refine lw_v (.bool (decide (¬ (rdS (L.drop (((fi 47 L) + 1))))))) (dv_move (T rfl rfl)) ?_
           by_cases hb74 : rdS (L.drop (((fi 47 L) + 1)))
           · refine lw_vy (.agg #[.int .u64 (wv3 (rdZ (L.take (fi 47 L)))), .int .u64 (wv2 (rdZ (L.take (fi 47 L)))), .int .u64 (wv1 (rdZ (L.take (fi 47 L)))), .int .u64 (wv0 (rdZ (L.take (fi 47 L)))), .int .u64 (wv3 (rdZ (L.drop (((fi 47 L) + 1))))), .int .u64 (wv2 (rdZ (L.drop (((fi 47 L) + 1))))), .int .u64 (wv1 (rdZ (L.drop (((fi 47 L) + 1))))), .int .u64 (wv0 (rdZ (L.drop (((fi 47 L) + 1)))))]) (d := 63) rfl rfl (congrArg Value.bool (decide_eq_false (not_not_intro hb74))) (dv_loads (l := [.int .u64 (wv3 (rdZ (L.take (fi 47 L)))), .int .u64 (wv2 (rdZ (L.take (fi 47 L)))), .int .u64 (wv1 (rdZ (L.take (fi 47 L)))), .int .u64 (wv0 (rdZ (L.take (fi 47 L)))), .int .u64 (wv3 (rdZ (L.drop (((fi 47 L) + 1))))), .int .u64 (wv2 (rdZ (L.drop (((fi 47 L) + 1))))), .int .u64 (wv1 (rdZ (L.drop (((fi 47 L) + 1))))), .int .u64 (wv0 (rdZ (L.drop (((fi 47 L) + 1)))))]) agt44 sz44 (T rfl rfl) H71 rfl) ?_
             refine lw_ey (d := 63) rfl rfl (congrArg Value.bool (decide_eq_false (not_not_intro hb74))) (oe_callf (vs := [.agg #[.int .u64 (wv3 (rdZ (L.take (fi 47 L)))), .int .u64 (wv2 (rdZ (L.take (fi 47 L)))), .int .u64 (wv1 (rdZ (L.take (fi 47 L)))), .int .u64 (wv0 (rdZ (L.take (fi 47 L)))), .int .u64 (wv3 (rdZ (L.drop (((fi 47 L) + 1))))), .int .u64 (wv2 (rdZ (L.drop (((fi 47 L) + 1))))), .int .u64 (wv1 (rdZ (L.drop (((fi 47 L) + 1))))), .int .u64 (wv0 (rdZ (L.drop (((fi 47 L) + 1)))))]]) co70 (ar1 (T rfl rfl)) (sRatioText_ok (x := rdZ (L.take (fi 47 L))) (y := rdZ (L.drop (((fi 47 L) + 1)))) (rdZ_f _) (rdZ_f _) ) ?_)
             rintro _ w75 ⟨rfl, e76⟩
             have E77 := below_ext E72 E72.size e76
             refine lw_vy (.string (bOf L)) (d := 63) rfl rfl (congrArg Value.bool (decide_eq_false (not_not_intro hb74))) (dv_move (T rfl f16)) ?_
             refine lw_vy (.bool (decide ((((rTxt (rdZ (L.take (fi 47 L))) (rdZ (L.drop (((fi 47 L) + 1)))))) : List Int) ≠ L))) (d := 63) rfl rfl (congrArg Value.bool (decide_eq_false (not_not_intro hb74))) (dv_neS (L := (rTxt (rdZ (L.take (fi 47 L))) (rdZ (L.drop (((fi 47 L) + 1)))))) (M := L) (T rfl rfl) (T rfl rfl) ((okC_rTxt _ _)) ((hL))) ?_
             refine lw_v (.bool (decide ((((rTxt (rdZ (L.take (fi 47 L))) (rdZ (L.drop (((fi 47 L) + 1)))))) : List Int) ≠ L))) (dv_pick_f (T rfl (congrArg Value.bool (decide_eq_false (not_not_intro hb74)))) (T rfl rfl)) ?_
             refine lw_nil ?_
             by_cases hb78 : (((rTxt (rdZ (L.take (fi 47 L))) (rdZ (L.drop (((fi 47 L) + 1)))))) : List Int) ≠ L
             · refine rk_ct (T rfl (congrArg Value.bool (decide_eq_true hb78))) ?_
               refine rk_seq ?_
               refine rk_reg ?_
               refine lw_v (.agg #[.int .u64 0, .int .u64 0, .int .u64 0, .int .u64 0, .int .u64 0, .int .u64 0, .int .u64 0, .int .u64 0]) (dv_build (pv := []) (l := [.int .u64 0, .int .u64 0, .int .u64 0, .int .u64 0, .int .u64 0, .int .u64 0, .int .u64 0, .int .u64 0]) zc44 pl44 trivial rfl) ?_
               have H79 := (e76.blk (s70.blk (n66.ext.blk (s60.blk (e56.blk (s51.blk (n46.ext.blk (e42.blk (s38.blk (n33.ext.blk H35) (by omega)))) (by omega))) (by omega))) (by omega)))
               refine lw_e (oe_store (v := .agg #[.int .u64 0, .int .u64 0, .int .u64 0, .int .u64 0, .int .u64 0, .int .u64 0, .int .u64 0, .int .u64 0]) (vs := [.int .u64 0, .int .u64 0, .int .u64 0, .int .u64 0, .int .u64 0, .int .u64 0, .int .u64 0, .int .u64 0]) (l := [.int .u64 0, .int .u64 0, .int .u64 0, .int .u64 0, .int .u64 0, .int .u64 0, .int .u64 0, .int .u64 0]) (T rfl f17) (T rfl rfl) sz44 rfl rfl rfl H79 rfl ?_)
               intro w80 s81 H82
               have E83 := below_st E77 N4 s81
               refine lw_v (.bool false) (dv_assign C) ?_
               refine lw_nil ?_
               refine rk_ret Try.func37 (v := .tuple #[.agg #[.int .u64 0, .int .u64 0, .int .u64 0, .int .u64 0, .int .u64 0, .int .u64 0, .int .u64 0, .int .u64 0], .bool false]) (res2 Try.results37 (rv_cells (l := [.int .u64 0, .int .u64 0, .int .u64 0, .int .u64 0, .int .u64 0, .int .u64 0, .int .u64 0, .int .u64 0]) agt44 sz44 rfl f17 H82 rfl) (rv_tmp rfl rfl)) ⟨_, rfl, ?_⟩
               have hS : ¬ rrS L := fun hh => by first | exact absurd hh.1 (by assumption) | exact absurd (hh.2.1 (by omega)) (by assumption) | (have h3 := hh.2.2; unfold rrU at h3; first | (rw [rrD_t (by omega)] at h3; exact absurd h3 (by assumption)) | (rw [rrD_n (by omega)] at h3; exact absurd h3 (by assumption)))
               exact ⟨(tu2 (ag8 (vi (wf3 hS)) (vi (wf2 hS)) (vi (wf1 hS)) (vi (wf0 hS)) (vi (wf3 hS)) (vi (wf2 hS)) (vi (wf1 hS)) (vi (wf0 hS))) (vf hS)), E83⟩
             · refine rk_cf (T rfl (congrArg Value.bool (decide_eq_false hb78))) ?_
               refine rk_skip ?_
               refine rk_seq ?_
               refine rk_reg ?_
               have H84 := (e76.blk H71)
               refine lw_v (.agg #[.int .u64 (wv3 (rdZ (L.take (fi 47 L)))), .int .u64 (wv2 (rdZ (L.take (fi 47 L)))), .int .u64 (wv1 (rdZ (L.take (fi 47 L)))), .int .u64 (wv0 (rdZ (L.take (fi 47 L)))), .int .u64 (wv3 (rdZ (L.drop (((fi 47 L) + 1))))), .int .u64 (wv2 (rdZ (L.drop (((fi 47 L) + 1))))), .int .u64 (wv1 (rdZ (L.drop (((fi 47 L) + 1))))), .int .u64 (wv0 (rdZ (L.drop (((fi 47 L) + 1)))))]) (dv_loads (l := [.int .u64 (wv3 (rdZ (L.take (fi 47 L)))), .int .u64 (wv2 (rdZ (L.take (fi 47 L)))), .int .u64 (wv1 (rdZ (L.take (fi 47 L)))), .int .u64 (wv0 (rdZ (L.take (fi 47 L)))), .int .u64 (wv3 (rdZ (L.drop (((fi 47 L) + 1))))), .int .u64 (wv2 (rdZ (L.drop (((fi 47 L) + 1))))), .int .u64 (wv1 (rdZ (L.drop (((fi 47 L) + 1))))), .int .u64 (wv0 (rdZ (L.drop (((fi 47 L) + 1)))))]) agt44 sz44 (T rfl rfl) H84 rfl) ?_
               have H85 := (e76.blk (s70.blk (n66.ext.blk (s60.blk (e56.blk (s51.blk (n46.ext.blk (e42.blk (s38.blk (n33.ext.blk H35) (by omega)))) (by omega))) (by omega))) (by omega)))
               refine lw_e (oe_store (v := .agg #[.int .u64 (wv3 (rdZ (L.take (fi 47 L)))), .int .u64 (wv2 (rdZ (L.take (fi 47 L)))), .int .u64 (wv1 (rdZ (L.take (fi 47 L)))), .int .u64 (wv0 (rdZ (L.take (fi 47 L)))), .int .u64 (wv3 (rdZ (L.drop (((fi 47 L) + 1))))), .int .u64 (wv2 (rdZ (L.drop (((fi 47 L) + 1))))), .int .u64 (wv1 (rdZ (L.drop (((fi 47 L) + 1))))), .int .u64 (wv0 (rdZ (L.drop (((fi 47 L) + 1)))))]) (vs := [.int .u64 (wv3 (rdZ (L.take (fi 47 L)))), .int .u64 (wv2 (rdZ (L.take (fi 47 L)))), .int .u64 (wv1 (rdZ (L.take (fi 47 L)))), .int .u64 (wv0 (rdZ (L.take (fi 47 L)))), .int .u64 (wv3 (rdZ (L.drop (((fi 47 L) + 1))))), .int .u64 (wv2 (rdZ (L.drop (((fi 47 L) + 1))))), .int .u64 (wv1 (rdZ (L.drop (((fi 47 L) + 1))))), .int .u64 (wv0 (rdZ (L.drop (((fi 47 L) + 1)))))]) (l := [.int .u64 (wv3 (rdZ (L.take (fi 47 L)))), .int .u64 (wv2 (rdZ (L.take (fi 47 L)))), .int .u64 (wv1 (rdZ (L.take (fi 47 L)))), .int .u64 (wv0 (rdZ (L.take (fi 47 L)))), .int .u64 (wv3 (rdZ (L.drop (((fi 47 L) + 1))))), .int .u64 (wv2 (rdZ (L.drop (((fi 47 L) + 1))))), .int .u64 (wv1 (rdZ (L.drop (((fi 47 L) + 1))))), .int .u64 (wv0 (rdZ (L.drop (((fi 47 L) + 1)))))]) (T rfl f17) (T rfl rfl) sz44 rfl rfl rfl H85 rfl ?_)
               intro w86 s87 H88
               have E89 := below_st E77 N4 s87
               refine lw_v (.bool true) (dv_assign C) ?_
               refine lw_nil ?_
               refine rk_ret Try.func37 (v := .tuple #[.agg #[.int .u64 (wv3 (rdZ (L.take (fi 47 L)))), .int .u64 (wv2 (rdZ (L.take (fi 47 L)))), .int .u64 (wv1 (rdZ (L.take (fi 47 L)))), .int .u64 (wv0 (rdZ (L.take (fi 47 L)))), .int .u64 (wv3 (rdZ (L.drop (((fi 47 L) + 1))))), .int .u64 (wv2 (rdZ (L.drop (((fi 47 L) + 1))))), .int .u64 (wv1 (rdZ (L.drop (((fi 47 L) + 1))))), .int .u64 (wv0 (rdZ (L.drop (((fi 47 L) + 1)))))], .bool true]) (res2 Try.results37 (rv_cells (l := [.int .u64 (wv3 (rdZ (L.take (fi 47 L)))), .int .u64 (wv2 (rdZ (L.take (fi 47 L)))), .int .u64 (wv1 (rdZ (L.take (fi 47 L)))), .int .u64 (wv0 (rdZ (L.take (fi 47 L)))), .int .u64 (wv3 (rdZ (L.drop (((fi 47 L) + 1))))), .int .u64 (wv2 (rdZ (L.drop (((fi 47 L) + 1))))), .int .u64 (wv1 (rdZ (L.drop (((fi 47 L) + 1))))), .int .u64 (wv0 (rdZ (L.drop (((fi 47 L) + 1)))))]) agt44 sz44 rfl f17 H88 rfl) (rv_tmp rfl rfl)) ⟨_, rfl, ?_⟩
               have hd : rrD L = rdZ (L.drop (((fi 47 L) + 1))) := rrD_t (by omega)
               have hS : rrS L := ⟨by assumption, fun hh => by first | assumption | (exfalso; omega), by unfold rrU; rw [hd]; first | assumption | exact Decidable.not_not.1 (by assumption)⟩
               exact ⟨(tu2 (ag8 (vi (congrArg wv3 (pkz_t hS).symm)) (vi (congrArg wv2 (pkz_t hS).symm)) (vi (congrArg wv1 (pkz_t hS).symm)) (vi (congrArg wv0 (pkz_t hS).symm)) (vi (congrArg wv3 ((pkz_t hS).trans hd).symm)) (vi (congrArg wv2 ((pkz_t hS).trans hd).symm)) (vi (congrArg wv1 ((pkz_t hS).trans hd).symm)) (vi (congrArg wv0 ((pkz_t hS).trans hd).symm))) (vt hS)), E89⟩
           · refine lw_no (d := 63) rfl rfl (congrArg Value.bool (decide_eq_true hb74)) ?_
             refine lw_no (d := 63) rfl rfl (congrArg Value.bool (decide_eq_true hb74)) ?_
             refine lw_no (d := 63) rfl rfl (congrArg Value.bool (decide_eq_true hb74)) ?_
             refine lw_no (d := 63) rfl rfl (congrArg Value.bool (decide_eq_true hb74)) ?_
             refine lw_v (.bool true) (dv_pick_t (T rfl (congrArg Value.bool (decide_eq_true hb74))) C) ?_
             refine lw_nil ?_
             refine rk_ct (T rfl rfl) ?_
             refine rk_seq ?_
             refine rk_reg ?_
             refine lw_v (.agg #[.int .u64 0, .int .u64 0, .int .u64 0, .int .u64 0, .int .u64 0, .int .u64 0, .int .u64 0, .int .u64 0]) (dv_build (pv := []) (l := [.int .u64 0, .int .u64 0, .int .u64 0, .int .u64 0, .int .u64 0, .int .u64 0, .int .u64 0, .int .u64 0]) zc44 pl44 trivial rfl) ?_
             have H90 := (s70.blk (n66.ext.blk (s60.blk (e56.blk (s51.blk (n46.ext.blk (e42.blk (s38.blk (n33.ext.blk H35) (by omega)))) (by omega))) (by omega))) (by omega))
             refine lw_e (oe_store (v := .agg #[.int .u64 0, .int .u64 0, .int .u64 0, .int .u64 0, .int .u64 0, .int .u64 0, .int .u64 0, .int .u64 0]) (vs := [.int .u64 0, .int .u64 0, .int .u64 0, .int .u64 0, .int .u64 0, .int .u64 0, .int .u64 0, .int .u64 0]) (l := [.int .u64 0, .int .u64 0, .int .u64 0, .int .u64 0, .int .u64 0, .int .u64 0, .int .u64 0, .int .u64 0]) (T rfl f17) (T rfl rfl) sz44 rfl rfl rfl H90 rfl ?_)
             intro w91 s92 H93
             have E94 := below_st E72 N4 s92
             refine lw_v (.bool false) (dv_assign C) ?_
             refine lw_nil ?_
             refine rk_ret Try.func37 (v := .tuple #[.agg #[.int .u64 0, .int .u64 0, .int .u64 0, .int .u64 0, .int .u64 0, .int .u64 0, .int .u64 0, .int .u64 0], .bool false]) (res2 Try.results37 (rv_cells (l := [.int .u64 0, .int .u64 0, .int .u64 0, .int .u64 0, .int .u64 0, .int .u64 0, .int .u64 0, .int .u64 0]) agt44 sz44 rfl f17 H93 rfl) (rv_tmp rfl rfl)) ⟨_, rfl, ?_⟩
             have hS : ¬ rrS L := fun hh => by first | exact absurd hh.1 (by assumption) | exact absurd (hh.2.1 (by omega)) (by assumption) | (have h3 := hh.2.2; unfold rrU at h3; first | (rw [rrD_t (by omega)] at h3; exact absurd h3 (by assumption)) | (rw [rrD_n (by omega)] at h3; exact absurd h3 (by assumption)))
             exact ⟨(tu2 (ag8 (vi (wf3 hS)) (vi (wf2 hS)) (vi (wf1 hS)) (vi (wf0 hS)) (vi (wf3 hS)) (vi (wf2 hS)) (vi (wf1 hS)) (vi (wf0 hS))) (vf hS)), E94⟩
         · refine lw_no (d := 59) rfl rfl (congrArg Value.bool (decide_eq_true hb73)) ?_
           refine lw_no (d := 59) rfl rfl (congrArg Value.bool (decide_eq_true hb73)) ?_
           refine lw_v (.bool true) (dv_pick_t (T rfl (congrArg Value.bool (decide_eq_true hb73))) C) ?_
           refine lw_v (.bool true) (dv_move (T rfl rfl)) ?_
           refine lw_no (d := 63) rfl rfl (rfl) ?_
           refine lw_no (d := 63) rfl rfl (rfl) ?_
           refine lw_no (d := 63) rfl rfl (rfl) ?_
           refine lw_no (d := 63) rfl rfl (rfl) ?_
           refine lw_v (.bool true) (dv_pick_t (T rfl rfl) C) ?_
           refine lw_nil ?_
           refine rk_ct (T rfl rfl) ?_
           refine rk_seq ?_
           refine rk_reg ?_
           refine lw_v (.agg #[.int .u64 0, .int .u64 0, .int .u64 0, .int .u64 0, .int .u64 0, .int .u64 0, .int .u64 0, .int .u64 0]) (dv_build (pv := []) (l := [.int .u64 0, .int .u64 0, .int .u64 0, .int .u64 0, .int .u64 0, .int .u64 0, .int .u64 0, .int .u64 0]) zc44 pl44 trivial rfl) ?_
           have H95 := (s70.blk (n66.ext.blk (s60.blk (e56.blk (s51.blk (n46.ext.blk (e42.blk (s38.blk (n33.ext.blk H35) (by omega)))) (by omega))) (by omega))) (by omega))
           refine lw_e (oe_store (v := .agg #[.int .u64 0, .int .u64 0, .int .u64 0, .int .u64 0, .int .u64 0, .int .u64 0, .int .u64 0, .int .u64 0]) (vs := [.int .u64 0, .int .u64 0, .int .u64 0, .int .u64 0, .int .u64 0, .int .u64 0, .int .u64 0, .int .u64 0]) (l := [.int .u64 0, .int .u64 0, .int .u64 0, .int .u64 0, .int .u64 0, .int .u64 0, .int .u64 0, .int .u64 0]) (T rfl f17) (T rfl rfl) sz44 rfl rfl rfl H95 rfl ?_)
           intro w96 s97 H98
           have E99 := below_st E72 N4 s97
           refine lw_v (.bool false) (dv_assign C) ?_
           refine lw_nil ?_
           refine rk_ret Try.func37 (v := .tuple #[.agg #[.int .u64 0, .int .u64 0, .int .u64 0, .int .u64 0, .int .u64 0, .int .u64 0, .int .u64 0, .int .u64 0], .bool false]) (res2 Try.results37 (rv_cells (l := [.int .u64 0, .int .u64 0, .int .u64 0, .int .u64 0, .int .u64 0, .int .u64 0, .int .u64 0, .int .u64 0]) agt44 sz44 rfl f17 H98 rfl) (rv_tmp rfl rfl)) ⟨_, rfl, ?_⟩
           have hS : ¬ rrS L := fun hh => by first | exact absurd hh.1 (by assumption) | exact absurd (hh.2.1 (by omega)) (by assumption) | (have h3 := hh.2.2; unfold rrU at h3; first | (rw [rrD_t (by omega)] at h3; exact absurd h3 (by assumption)) | (rw [rrD_n (by omega)] at h3; exact absurd h3 (by assumption)))
           exact ⟨(tu2 (ag8 (vi (wf3 hS)) (vi (wf2 hS)) (vi (wf1 hS)) (vi (wf0 hS)) (vi (wf3 hS)) (vi (wf2 hS)) (vi (wf1 hS)) (vi (wf0 hS))) (vf hS)), E99⟩
       · refine rk_cf (T rfl (congrArg Value.bool (decide_eq_false hb54))) ?_
         refine rk_skip ?_
         refine rk_seq ?_
         refine rk_reg ?_
         have H100 := (s51.blk (n46.ext.blk H48) (by omega))
         refine lw_v (.agg #[.int .u64 (wv3 (rdZ (L.take (fi 47 L)))), .int .u64 (wv2 (rdZ (L.take (fi 47 L)))), .int .u64 (wv1 (rdZ (L.take (fi 47 L)))), .int .u64 (wv0 (rdZ (L.take (fi 47 L))))]) (dv_loads (l := [.int .u64 (wv3 (rdZ (L.take (fi 47 L)))), .int .u64 (wv2 (rdZ (L.take (fi 47 L)))), .int .u64 (wv1 (rdZ (L.take (fi 47 L)))), .int .u64 (wv0 (rdZ (L.take (fi 47 L))))]) agt26 sz26 (T rfl rfl) H100 rfl) ?_
         refine lw_v (.agg #[.int .u64 (wv3 (1 : Int)), .int .u64 (wv2 (1 : Int)), .int .u64 (wv1 (1 : Int)), .int .u64 (wv0 (1 : Int))]) (dv_loads (l := [.int .u64 (wv3 (1 : Int)), .int .u64 (wv2 (1 : Int)), .int .u64 (wv1 (1 : Int)), .int .u64 (wv0 (1 : Int))]) agt26 sz26 (T rfl rfl) H52 rfl) ?_
         refine lw_v (.agg #[.int .u64 (wv3 (rdZ (L.take (fi 47 L)))), .int .u64 (wv2 (rdZ (L.take (fi 47 L)))), .int .u64 (wv1 (rdZ (L.take (fi 47 L)))), .int .u64 (wv0 (rdZ (L.take (fi 47 L)))), .int .u64 (wv3 (1 : Int)), .int .u64 (wv2 (1 : Int)), .int .u64 (wv1 (1 : Int)), .int .u64 (wv0 (1 : Int))]) (dv_build (pv := [(0, .agg #[.int .u64 (wv3 (rdZ (L.take (fi 47 L)))), .int .u64 (wv2 (rdZ (L.take (fi 47 L)))), .int .u64 (wv1 (rdZ (L.take (fi 47 L)))), .int .u64 (wv0 (rdZ (L.take (fi 47 L))))]), (1, .agg #[.int .u64 (wv3 (1 : Int)), .int .u64 (wv2 (1 : Int)), .int .u64 (wv1 (1 : Int)), .int .u64 (wv0 (1 : Int))])]) (l := [.int .u64 (wv3 (rdZ (L.take (fi 47 L)))), .int .u64 (wv2 (rdZ (L.take (fi 47 L)))), .int .u64 (wv1 (rdZ (L.take (fi 47 L)))), .int .u64 (wv0 (rdZ (L.take (fi 47 L)))), .int .u64 (wv3 (1 : Int)), .int .u64 (wv2 (1 : Int)), .int .u64 (wv1 (1 : Int)), .int .u64 (wv0 (1 : Int))]) zc44 pl44 ⟨rfl, (T rfl rfl), ⟨rfl, (T rfl rfl), trivial⟩⟩ rfl) ?_
         refine lw_e (oe_alloc ze44 ?_)
         intro b101 w102 n103
         have N104 : w.heap.size ≤ b101 := n103.eq ▸ E53.size
         have : b44 < b101 := n103.eq ▸ lt_of_blk H52
         have E105 := below_ext E53 E53.size n103.ext
         refine lw_e (oe_store (v := .agg #[.int .u64 (wv3 (rdZ (L.take (fi 47 L)))), .int .u64 (wv2 (rdZ (L.take (fi 47 L)))), .int .u64 (wv1 (rdZ (L.take (fi 47 L)))), .int .u64 (wv0 (rdZ (L.take (fi 47 L)))), .int .u64 (wv3 (1 : Int)), .int .u64 (wv2 (1 : Int)), .int .u64 (wv1 (1 : Int)), .int .u64 (wv0 (1 : Int))]) (vs := [.int .u64 (wv3 (rdZ (L.take (fi 47 L)))), .int .u64 (wv2 (rdZ (L.take (fi 47 L)))), .int .u64 (wv1 (rdZ (L.take (fi 47 L)))), .int .u64 (wv0 (rdZ (L.take (fi 47 L)))), .int .u64 (wv3 (1 : Int)), .int .u64 (wv2 (1 : Int)), .int .u64 (wv1 (1 : Int)), .int .u64 (wv0 (1 : Int))]) (l := [.int .u64 (wv3 (rdZ (L.take (fi 47 L)))), .int .u64 (wv2 (rdZ (L.take (fi 47 L)))), .int .u64 (wv1 (rdZ (L.take (fi 47 L)))), .int .u64 (wv0 (rdZ (L.take (fi 47 L)))), .int .u64 (wv3 (1 : Int)), .int .u64 (wv2 (1 : Int)), .int .u64 (wv1 (1 : Int)), .int .u64 (wv0 (1 : Int))]) (T rfl rfl) (T rfl rfl) sz44 rfl rfl rfl n103.blk rfl ?_)
         intro w106 s107 H108
         have E109 := below_st E105 N104 s107
         refine lw_nil ?_
         refine rk_seq ?_
         refine rk_seq ?_
         refine rk_reg ?_
         refine lw_v (.bool (decide (rdS (L.take (fi 47 L))))) (dv_move (T rfl rfl)) ?_
         refine lw_v (.bool (decide (¬ (rdS (L.take (fi 47 L)))))) (dv_notd (p := rdS (L.take (fi 47 L))) (T rfl rfl)) ?_
         refine lw_v (.bool (decide (¬ (rdS (L.take (fi 47 L)))))) (dv_move (T rfl rfl)) ?_
         by_cases hb110 : rdS (L.take (fi 47 L))
         · refine lw_vy (.bool true) (d := 59) rfl rfl (congrArg Value.bool (decide_eq_false (not_not_intro hb110))) (dv_move (T rfl rfl)) ?_
           refine lw_vy (.bool false) (d := 59) rfl rfl (congrArg Value.bool (decide_eq_false (not_not_intro hb110))) (dv_not (b := true) (T rfl rfl)) ?_
           refine lw_v (.bool false) (dv_pick_f (T rfl (congrArg Value.bool (decide_eq_false (not_not_intro hb110)))) (T rfl rfl)) ?_
           refine lw_v (.bool false) (dv_move (T rfl rfl)) ?_
           refine lw_vy (.agg #[.int .u64 (wv3 (rdZ (L.take (fi 47 L)))), .int .u64 (wv2 (rdZ (L.take (fi 47 L)))), .int .u64 (wv1 (rdZ (L.take (fi 47 L)))), .int .u64 (wv0 (rdZ (L.take (fi 47 L)))), .int .u64 (wv3 (1 : Int)), .int .u64 (wv2 (1 : Int)), .int .u64 (wv1 (1 : Int)), .int .u64 (wv0 (1 : Int))]) (d := 63) rfl rfl (rfl) (dv_loads (l := [.int .u64 (wv3 (rdZ (L.take (fi 47 L)))), .int .u64 (wv2 (rdZ (L.take (fi 47 L)))), .int .u64 (wv1 (rdZ (L.take (fi 47 L)))), .int .u64 (wv0 (rdZ (L.take (fi 47 L)))), .int .u64 (wv3 (1 : Int)), .int .u64 (wv2 (1 : Int)), .int .u64 (wv1 (1 : Int)), .int .u64 (wv0 (1 : Int))]) agt44 sz44 (T rfl rfl) H108 rfl) ?_
           refine lw_ey (d := 63) rfl rfl (rfl) (oe_callf (vs := [.agg #[.int .u64 (wv3 (rdZ (L.take (fi 47 L)))), .int .u64 (wv2 (rdZ (L.take (fi 47 L)))), .int .u64 (wv1 (rdZ (L.take (fi 47 L)))), .int .u64 (wv0 (rdZ (L.take (fi 47 L)))), .int .u64 (wv3 (1 : Int)), .int .u64 (wv2 (1 : Int)), .int .u64 (wv1 (1 : Int)), .int .u64 (wv0 (1 : Int))]]) co70 (ar1 (T rfl rfl)) (sRatioText_ok (x := rdZ (L.take (fi 47 L))) (y := 1) (rdZ_f _) (⟨by decide, by decide⟩ : fits 1) ) ?_)
           rintro _ w111 ⟨rfl, e112⟩
           have E113 := below_ext E109 E109.size e112
           refine lw_vy (.string (bOf L)) (d := 63) rfl rfl (rfl) (dv_move (T rfl f16)) ?_
           refine lw_vy (.bool (decide ((((rTxt (rdZ (L.take (fi 47 L))) (1 : Int))) : List Int) ≠ L))) (d := 63) rfl rfl (rfl) (dv_neS (L := (rTxt (rdZ (L.take (fi 47 L))) (1 : Int))) (M := L) (T rfl rfl) (T rfl rfl) ((okC_rTxt _ _)) ((hL))) ?_
           refine lw_v (.bool (decide ((((rTxt (rdZ (L.take (fi 47 L))) (1 : Int))) : List Int) ≠ L))) (dv_pick_f (T rfl rfl) (T rfl rfl)) ?_
           refine lw_nil ?_
           by_cases hb114 : (((rTxt (rdZ (L.take (fi 47 L))) (1 : Int))) : List Int) ≠ L
           · refine rk_ct (T rfl (congrArg Value.bool (decide_eq_true hb114))) ?_
             refine rk_seq ?_
             refine rk_reg ?_
             refine lw_v (.agg #[.int .u64 0, .int .u64 0, .int .u64 0, .int .u64 0, .int .u64 0, .int .u64 0, .int .u64 0, .int .u64 0]) (dv_build (pv := []) (l := [.int .u64 0, .int .u64 0, .int .u64 0, .int .u64 0, .int .u64 0, .int .u64 0, .int .u64 0, .int .u64 0]) zc44 pl44 trivial rfl) ?_
             have H115 := (e112.blk (s107.blk (n103.ext.blk (s51.blk (n46.ext.blk (e42.blk (s38.blk (n33.ext.blk H35) (by omega)))) (by omega))) (by omega)))
             refine lw_e (oe_store (v := .agg #[.int .u64 0, .int .u64 0, .int .u64 0, .int .u64 0, .int .u64 0, .int .u64 0, .int .u64 0, .int .u64 0]) (vs := [.int .u64 0, .int .u64 0, .int .u64 0, .int .u64 0, .int .u64 0, .int .u64 0, .int .u64 0, .int .u64 0]) (l := [.int .u64 0, .int .u64 0, .int .u64 0, .int .u64 0, .int .u64 0, .int .u64 0, .int .u64 0, .int .u64 0]) (T rfl f17) (T rfl rfl) sz44 rfl rfl rfl H115 rfl ?_)
             intro w116 s117 H118
             have E119 := below_st E113 N4 s117
             refine lw_v (.bool false) (dv_assign C) ?_
             refine lw_nil ?_
             refine rk_ret Try.func37 (v := .tuple #[.agg #[.int .u64 0, .int .u64 0, .int .u64 0, .int .u64 0, .int .u64 0, .int .u64 0, .int .u64 0, .int .u64 0], .bool false]) (res2 Try.results37 (rv_cells (l := [.int .u64 0, .int .u64 0, .int .u64 0, .int .u64 0, .int .u64 0, .int .u64 0, .int .u64 0, .int .u64 0]) agt44 sz44 rfl f17 H118 rfl) (rv_tmp rfl rfl)) ⟨_, rfl, ?_⟩
             have hS : ¬ rrS L := fun hh => by first | exact absurd hh.1 (by assumption) | exact absurd (hh.2.1 (by omega)) (by assumption) | (have h3 := hh.2.2; unfold rrU at h3; first | (rw [rrD_t (by omega)] at h3; exact absurd h3 (by assumption)) | (rw [rrD_n (by omega)] at h3; exact absurd h3 (by assumption)))
             exact ⟨(tu2 (ag8 (vi (wf3 hS)) (vi (wf2 hS)) (vi (wf1 hS)) (vi (wf0 hS)) (vi (wf3 hS)) (vi (wf2 hS)) (vi (wf1 hS)) (vi (wf0 hS))) (vf hS)), E119⟩
           · refine rk_cf (T rfl (congrArg Value.bool (decide_eq_false hb114))) ?_
             refine rk_skip ?_
             refine rk_seq ?_
             refine rk_reg ?_
             have H120 := (e112.blk H108)
             refine lw_v (.agg #[.int .u64 (wv3 (rdZ (L.take (fi 47 L)))), .int .u64 (wv2 (rdZ (L.take (fi 47 L)))), .int .u64 (wv1 (rdZ (L.take (fi 47 L)))), .int .u64 (wv0 (rdZ (L.take (fi 47 L)))), .int .u64 (wv3 (1 : Int)), .int .u64 (wv2 (1 : Int)), .int .u64 (wv1 (1 : Int)), .int .u64 (wv0 (1 : Int))]) (dv_loads (l := [.int .u64 (wv3 (rdZ (L.take (fi 47 L)))), .int .u64 (wv2 (rdZ (L.take (fi 47 L)))), .int .u64 (wv1 (rdZ (L.take (fi 47 L)))), .int .u64 (wv0 (rdZ (L.take (fi 47 L)))), .int .u64 (wv3 (1 : Int)), .int .u64 (wv2 (1 : Int)), .int .u64 (wv1 (1 : Int)), .int .u64 (wv0 (1 : Int))]) agt44 sz44 (T rfl rfl) H120 rfl) ?_
             have H121 := (e112.blk (s107.blk (n103.ext.blk (s51.blk (n46.ext.blk (e42.blk (s38.blk (n33.ext.blk H35) (by omega)))) (by omega))) (by omega)))
             refine lw_e (oe_store (v := .agg #[.int .u64 (wv3 (rdZ (L.take (fi 47 L)))), .int .u64 (wv2 (rdZ (L.take (fi 47 L)))), .int .u64 (wv1 (rdZ (L.take (fi 47 L)))), .int .u64 (wv0 (rdZ (L.take (fi 47 L)))), .int .u64 (wv3 (1 : Int)), .int .u64 (wv2 (1 : Int)), .int .u64 (wv1 (1 : Int)), .int .u64 (wv0 (1 : Int))]) (vs := [.int .u64 (wv3 (rdZ (L.take (fi 47 L)))), .int .u64 (wv2 (rdZ (L.take (fi 47 L)))), .int .u64 (wv1 (rdZ (L.take (fi 47 L)))), .int .u64 (wv0 (rdZ (L.take (fi 47 L)))), .int .u64 (wv3 (1 : Int)), .int .u64 (wv2 (1 : Int)), .int .u64 (wv1 (1 : Int)), .int .u64 (wv0 (1 : Int))]) (l := [.int .u64 (wv3 (rdZ (L.take (fi 47 L)))), .int .u64 (wv2 (rdZ (L.take (fi 47 L)))), .int .u64 (wv1 (rdZ (L.take (fi 47 L)))), .int .u64 (wv0 (rdZ (L.take (fi 47 L)))), .int .u64 (wv3 (1 : Int)), .int .u64 (wv2 (1 : Int)), .int .u64 (wv1 (1 : Int)), .int .u64 (wv0 (1 : Int))]) (T rfl f17) (T rfl rfl) sz44 rfl rfl rfl H121 rfl ?_)
             intro w122 s123 H124
             have E125 := below_st E113 N4 s123
             refine lw_v (.bool true) (dv_assign C) ?_
             refine lw_nil ?_
             refine rk_ret Try.func37 (v := .tuple #[.agg #[.int .u64 (wv3 (rdZ (L.take (fi 47 L)))), .int .u64 (wv2 (rdZ (L.take (fi 47 L)))), .int .u64 (wv1 (rdZ (L.take (fi 47 L)))), .int .u64 (wv0 (rdZ (L.take (fi 47 L)))), .int .u64 (wv3 (1 : Int)), .int .u64 (wv2 (1 : Int)), .int .u64 (wv1 (1 : Int)), .int .u64 (wv0 (1 : Int))], .bool true]) (res2 Try.results37 (rv_cells (l := [.int .u64 (wv3 (rdZ (L.take (fi 47 L)))), .int .u64 (wv2 (rdZ (L.take (fi 47 L)))), .int .u64 (wv1 (rdZ (L.take (fi 47 L)))), .int .u64 (wv0 (rdZ (L.take (fi 47 L)))), .int .u64 (wv3 (1 : Int)), .int .u64 (wv2 (1 : Int)), .int .u64 (wv1 (1 : Int)), .int .u64 (wv0 (1 : Int))]) agt44 sz44 rfl f17 H124 rfl) (rv_tmp rfl rfl)) ⟨_, rfl, ?_⟩
             have hd : rrD L = 1 := rrD_n (by omega)
             have hS : rrS L := ⟨by assumption, fun hh => by first | assumption | (exfalso; omega), by unfold rrU; rw [hd]; first | assumption | exact Decidable.not_not.1 (by assumption)⟩
             exact ⟨(tu2 (ag8 (vi (congrArg wv3 (pkz_t hS).symm)) (vi (congrArg wv2 (pkz_t hS).symm)) (vi (congrArg wv1 (pkz_t hS).symm)) (vi (congrArg wv0 (pkz_t hS).symm)) (vi (congrArg wv3 ((pkz_t hS).trans hd).symm)) (vi (congrArg wv2 ((pkz_t hS).trans hd).symm)) (vi (congrArg wv1 ((pkz_t hS).trans hd).symm)) (vi (congrArg wv0 ((pkz_t hS).trans hd).symm))) (vt hS)), E125⟩
         · refine lw_no (d := 59) rfl rfl (congrArg Value.bool (decide_eq_true hb110)) ?_
           refine lw_no (d := 59) rfl rfl (congrArg Value.bool (decide_eq_true hb110)) ?_
           refine lw_v (.bool true) (dv_pick_t (T rfl (congrArg Value.bool (decide_eq_true hb110))) C) ?_
           refine lw_v (.bool true) (dv_move (T rfl rfl)) ?_
           refine lw_no (d := 63) rfl rfl (rfl) ?_
           refine lw_no (d := 63) rfl rfl (rfl) ?_
           refine lw_no (d := 63) rfl rfl (rfl) ?_
           refine lw_no (d := 63) rfl rfl (rfl) ?_
           refine lw_v (.bool true) (dv_pick_t (T rfl rfl) C) ?_
           refine lw_nil ?_
           refine rk_ct (T rfl rfl) ?_
           refine rk_seq ?_
           refine rk_reg ?_
           refine lw_v (.agg #[.int .u64 0, .int .u64 0, .int .u64 0, .int .u64 0, .int .u64 0, .int .u64 0, .int .u64 0, .int .u64 0]) (dv_build (pv := []) (l := [.int .u64 0, .int .u64 0, .int .u64 0, .int .u64 0, .int .u64 0, .int .u64 0, .int .u64 0, .int .u64 0]) zc44 pl44 trivial rfl) ?_
           have H126 := (s107.blk (n103.ext.blk (s51.blk (n46.ext.blk (e42.blk (s38.blk (n33.ext.blk H35) (by omega)))) (by omega))) (by omega))
           refine lw_e (oe_store (v := .agg #[.int .u64 0, .int .u64 0, .int .u64 0, .int .u64 0, .int .u64 0, .int .u64 0, .int .u64 0, .int .u64 0]) (vs := [.int .u64 0, .int .u64 0, .int .u64 0, .int .u64 0, .int .u64 0, .int .u64 0, .int .u64 0, .int .u64 0]) (l := [.int .u64 0, .int .u64 0, .int .u64 0, .int .u64 0, .int .u64 0, .int .u64 0, .int .u64 0, .int .u64 0]) (T rfl f17) (T rfl rfl) sz44 rfl rfl rfl H126 rfl ?_)
           intro w127 s128 H129
           have E130 := below_st E109 N4 s128
           refine lw_v (.bool false) (dv_assign C) ?_
           refine lw_nil ?_
           refine rk_ret Try.func37 (v := .tuple #[.agg #[.int .u64 0, .int .u64 0, .int .u64 0, .int .u64 0, .int .u64 0, .int .u64 0, .int .u64 0, .int .u64 0], .bool false]) (res2 Try.results37 (rv_cells (l := [.int .u64 0, .int .u64 0, .int .u64 0, .int .u64 0, .int .u64 0, .int .u64 0, .int .u64 0, .int .u64 0]) agt44 sz44 rfl f17 H129 rfl) (rv_tmp rfl rfl)) ⟨_, rfl, ?_⟩
           have hS : ¬ rrS L := fun hh => by first | exact absurd hh.1 (by assumption) | exact absurd (hh.2.1 (by omega)) (by assumption) | (have h3 := hh.2.2; unfold rrU at h3; first | (rw [rrD_t (by omega)] at h3; exact absurd h3 (by assumption)) | (rw [rrD_n (by omega)] at h3; exact absurd h3 (by assumption)))
           exact ⟨(tu2 (ag8 (vi (wf3 hS)) (vi (wf2 hS)) (vi (wf1 hS)) (vi (wf0 hS)) (vi (wf3 hS)) (vi (wf2 hS)) (vi (wf1 hS)) (vi (wf0 hS))) (vf hS)), E130⟩
   · refine lw_no (d := 21) rfl rfl (congrArg Value.bool (decide_eq_false hb24)) ?_
     refine lw_no (d := 21) rfl rfl (congrArg Value.bool (decide_eq_false hb24)) ?_
     refine lw_no (d := 21) rfl rfl (congrArg Value.bool (decide_eq_false hb24)) ?_
     refine lw_no (d := 21) rfl rfl (congrArg Value.bool (decide_eq_false hb24)) ?_
     refine lw_v (.bool false) (dv_pick_f (T rfl (congrArg Value.bool (decide_eq_false hb24))) C) ?_
     refine lw_nil ?_
     refine rk_cf (T rfl rfl) ?_
     refine rk_exit rfl ?_
     refine rk_seq ?_
     have hfa : a = fi 47 L := by omega
     subst hfa
     refine rk_reg ?_
     refine lw_v (.string (bOf L)) (dv_move (T rfl f16)) ?_
     refine lw_v (.int .i64 ((fi 47 L : Int))) (dv_move (T rfl f19)) ?_
     refine lw_v (.string (bOf (L.take (fi 47 L)))) (dv_sliceSh (L := L) (i := fi 47 L) (j := (fi 47 L : Int)) ut9 (T rfl rfl) (T rfl rfl) (by omega) (by first | omega | (simp; done) | (simp; omega))) ?_
     refine lw_e (oe_callf (vs := [.string (bOf (L.take (fi 47 L)))]) co23 (ar1 (T rfl rfl)) (sReadWide_ok (okW_take (hL) ((fi 47 L))) (by first | omega | (simp; omega) | (have h1_ := fi_le 47 L; simp; omega))) ?_)
     rintro _ w131 ⟨rfl, e132⟩
     have E133 := below_ext E21 E21.size e132
     refine lw_v (.tuple #[.agg #[.int .u64 (wv3 (rdZ (L.take (fi 47 L)))), .int .u64 (wv2 (rdZ (L.take (fi 47 L)))), .int .u64 (wv1 (rdZ (L.take (fi 47 L)))), .int .u64 (wv0 (rdZ (L.take (fi 47 L))))], .bool (decide (rdS (L.take (fi 47 L))))]) (dv_move (T rfl rfl)) ?_
     refine lw_v (.agg #[.int .u64 (wv3 (rdZ (L.take (fi 47 L)))), .int .u64 (wv2 (rdZ (L.take (fi 47 L)))), .int .u64 (wv1 (rdZ (L.take (fi 47 L)))), .int .u64 (wv0 (rdZ (L.take (fi 47 L))))]) (dv_extract (vs := #[.agg #[.int .u64 (wv3 (rdZ (L.take (fi 47 L)))), .int .u64 (wv2 (rdZ (L.take (fi 47 L)))), .int .u64 (wv1 (rdZ (L.take (fi 47 L)))), .int .u64 (wv0 (rdZ (L.take (fi 47 L))))], .bool (decide (rdS (L.take (fi 47 L))))]) (T rfl rfl) rfl) ?_
     refine lw_v (.bool (decide (rdS (L.take (fi 47 L))))) (dv_extract (vs := #[.agg #[.int .u64 (wv3 (rdZ (L.take (fi 47 L)))), .int .u64 (wv2 (rdZ (L.take (fi 47 L)))), .int .u64 (wv1 (rdZ (L.take (fi 47 L)))), .int .u64 (wv0 (rdZ (L.take (fi 47 L))))], .bool (decide (rdS (L.take (fi 47 L))))]) (T rfl rfl) rfl) ?_
     refine lw_e (oe_alloc ze26 ?_)
     intro b134 w135 n136
     have N137 : w.heap.size ≤ b134 := n136.eq ▸ E133.size
     have H138 := (e132.blk H22)
     have : b1 < b134 := n136.eq ▸ lt_of_blk H138
     have E139 := below_ext E133 E133.size n136.ext
     refine lw_e (oe_store (v := .agg #[.int .u64 (wv3 (rdZ (L.take (fi 47 L)))), .int .u64 (wv2 (rdZ (L.take (fi 47 L)))), .int .u64 (wv1 (rdZ (L.take (fi 47 L)))), .int .u64 (wv0 (rdZ (L.take (fi 47 L))))]) (vs := [.int .u64 (wv3 (rdZ (L.take (fi 47 L)))), .int .u64 (wv2 (rdZ (L.take (fi 47 L)))), .int .u64 (wv1 (rdZ (L.take (fi 47 L)))), .int .u64 (wv0 (rdZ (L.take (fi 47 L))))]) (l := [.int .u64 (wv3 (rdZ (L.take (fi 47 L)))), .int .u64 (wv2 (rdZ (L.take (fi 47 L)))), .int .u64 (wv1 (rdZ (L.take (fi 47 L)))), .int .u64 (wv0 (rdZ (L.take (fi 47 L))))]) (T rfl rfl) (T rfl rfl) sz26 rfl rfl rfl n136.blk rfl ?_)
     intro w140 s141 H142
     have E143 := below_st E139 N137 s141
     refine lw_v (.bool (decide (rdS (L.take (fi 47 L))))) (dv_assign (T rfl rfl)) ?_
     refine lw_nil ?_
     refine rk_seq ?_
     refine rk_reg ?_
     refine lw_e (oe_callf (vs := [.int .i64 1]) co60 (ar1 C) (sWideOf_ok (x := 1)  (by omega)) ?_)
     rintro _ w144 ⟨rfl, e145⟩
     have E146 := below_ext E143 E143.size e145
     refine lw_e (oe_alloc ze26 ?_)
     intro b147 w148 n149
     have N150 : w.heap.size ≤ b147 := n149.eq ▸ E146.size
     have H151 := (e145.blk H142)
     have : b134 < b147 := n149.eq ▸ lt_of_blk H151
     have E152 := below_ext E146 E146.size n149.ext
     refine lw_e (oe_store (v := .agg #[.int .u64 (wv3 (1 : Int)), .int .u64 (wv2 (1 : Int)), .int .u64 (wv1 (1 : Int)), .int .u64 (wv0 (1 : Int))]) (vs := [.int .u64 (wv3 (1 : Int)), .int .u64 (wv2 (1 : Int)), .int .u64 (wv1 (1 : Int)), .int .u64 (wv0 (1 : Int))]) (l := [.int .u64 (wv3 (1 : Int)), .int .u64 (wv2 (1 : Int)), .int .u64 (wv1 (1 : Int)), .int .u64 (wv0 (1 : Int))]) (T rfl rfl) (T rfl rfl) sz26 rfl rfl rfl n149.blk rfl ?_)
     intro w153 s154 H155
     have E156 := below_st E152 N150 s154
     refine lw_nil ?_
     refine rk_seq ?_
     refine rk_reg ?_
     refine lw_v (.bool true) (dv_assign C) ?_
     refine lw_nil ?_
     refine rk_seq ?_
     refine rk_seq ?_
     refine rk_reg ?_
     refine lw_v (.int .i64 ((fi 47 L : Int))) (dv_move (T rfl f19)) ?_
     refine lw_v (.string (bOf L)) (dv_move (T rfl f16)) ?_
     refine lw_v (.int .i64 ((L.length : Int))) (dv_lenS (L := L) ut9 (T rfl rfl)) ?_
     refine lw_v (.bool (decide (((fi 47 L : Int)) < ((L.length : Int))))) (dv_lss (a := (fi 47 L : Int)) (b := (L.length : Int)) (T rfl rfl) (T rfl rfl)) ?_
     refine lw_nil ?_
     by_cases hb157 : ((fi 47 L : Int)) < ((L.length : Int))
     · refine rk_ct (T rfl (congrArg Value.bool (decide_eq_true hb157))) ?_
       refine rk_reg ?_
       refine lw_v (.string (bOf L)) (dv_move (T rfl f16)) ?_
       refine lw_v (.int .i64 ((fi 47 L : Int))) (dv_move (T rfl f19)) ?_
       refine lw_v (.int .i64 (((fi 47 L : Int)) + 1)) (dv_add (a := (fi 47 L : Int)) (b := 1) (z := ((fi 47 L : Int)) + 1) (T rfl rfl) C (wr_i64 (by omega) (by omega))) ?_
       refine lw_v (.string (bOf (L.drop (((fi 47 L) + 1))))) (dv_sliceSl (L := L) (i := ((fi 47 L) + 1)) (j := ((fi 47 L : Int)) + 1) ut9 (T rfl rfl) (T rfl rfl) (by omega) (by first | omega | (simp; done) | (simp; omega))) ?_
       refine lw_e (oe_callf (vs := [.string (bOf (L.drop (((fi 47 L) + 1))))]) co23 (ar1 (T rfl rfl)) (sReadWide_ok (okW_drop (hL) ((((fi 47 L) + 1)))) (by first | omega | (simp; omega) | (have h1_ := fi_le 47 L; simp; omega))) ?_)
       rintro _ w158 ⟨rfl, e159⟩
       have E160 := below_ext E156 E156.size e159
       refine lw_v (.tuple #[.agg #[.int .u64 (wv3 (rdZ (L.drop (((fi 47 L) + 1))))), .int .u64 (wv2 (rdZ (L.drop (((fi 47 L) + 1))))), .int .u64 (wv1 (rdZ (L.drop (((fi 47 L) + 1))))), .int .u64 (wv0 (rdZ (L.drop (((fi 47 L) + 1)))))], .bool (decide (rdS (L.drop (((fi 47 L) + 1)))))]) (dv_move (T rfl rfl)) ?_
       refine lw_v (.agg #[.int .u64 (wv3 (rdZ (L.drop (((fi 47 L) + 1))))), .int .u64 (wv2 (rdZ (L.drop (((fi 47 L) + 1))))), .int .u64 (wv1 (rdZ (L.drop (((fi 47 L) + 1))))), .int .u64 (wv0 (rdZ (L.drop (((fi 47 L) + 1)))))]) (dv_extract (vs := #[.agg #[.int .u64 (wv3 (rdZ (L.drop (((fi 47 L) + 1))))), .int .u64 (wv2 (rdZ (L.drop (((fi 47 L) + 1))))), .int .u64 (wv1 (rdZ (L.drop (((fi 47 L) + 1))))), .int .u64 (wv0 (rdZ (L.drop (((fi 47 L) + 1)))))], .bool (decide (rdS (L.drop (((fi 47 L) + 1)))))]) (T rfl rfl) rfl) ?_
       refine lw_v (.bool (decide (rdS (L.drop (((fi 47 L) + 1)))))) (dv_extract (vs := #[.agg #[.int .u64 (wv3 (rdZ (L.drop (((fi 47 L) + 1))))), .int .u64 (wv2 (rdZ (L.drop (((fi 47 L) + 1))))), .int .u64 (wv1 (rdZ (L.drop (((fi 47 L) + 1))))), .int .u64 (wv0 (rdZ (L.drop (((fi 47 L) + 1)))))], .bool (decide (rdS (L.drop (((fi 47 L) + 1)))))]) (T rfl rfl) rfl) ?_
       have H161 := (e159.blk H155)
       refine lw_e (oe_store (v := .agg #[.int .u64 (wv3 (rdZ (L.drop (((fi 47 L) + 1))))), .int .u64 (wv2 (rdZ (L.drop (((fi 47 L) + 1))))), .int .u64 (wv1 (rdZ (L.drop (((fi 47 L) + 1))))), .int .u64 (wv0 (rdZ (L.drop (((fi 47 L) + 1)))))]) (vs := [.int .u64 (wv3 (rdZ (L.drop (((fi 47 L) + 1))))), .int .u64 (wv2 (rdZ (L.drop (((fi 47 L) + 1))))), .int .u64 (wv1 (rdZ (L.drop (((fi 47 L) + 1))))), .int .u64 (wv0 (rdZ (L.drop (((fi 47 L) + 1)))))]) (l := [.int .u64 (wv3 (rdZ (L.drop (((fi 47 L) + 1))))), .int .u64 (wv2 (rdZ (L.drop (((fi 47 L) + 1))))), .int .u64 (wv1 (rdZ (L.drop (((fi 47 L) + 1))))), .int .u64 (wv0 (rdZ (L.drop (((fi 47 L) + 1)))))]) (T rfl rfl) (T rfl rfl) sz26 rfl rfl rfl H161 rfl ?_)
       intro w162 s163 H164
       have E165 := below_st E160 N150 s163
       refine lw_v (.bool (decide (rdS (L.drop (((fi 47 L) + 1)))))) (dv_assign (T rfl rfl)) ?_
       refine lw_nil ?_
       refine rk_seq ?_
       refine rk_reg ?_
       have H166 := (s163.blk (e159.blk (s154.blk (n149.ext.blk H151) (by omega))) (by omega))
       refine lw_v (.agg #[.int .u64 (wv3 (rdZ (L.take (fi 47 L)))), .int .u64 (wv2 (rdZ (L.take (fi 47 L)))), .int .u64 (wv1 (rdZ (L.take (fi 47 L)))), .int .u64 (wv0 (rdZ (L.take (fi 47 L))))]) (dv_loads (l := [.int .u64 (wv3 (rdZ (L.take (fi 47 L)))), .int .u64 (wv2 (rdZ (L.take (fi 47 L)))), .int .u64 (wv1 (rdZ (L.take (fi 47 L)))), .int .u64 (wv0 (rdZ (L.take (fi 47 L))))]) agt26 sz26 (T rfl rfl) H166 rfl) ?_
       refine lw_v (.agg #[.int .u64 (wv3 (rdZ (L.drop (((fi 47 L) + 1))))), .int .u64 (wv2 (rdZ (L.drop (((fi 47 L) + 1))))), .int .u64 (wv1 (rdZ (L.drop (((fi 47 L) + 1))))), .int .u64 (wv0 (rdZ (L.drop (((fi 47 L) + 1)))))]) (dv_loads (l := [.int .u64 (wv3 (rdZ (L.drop (((fi 47 L) + 1))))), .int .u64 (wv2 (rdZ (L.drop (((fi 47 L) + 1))))), .int .u64 (wv1 (rdZ (L.drop (((fi 47 L) + 1))))), .int .u64 (wv0 (rdZ (L.drop (((fi 47 L) + 1)))))]) agt26 sz26 (T rfl rfl) H164 rfl) ?_
       refine lw_v (.agg #[.int .u64 (wv3 (rdZ (L.take (fi 47 L)))), .int .u64 (wv2 (rdZ (L.take (fi 47 L)))), .int .u64 (wv1 (rdZ (L.take (fi 47 L)))), .int .u64 (wv0 (rdZ (L.take (fi 47 L)))), .int .u64 (wv3 (rdZ (L.drop (((fi 47 L) + 1))))), .int .u64 (wv2 (rdZ (L.drop (((fi 47 L) + 1))))), .int .u64 (wv1 (rdZ (L.drop (((fi 47 L) + 1))))), .int .u64 (wv0 (rdZ (L.drop (((fi 47 L) + 1)))))]) (dv_build (pv := [(0, .agg #[.int .u64 (wv3 (rdZ (L.take (fi 47 L)))), .int .u64 (wv2 (rdZ (L.take (fi 47 L)))), .int .u64 (wv1 (rdZ (L.take (fi 47 L)))), .int .u64 (wv0 (rdZ (L.take (fi 47 L))))]), (1, .agg #[.int .u64 (wv3 (rdZ (L.drop (((fi 47 L) + 1))))), .int .u64 (wv2 (rdZ (L.drop (((fi 47 L) + 1))))), .int .u64 (wv1 (rdZ (L.drop (((fi 47 L) + 1))))), .int .u64 (wv0 (rdZ (L.drop (((fi 47 L) + 1)))))])]) (l := [.int .u64 (wv3 (rdZ (L.take (fi 47 L)))), .int .u64 (wv2 (rdZ (L.take (fi 47 L)))), .int .u64 (wv1 (rdZ (L.take (fi 47 L)))), .int .u64 (wv0 (rdZ (L.take (fi 47 L)))), .int .u64 (wv3 (rdZ (L.drop (((fi 47 L) + 1))))), .int .u64 (wv2 (rdZ (L.drop (((fi 47 L) + 1))))), .int .u64 (wv1 (rdZ (L.drop (((fi 47 L) + 1))))), .int .u64 (wv0 (rdZ (L.drop (((fi 47 L) + 1)))))]) zc44 pl44 ⟨rfl, (T rfl rfl), ⟨rfl, (T rfl rfl), trivial⟩⟩ rfl) ?_
       refine lw_e (oe_alloc ze44 ?_)
       intro b167 w168 n169
       have N170 : w.heap.size ≤ b167 := n169.eq ▸ E165.size
       have : b147 < b167 := n169.eq ▸ lt_of_blk H164
       have E171 := below_ext E165 E165.size n169.ext
       refine lw_e (oe_store (v := .agg #[.int .u64 (wv3 (rdZ (L.take (fi 47 L)))), .int .u64 (wv2 (rdZ (L.take (fi 47 L)))), .int .u64 (wv1 (rdZ (L.take (fi 47 L)))), .int .u64 (wv0 (rdZ (L.take (fi 47 L)))), .int .u64 (wv3 (rdZ (L.drop (((fi 47 L) + 1))))), .int .u64 (wv2 (rdZ (L.drop (((fi 47 L) + 1))))), .int .u64 (wv1 (rdZ (L.drop (((fi 47 L) + 1))))), .int .u64 (wv0 (rdZ (L.drop (((fi 47 L) + 1)))))]) (vs := [.int .u64 (wv3 (rdZ (L.take (fi 47 L)))), .int .u64 (wv2 (rdZ (L.take (fi 47 L)))), .int .u64 (wv1 (rdZ (L.take (fi 47 L)))), .int .u64 (wv0 (rdZ (L.take (fi 47 L)))), .int .u64 (wv3 (rdZ (L.drop (((fi 47 L) + 1))))), .int .u64 (wv2 (rdZ (L.drop (((fi 47 L) + 1))))), .int .u64 (wv1 (rdZ (L.drop (((fi 47 L) + 1))))), .int .u64 (wv0 (rdZ (L.drop (((fi 47 L) + 1)))))]) (l := [.int .u64 (wv3 (rdZ (L.take (fi 47 L)))), .int .u64 (wv2 (rdZ (L.take (fi 47 L)))), .int .u64 (wv1 (rdZ (L.take (fi 47 L)))), .int .u64 (wv0 (rdZ (L.take (fi 47 L)))), .int .u64 (wv3 (rdZ (L.drop (((fi 47 L) + 1))))), .int .u64 (wv2 (rdZ (L.drop (((fi 47 L) + 1))))), .int .u64 (wv1 (rdZ (L.drop (((fi 47 L) + 1))))), .int .u64 (wv0 (rdZ (L.drop (((fi 47 L) + 1)))))]) (T rfl rfl) (T rfl rfl) sz44 rfl rfl rfl n169.blk rfl ?_)
       intro w172 s173 H174
       have E175 := below_st E171 N170 s173
       refine lw_nil ?_
       refine rk_seq ?_
       refine rk_seq ?_
       refine rk_reg ?_
       refine lw_v (.bool (decide (rdS (L.take (fi 47 L))))) (dv_move (T rfl rfl)) ?_
       refine lw_v (.bool (decide (¬ (rdS (L.take (fi 47 L)))))) (dv_notd (p := rdS (L.take (fi 47 L))) (T rfl rfl)) ?_
       refine lw_v (.bool (decide (¬ (rdS (L.take (fi 47 L)))))) (dv_move (T rfl rfl)) ?_
       by_cases hb176 : rdS (L.take (fi 47 L))
       · refine lw_vy (.bool (decide (rdS (L.drop (((fi 47 L) + 1)))))) (d := 59) rfl rfl (congrArg Value.bool (decide_eq_false (not_not_intro hb176))) (dv_move (T rfl rfl)) ?_
         refine lw_vy (.bool (decide (¬ (rdS (L.drop (((fi 47 L) + 1))))))) (d := 59) rfl rfl (congrArg Value.bool (decide_eq_false (not_not_intro hb176))) (dv_notd (p := rdS (L.drop (((fi 47 L) + 1)))) (T rfl rfl)) ?_
         refine lw_v (.bool (decide (¬ (rdS (L.drop (((fi 47 L) + 1))))))) (dv_pick_f (T rfl (congrArg Value.bool (decide_eq_false (not_not_intro hb176)))) (T rfl rfl)) ?_
         refine lw_v (.bool (decide (¬ (rdS (L.drop (((fi 47 L) + 1))))))) (dv_move (T rfl rfl)) ?_
         by_cases hb177 : rdS (L.drop (((fi 47 L) + 1)))
         · refine lw_vy (.agg #[.int .u64 (wv3 (rdZ (L.take (fi 47 L)))), .int .u64 (wv2 (rdZ (L.take (fi 47 L)))), .int .u64 (wv1 (rdZ (L.take (fi 47 L)))), .int .u64 (wv0 (rdZ (L.take (fi 47 L)))), .int .u64 (wv3 (rdZ (L.drop (((fi 47 L) + 1))))), .int .u64 (wv2 (rdZ (L.drop (((fi 47 L) + 1))))), .int .u64 (wv1 (rdZ (L.drop (((fi 47 L) + 1))))), .int .u64 (wv0 (rdZ (L.drop (((fi 47 L) + 1)))))]) (d := 63) rfl rfl (congrArg Value.bool (decide_eq_false (not_not_intro hb177))) (dv_loads (l := [.int .u64 (wv3 (rdZ (L.take (fi 47 L)))), .int .u64 (wv2 (rdZ (L.take (fi 47 L)))), .int .u64 (wv1 (rdZ (L.take (fi 47 L)))), .int .u64 (wv0 (rdZ (L.take (fi 47 L)))), .int .u64 (wv3 (rdZ (L.drop (((fi 47 L) + 1))))), .int .u64 (wv2 (rdZ (L.drop (((fi 47 L) + 1))))), .int .u64 (wv1 (rdZ (L.drop (((fi 47 L) + 1))))), .int .u64 (wv0 (rdZ (L.drop (((fi 47 L) + 1)))))]) agt44 sz44 (T rfl rfl) H174 rfl) ?_
           refine lw_ey (d := 63) rfl rfl (congrArg Value.bool (decide_eq_false (not_not_intro hb177))) (oe_callf (vs := [.agg #[.int .u64 (wv3 (rdZ (L.take (fi 47 L)))), .int .u64 (wv2 (rdZ (L.take (fi 47 L)))), .int .u64 (wv1 (rdZ (L.take (fi 47 L)))), .int .u64 (wv0 (rdZ (L.take (fi 47 L)))), .int .u64 (wv3 (rdZ (L.drop (((fi 47 L) + 1))))), .int .u64 (wv2 (rdZ (L.drop (((fi 47 L) + 1))))), .int .u64 (wv1 (rdZ (L.drop (((fi 47 L) + 1))))), .int .u64 (wv0 (rdZ (L.drop (((fi 47 L) + 1)))))]]) co70 (ar1 (T rfl rfl)) (sRatioText_ok (x := rdZ (L.take (fi 47 L))) (y := rdZ (L.drop (((fi 47 L) + 1)))) (rdZ_f _) (rdZ_f _) ) ?_)
           rintro _ w178 ⟨rfl, e179⟩
           have E180 := below_ext E175 E175.size e179
           refine lw_vy (.string (bOf L)) (d := 63) rfl rfl (congrArg Value.bool (decide_eq_false (not_not_intro hb177))) (dv_move (T rfl f16)) ?_
           refine lw_vy (.bool (decide ((((rTxt (rdZ (L.take (fi 47 L))) (rdZ (L.drop (((fi 47 L) + 1)))))) : List Int) ≠ L))) (d := 63) rfl rfl (congrArg Value.bool (decide_eq_false (not_not_intro hb177))) (dv_neS (L := (rTxt (rdZ (L.take (fi 47 L))) (rdZ (L.drop (((fi 47 L) + 1)))))) (M := L) (T rfl rfl) (T rfl rfl) ((okC_rTxt _ _)) ((hL))) ?_
           refine lw_v (.bool (decide ((((rTxt (rdZ (L.take (fi 47 L))) (rdZ (L.drop (((fi 47 L) + 1)))))) : List Int) ≠ L))) (dv_pick_f (T rfl (congrArg Value.bool (decide_eq_false (not_not_intro hb177)))) (T rfl rfl)) ?_
           refine lw_nil ?_
           by_cases hb181 : (((rTxt (rdZ (L.take (fi 47 L))) (rdZ (L.drop (((fi 47 L) + 1)))))) : List Int) ≠ L
           · refine rk_ct (T rfl (congrArg Value.bool (decide_eq_true hb181))) ?_
             refine rk_seq ?_
             refine rk_reg ?_
             refine lw_v (.agg #[.int .u64 0, .int .u64 0, .int .u64 0, .int .u64 0, .int .u64 0, .int .u64 0, .int .u64 0, .int .u64 0]) (dv_build (pv := []) (l := [.int .u64 0, .int .u64 0, .int .u64 0, .int .u64 0, .int .u64 0, .int .u64 0, .int .u64 0, .int .u64 0]) zc44 pl44 trivial rfl) ?_
             have H182 := (e179.blk (s173.blk (n169.ext.blk (s163.blk (e159.blk (s154.blk (n149.ext.blk (e145.blk (s141.blk (n136.ext.blk H138) (by omega)))) (by omega))) (by omega))) (by omega)))
             refine lw_e (oe_store (v := .agg #[.int .u64 0, .int .u64 0, .int .u64 0, .int .u64 0, .int .u64 0, .int .u64 0, .int .u64 0, .int .u64 0]) (vs := [.int .u64 0, .int .u64 0, .int .u64 0, .int .u64 0, .int .u64 0, .int .u64 0, .int .u64 0, .int .u64 0]) (l := [.int .u64 0, .int .u64 0, .int .u64 0, .int .u64 0, .int .u64 0, .int .u64 0, .int .u64 0, .int .u64 0]) (T rfl f17) (T rfl rfl) sz44 rfl rfl rfl H182 rfl ?_)
             intro w183 s184 H185
             have E186 := below_st E180 N4 s184
             refine lw_v (.bool false) (dv_assign C) ?_
             refine lw_nil ?_
             refine rk_ret Try.func37 (v := .tuple #[.agg #[.int .u64 0, .int .u64 0, .int .u64 0, .int .u64 0, .int .u64 0, .int .u64 0, .int .u64 0, .int .u64 0], .bool false]) (res2 Try.results37 (rv_cells (l := [.int .u64 0, .int .u64 0, .int .u64 0, .int .u64 0, .int .u64 0, .int .u64 0, .int .u64 0, .int .u64 0]) agt44 sz44 rfl f17 H185 rfl) (rv_tmp rfl rfl)) ⟨_, rfl, ?_⟩
             have hS : ¬ rrS L := fun hh => by first | exact absurd hh.1 (by assumption) | exact absurd (hh.2.1 (by omega)) (by assumption) | (have h3 := hh.2.2; unfold rrU at h3; first | (rw [rrD_t (by omega)] at h3; exact absurd h3 (by assumption)) | (rw [rrD_n (by omega)] at h3; exact absurd h3 (by assumption)))
             exact ⟨(tu2 (ag8 (vi (wf3 hS)) (vi (wf2 hS)) (vi (wf1 hS)) (vi (wf0 hS)) (vi (wf3 hS)) (vi (wf2 hS)) (vi (wf1 hS)) (vi (wf0 hS))) (vf hS)), E186⟩
           · refine rk_cf (T rfl (congrArg Value.bool (decide_eq_false hb181))) ?_
             refine rk_skip ?_
             refine rk_seq ?_
             refine rk_reg ?_
             have H187 := (e179.blk H174)
             refine lw_v (.agg #[.int .u64 (wv3 (rdZ (L.take (fi 47 L)))), .int .u64 (wv2 (rdZ (L.take (fi 47 L)))), .int .u64 (wv1 (rdZ (L.take (fi 47 L)))), .int .u64 (wv0 (rdZ (L.take (fi 47 L)))), .int .u64 (wv3 (rdZ (L.drop (((fi 47 L) + 1))))), .int .u64 (wv2 (rdZ (L.drop (((fi 47 L) + 1))))), .int .u64 (wv1 (rdZ (L.drop (((fi 47 L) + 1))))), .int .u64 (wv0 (rdZ (L.drop (((fi 47 L) + 1)))))]) (dv_loads (l := [.int .u64 (wv3 (rdZ (L.take (fi 47 L)))), .int .u64 (wv2 (rdZ (L.take (fi 47 L)))), .int .u64 (wv1 (rdZ (L.take (fi 47 L)))), .int .u64 (wv0 (rdZ (L.take (fi 47 L)))), .int .u64 (wv3 (rdZ (L.drop (((fi 47 L) + 1))))), .int .u64 (wv2 (rdZ (L.drop (((fi 47 L) + 1))))), .int .u64 (wv1 (rdZ (L.drop (((fi 47 L) + 1))))), .int .u64 (wv0 (rdZ (L.drop (((fi 47 L) + 1)))))]) agt44 sz44 (T rfl rfl) H187 rfl) ?_
             have H188 := (e179.blk (s173.blk (n169.ext.blk (s163.blk (e159.blk (s154.blk (n149.ext.blk (e145.blk (s141.blk (n136.ext.blk H138) (by omega)))) (by omega))) (by omega))) (by omega)))
             refine lw_e (oe_store (v := .agg #[.int .u64 (wv3 (rdZ (L.take (fi 47 L)))), .int .u64 (wv2 (rdZ (L.take (fi 47 L)))), .int .u64 (wv1 (rdZ (L.take (fi 47 L)))), .int .u64 (wv0 (rdZ (L.take (fi 47 L)))), .int .u64 (wv3 (rdZ (L.drop (((fi 47 L) + 1))))), .int .u64 (wv2 (rdZ (L.drop (((fi 47 L) + 1))))), .int .u64 (wv1 (rdZ (L.drop (((fi 47 L) + 1))))), .int .u64 (wv0 (rdZ (L.drop (((fi 47 L) + 1)))))]) (vs := [.int .u64 (wv3 (rdZ (L.take (fi 47 L)))), .int .u64 (wv2 (rdZ (L.take (fi 47 L)))), .int .u64 (wv1 (rdZ (L.take (fi 47 L)))), .int .u64 (wv0 (rdZ (L.take (fi 47 L)))), .int .u64 (wv3 (rdZ (L.drop (((fi 47 L) + 1))))), .int .u64 (wv2 (rdZ (L.drop (((fi 47 L) + 1))))), .int .u64 (wv1 (rdZ (L.drop (((fi 47 L) + 1))))), .int .u64 (wv0 (rdZ (L.drop (((fi 47 L) + 1)))))]) (l := [.int .u64 (wv3 (rdZ (L.take (fi 47 L)))), .int .u64 (wv2 (rdZ (L.take (fi 47 L)))), .int .u64 (wv1 (rdZ (L.take (fi 47 L)))), .int .u64 (wv0 (rdZ (L.take (fi 47 L)))), .int .u64 (wv3 (rdZ (L.drop (((fi 47 L) + 1))))), .int .u64 (wv2 (rdZ (L.drop (((fi 47 L) + 1))))), .int .u64 (wv1 (rdZ (L.drop (((fi 47 L) + 1))))), .int .u64 (wv0 (rdZ (L.drop (((fi 47 L) + 1)))))]) (T rfl f17) (T rfl rfl) sz44 rfl rfl rfl H188 rfl ?_)
             intro w189 s190 H191
             have E192 := below_st E180 N4 s190
             refine lw_v (.bool true) (dv_assign C) ?_
             refine lw_nil ?_
             refine rk_ret Try.func37 (v := .tuple #[.agg #[.int .u64 (wv3 (rdZ (L.take (fi 47 L)))), .int .u64 (wv2 (rdZ (L.take (fi 47 L)))), .int .u64 (wv1 (rdZ (L.take (fi 47 L)))), .int .u64 (wv0 (rdZ (L.take (fi 47 L)))), .int .u64 (wv3 (rdZ (L.drop (((fi 47 L) + 1))))), .int .u64 (wv2 (rdZ (L.drop (((fi 47 L) + 1))))), .int .u64 (wv1 (rdZ (L.drop (((fi 47 L) + 1))))), .int .u64 (wv0 (rdZ (L.drop (((fi 47 L) + 1)))))], .bool true]) (res2 Try.results37 (rv_cells (l := [.int .u64 (wv3 (rdZ (L.take (fi 47 L)))), .int .u64 (wv2 (rdZ (L.take (fi 47 L)))), .int .u64 (wv1 (rdZ (L.take (fi 47 L)))), .int .u64 (wv0 (rdZ (L.take (fi 47 L)))), .int .u64 (wv3 (rdZ (L.drop (((fi 47 L) + 1))))), .int .u64 (wv2 (rdZ (L.drop (((fi 47 L) + 1))))), .int .u64 (wv1 (rdZ (L.drop (((fi 47 L) + 1))))), .int .u64 (wv0 (rdZ (L.drop (((fi 47 L) + 1)))))]) agt44 sz44 rfl f17 H191 rfl) (rv_tmp rfl rfl)) ⟨_, rfl, ?_⟩
             have hd : rrD L = rdZ (L.drop (((fi 47 L) + 1))) := rrD_t (by omega)
             have hS : rrS L := ⟨by assumption, fun hh => by first | assumption | (exfalso; omega), by unfold rrU; rw [hd]; first | assumption | exact Decidable.not_not.1 (by assumption)⟩
             exact ⟨(tu2 (ag8 (vi (congrArg wv3 (pkz_t hS).symm)) (vi (congrArg wv2 (pkz_t hS).symm)) (vi (congrArg wv1 (pkz_t hS).symm)) (vi (congrArg wv0 (pkz_t hS).symm)) (vi (congrArg wv3 ((pkz_t hS).trans hd).symm)) (vi (congrArg wv2 ((pkz_t hS).trans hd).symm)) (vi (congrArg wv1 ((pkz_t hS).trans hd).symm)) (vi (congrArg wv0 ((pkz_t hS).trans hd).symm))) (vt hS)), E192⟩
         · refine lw_no (d := 63) rfl rfl (congrArg Value.bool (decide_eq_true hb177)) ?_
           refine lw_no (d := 63) rfl rfl (congrArg Value.bool (decide_eq_true hb177)) ?_
           refine lw_no (d := 63) rfl rfl (congrArg Value.bool (decide_eq_true hb177)) ?_
           refine lw_no (d := 63) rfl rfl (congrArg Value.bool (decide_eq_true hb177)) ?_
           refine lw_v (.bool true) (dv_pick_t (T rfl (congrArg Value.bool (decide_eq_true hb177))) C) ?_
           refine lw_nil ?_
           refine rk_ct (T rfl rfl) ?_
           refine rk_seq ?_
           refine rk_reg ?_
           refine lw_v (.agg #[.int .u64 0, .int .u64 0, .int .u64 0, .int .u64 0, .int .u64 0, .int .u64 0, .int .u64 0, .int .u64 0]) (dv_build (pv := []) (l := [.int .u64 0, .int .u64 0, .int .u64 0, .int .u64 0, .int .u64 0, .int .u64 0, .int .u64 0, .int .u64 0]) zc44 pl44 trivial rfl) ?_
           have H193 := (s173.blk (n169.ext.blk (s163.blk (e159.blk (s154.blk (n149.ext.blk (e145.blk (s141.blk (n136.ext.blk H138) (by omega)))) (by omega))) (by omega))) (by omega))
           refine lw_e (oe_store (v := .agg #[.int .u64 0, .int .u64 0, .int .u64 0, .int .u64 0, .int .u64 0, .int .u64 0, .int .u64 0, .int .u64 0]) (vs := [.int .u64 0, .int .u64 0, .int .u64 0, .int .u64 0, .int .u64 0, .int .u64 0, .int .u64 0, .int .u64 0]) (l := [.int .u64 0, .int .u64 0, .int .u64 0, .int .u64 0, .int .u64 0, .int .u64 0, .int .u64 0, .int .u64 0]) (T rfl f17) (T rfl rfl) sz44 rfl rfl rfl H193 rfl ?_)
           intro w194 s195 H196
           have E197 := below_st E175 N4 s195
           refine lw_v (.bool false) (dv_assign C) ?_
           refine lw_nil ?_
           refine rk_ret Try.func37 (v := .tuple #[.agg #[.int .u64 0, .int .u64 0, .int .u64 0, .int .u64 0, .int .u64 0, .int .u64 0, .int .u64 0, .int .u64 0], .bool false]) (res2 Try.results37 (rv_cells (l := [.int .u64 0, .int .u64 0, .int .u64 0, .int .u64 0, .int .u64 0, .int .u64 0, .int .u64 0, .int .u64 0]) agt44 sz44 rfl f17 H196 rfl) (rv_tmp rfl rfl)) ⟨_, rfl, ?_⟩
           have hS : ¬ rrS L := fun hh => by first | exact absurd hh.1 (by assumption) | exact absurd (hh.2.1 (by omega)) (by assumption) | (have h3 := hh.2.2; unfold rrU at h3; first | (rw [rrD_t (by omega)] at h3; exact absurd h3 (by assumption)) | (rw [rrD_n (by omega)] at h3; exact absurd h3 (by assumption)))
           exact ⟨(tu2 (ag8 (vi (wf3 hS)) (vi (wf2 hS)) (vi (wf1 hS)) (vi (wf0 hS)) (vi (wf3 hS)) (vi (wf2 hS)) (vi (wf1 hS)) (vi (wf0 hS))) (vf hS)), E197⟩
       · refine lw_no (d := 59) rfl rfl (congrArg Value.bool (decide_eq_true hb176)) ?_
         refine lw_no (d := 59) rfl rfl (congrArg Value.bool (decide_eq_true hb176)) ?_
         refine lw_v (.bool true) (dv_pick_t (T rfl (congrArg Value.bool (decide_eq_true hb176))) C) ?_
         refine lw_v (.bool true) (dv_move (T rfl rfl)) ?_
         refine lw_no (d := 63) rfl rfl (rfl) ?_
         refine lw_no (d := 63) rfl rfl (rfl) ?_
         refine lw_no (d := 63) rfl rfl (rfl) ?_
         refine lw_no (d := 63) rfl rfl (rfl) ?_
         refine lw_v (.bool true) (dv_pick_t (T rfl rfl) C) ?_
         refine lw_nil ?_
         refine rk_ct (T rfl rfl) ?_
         refine rk_seq ?_
         refine rk_reg ?_
         refine lw_v (.agg #[.int .u64 0, .int .u64 0, .int .u64 0, .int .u64 0, .int .u64 0, .int .u64 0, .int .u64 0, .int .u64 0]) (dv_build (pv := []) (l := [.int .u64 0, .int .u64 0, .int .u64 0, .int .u64 0, .int .u64 0, .int .u64 0, .int .u64 0, .int .u64 0]) zc44 pl44 trivial rfl) ?_
         have H198 := (s173.blk (n169.ext.blk (s163.blk (e159.blk (s154.blk (n149.ext.blk (e145.blk (s141.blk (n136.ext.blk H138) (by omega)))) (by omega))) (by omega))) (by omega))
         refine lw_e (oe_store (v := .agg #[.int .u64 0, .int .u64 0, .int .u64 0, .int .u64 0, .int .u64 0, .int .u64 0, .int .u64 0, .int .u64 0]) (vs := [.int .u64 0, .int .u64 0, .int .u64 0, .int .u64 0, .int .u64 0, .int .u64 0, .int .u64 0, .int .u64 0]) (l := [.int .u64 0, .int .u64 0, .int .u64 0, .int .u64 0, .int .u64 0, .int .u64 0, .int .u64 0, .int .u64 0]) (T rfl f17) (T rfl rfl) sz44 rfl rfl rfl H198 rfl ?_)
         intro w199 s200 H201
         have E202 := below_st E175 N4 s200
         refine lw_v (.bool false) (dv_assign C) ?_
         refine lw_nil ?_
         refine rk_ret Try.func37 (v := .tuple #[.agg #[.int .u64 0, .int .u64 0, .int .u64 0, .int .u64 0, .int .u64 0, .int .u64 0, .int .u64 0, .int .u64 0], .bool false]) (res2 Try.results37 (rv_cells (l := [.int .u64 0, .int .u64 0, .int .u64 0, .int .u64 0, .int .u64 0, .int .u64 0, .int .u64 0, .int .u64 0]) agt44 sz44 rfl f17 H201 rfl) (rv_tmp rfl rfl)) ⟨_, rfl, ?_⟩
         have hS : ¬ rrS L := fun hh => by first | exact absurd hh.1 (by assumption) | exact absurd (hh.2.1 (by omega)) (by assumption) | (have h3 := hh.2.2; unfold rrU at h3; first | (rw [rrD_t (by omega)] at h3; exact absurd h3 (by assumption)) | (rw [rrD_n (by omega)] at h3; exact absurd h3 (by assumption)))
         exact ⟨(tu2 (ag8 (vi (wf3 hS)) (vi (wf2 hS)) (vi (wf1 hS)) (vi (wf0 hS)) (vi (wf3 hS)) (vi (wf2 hS)) (vi (wf1 hS)) (vi (wf0 hS))) (vf hS)), E202⟩
     · refine rk_cf (T rfl (congrArg Value.bool (decide_eq_false hb157))) ?_
       refine rk_skip ?_
       refine rk_seq ?_
       refine rk_reg ?_
       have H203 := (s154.blk (n149.ext.blk H151) (by omega))
       refine lw_v (.agg #[.int .u64 (wv3 (rdZ (L.take (fi 47 L)))), .int .u64 (wv2 (rdZ (L.take (fi 47 L)))), .int .u64 (wv1 (rdZ (L.take (fi 47 L)))), .int .u64 (wv0 (rdZ (L.take (fi 47 L))))]) (dv_loads (l := [.int .u64 (wv3 (rdZ (L.take (fi 47 L)))), .int .u64 (wv2 (rdZ (L.take (fi 47 L)))), .int .u64 (wv1 (rdZ (L.take (fi 47 L)))), .int .u64 (wv0 (rdZ (L.take (fi 47 L))))]) agt26 sz26 (T rfl rfl) H203 rfl) ?_
       refine lw_v (.agg #[.int .u64 (wv3 (1 : Int)), .int .u64 (wv2 (1 : Int)), .int .u64 (wv1 (1 : Int)), .int .u64 (wv0 (1 : Int))]) (dv_loads (l := [.int .u64 (wv3 (1 : Int)), .int .u64 (wv2 (1 : Int)), .int .u64 (wv1 (1 : Int)), .int .u64 (wv0 (1 : Int))]) agt26 sz26 (T rfl rfl) H155 rfl) ?_
       refine lw_v (.agg #[.int .u64 (wv3 (rdZ (L.take (fi 47 L)))), .int .u64 (wv2 (rdZ (L.take (fi 47 L)))), .int .u64 (wv1 (rdZ (L.take (fi 47 L)))), .int .u64 (wv0 (rdZ (L.take (fi 47 L)))), .int .u64 (wv3 (1 : Int)), .int .u64 (wv2 (1 : Int)), .int .u64 (wv1 (1 : Int)), .int .u64 (wv0 (1 : Int))]) (dv_build (pv := [(0, .agg #[.int .u64 (wv3 (rdZ (L.take (fi 47 L)))), .int .u64 (wv2 (rdZ (L.take (fi 47 L)))), .int .u64 (wv1 (rdZ (L.take (fi 47 L)))), .int .u64 (wv0 (rdZ (L.take (fi 47 L))))]), (1, .agg #[.int .u64 (wv3 (1 : Int)), .int .u64 (wv2 (1 : Int)), .int .u64 (wv1 (1 : Int)), .int .u64 (wv0 (1 : Int))])]) (l := [.int .u64 (wv3 (rdZ (L.take (fi 47 L)))), .int .u64 (wv2 (rdZ (L.take (fi 47 L)))), .int .u64 (wv1 (rdZ (L.take (fi 47 L)))), .int .u64 (wv0 (rdZ (L.take (fi 47 L)))), .int .u64 (wv3 (1 : Int)), .int .u64 (wv2 (1 : Int)), .int .u64 (wv1 (1 : Int)), .int .u64 (wv0 (1 : Int))]) zc44 pl44 ⟨rfl, (T rfl rfl), ⟨rfl, (T rfl rfl), trivial⟩⟩ rfl) ?_
       refine lw_e (oe_alloc ze44 ?_)
       intro b204 w205 n206
       have N207 : w.heap.size ≤ b204 := n206.eq ▸ E156.size
       have : b147 < b204 := n206.eq ▸ lt_of_blk H155
       have E208 := below_ext E156 E156.size n206.ext
       refine lw_e (oe_store (v := .agg #[.int .u64 (wv3 (rdZ (L.take (fi 47 L)))), .int .u64 (wv2 (rdZ (L.take (fi 47 L)))), .int .u64 (wv1 (rdZ (L.take (fi 47 L)))), .int .u64 (wv0 (rdZ (L.take (fi 47 L)))), .int .u64 (wv3 (1 : Int)), .int .u64 (wv2 (1 : Int)), .int .u64 (wv1 (1 : Int)), .int .u64 (wv0 (1 : Int))]) (vs := [.int .u64 (wv3 (rdZ (L.take (fi 47 L)))), .int .u64 (wv2 (rdZ (L.take (fi 47 L)))), .int .u64 (wv1 (rdZ (L.take (fi 47 L)))), .int .u64 (wv0 (rdZ (L.take (fi 47 L)))), .int .u64 (wv3 (1 : Int)), .int .u64 (wv2 (1 : Int)), .int .u64 (wv1 (1 : Int)), .int .u64 (wv0 (1 : Int))]) (l := [.int .u64 (wv3 (rdZ (L.take (fi 47 L)))), .int .u64 (wv2 (rdZ (L.take (fi 47 L)))), .int .u64 (wv1 (rdZ (L.take (fi 47 L)))), .int .u64 (wv0 (rdZ (L.take (fi 47 L)))), .int .u64 (wv3 (1 : Int)), .int .u64 (wv2 (1 : Int)), .int .u64 (wv1 (1 : Int)), .int .u64 (wv0 (1 : Int))]) (T rfl rfl) (T rfl rfl) sz44 rfl rfl rfl n206.blk rfl ?_)
       intro w209 s210 H211
       have E212 := below_st E208 N207 s210
       refine lw_nil ?_
       refine rk_seq ?_
       refine rk_seq ?_
       refine rk_reg ?_
       refine lw_v (.bool (decide (rdS (L.take (fi 47 L))))) (dv_move (T rfl rfl)) ?_
       refine lw_v (.bool (decide (¬ (rdS (L.take (fi 47 L)))))) (dv_notd (p := rdS (L.take (fi 47 L))) (T rfl rfl)) ?_
       refine lw_v (.bool (decide (¬ (rdS (L.take (fi 47 L)))))) (dv_move (T rfl rfl)) ?_
       by_cases hb213 : rdS (L.take (fi 47 L))
       · refine lw_vy (.bool true) (d := 59) rfl rfl (congrArg Value.bool (decide_eq_false (not_not_intro hb213))) (dv_move (T rfl rfl)) ?_
         refine lw_vy (.bool false) (d := 59) rfl rfl (congrArg Value.bool (decide_eq_false (not_not_intro hb213))) (dv_not (b := true) (T rfl rfl)) ?_
         refine lw_v (.bool false) (dv_pick_f (T rfl (congrArg Value.bool (decide_eq_false (not_not_intro hb213)))) (T rfl rfl)) ?_
         refine lw_v (.bool false) (dv_move (T rfl rfl)) ?_
         refine lw_vy (.agg #[.int .u64 (wv3 (rdZ (L.take (fi 47 L)))), .int .u64 (wv2 (rdZ (L.take (fi 47 L)))), .int .u64 (wv1 (rdZ (L.take (fi 47 L)))), .int .u64 (wv0 (rdZ (L.take (fi 47 L)))), .int .u64 (wv3 (1 : Int)), .int .u64 (wv2 (1 : Int)), .int .u64 (wv1 (1 : Int)), .int .u64 (wv0 (1 : Int))]) (d := 63) rfl rfl (rfl) (dv_loads (l := [.int .u64 (wv3 (rdZ (L.take (fi 47 L)))), .int .u64 (wv2 (rdZ (L.take (fi 47 L)))), .int .u64 (wv1 (rdZ (L.take (fi 47 L)))), .int .u64 (wv0 (rdZ (L.take (fi 47 L)))), .int .u64 (wv3 (1 : Int)), .int .u64 (wv2 (1 : Int)), .int .u64 (wv1 (1 : Int)), .int .u64 (wv0 (1 : Int))]) agt44 sz44 (T rfl rfl) H211 rfl) ?_
         refine lw_ey (d := 63) rfl rfl (rfl) (oe_callf (vs := [.agg #[.int .u64 (wv3 (rdZ (L.take (fi 47 L)))), .int .u64 (wv2 (rdZ (L.take (fi 47 L)))), .int .u64 (wv1 (rdZ (L.take (fi 47 L)))), .int .u64 (wv0 (rdZ (L.take (fi 47 L)))), .int .u64 (wv3 (1 : Int)), .int .u64 (wv2 (1 : Int)), .int .u64 (wv1 (1 : Int)), .int .u64 (wv0 (1 : Int))]]) co70 (ar1 (T rfl rfl)) (sRatioText_ok (x := rdZ (L.take (fi 47 L))) (y := 1) (rdZ_f _) (⟨by decide, by decide⟩ : fits 1) ) ?_)
         rintro _ w214 ⟨rfl, e215⟩
         have E216 := below_ext E212 E212.size e215
         refine lw_vy (.string (bOf L)) (d := 63) rfl rfl (rfl) (dv_move (T rfl f16)) ?_
         refine lw_vy (.bool (decide ((((rTxt (rdZ (L.take (fi 47 L))) (1 : Int))) : List Int) ≠ L))) (d := 63) rfl rfl (rfl) (dv_neS (L := (rTxt (rdZ (L.take (fi 47 L))) (1 : Int))) (M := L) (T rfl rfl) (T rfl rfl) ((okC_rTxt _ _)) ((hL))) ?_
         refine lw_v (.bool (decide ((((rTxt (rdZ (L.take (fi 47 L))) (1 : Int))) : List Int) ≠ L))) (dv_pick_f (T rfl rfl) (T rfl rfl)) ?_
         refine lw_nil ?_
         by_cases hb217 : (((rTxt (rdZ (L.take (fi 47 L))) (1 : Int))) : List Int) ≠ L
         · refine rk_ct (T rfl (congrArg Value.bool (decide_eq_true hb217))) ?_
           refine rk_seq ?_
           refine rk_reg ?_
           refine lw_v (.agg #[.int .u64 0, .int .u64 0, .int .u64 0, .int .u64 0, .int .u64 0, .int .u64 0, .int .u64 0, .int .u64 0]) (dv_build (pv := []) (l := [.int .u64 0, .int .u64 0, .int .u64 0, .int .u64 0, .int .u64 0, .int .u64 0, .int .u64 0, .int .u64 0]) zc44 pl44 trivial rfl) ?_
           have H218 := (e215.blk (s210.blk (n206.ext.blk (s154.blk (n149.ext.blk (e145.blk (s141.blk (n136.ext.blk H138) (by omega)))) (by omega))) (by omega)))
           refine lw_e (oe_store (v := .agg #[.int .u64 0, .int .u64 0, .int .u64 0, .int .u64 0, .int .u64 0, .int .u64 0, .int .u64 0, .int .u64 0]) (vs := [.int .u64 0, .int .u64 0, .int .u64 0, .int .u64 0, .int .u64 0, .int .u64 0, .int .u64 0, .int .u64 0]) (l := [.int .u64 0, .int .u64 0, .int .u64 0, .int .u64 0, .int .u64 0, .int .u64 0, .int .u64 0, .int .u64 0]) (T rfl f17) (T rfl rfl) sz44 rfl rfl rfl H218 rfl ?_)
           intro w219 s220 H221
           have E222 := below_st E216 N4 s220
           refine lw_v (.bool false) (dv_assign C) ?_
           refine lw_nil ?_
           refine rk_ret Try.func37 (v := .tuple #[.agg #[.int .u64 0, .int .u64 0, .int .u64 0, .int .u64 0, .int .u64 0, .int .u64 0, .int .u64 0, .int .u64 0], .bool false]) (res2 Try.results37 (rv_cells (l := [.int .u64 0, .int .u64 0, .int .u64 0, .int .u64 0, .int .u64 0, .int .u64 0, .int .u64 0, .int .u64 0]) agt44 sz44 rfl f17 H221 rfl) (rv_tmp rfl rfl)) ⟨_, rfl, ?_⟩
           have hS : ¬ rrS L := fun hh => by first | exact absurd hh.1 (by assumption) | exact absurd (hh.2.1 (by omega)) (by assumption) | (have h3 := hh.2.2; unfold rrU at h3; first | (rw [rrD_t (by omega)] at h3; exact absurd h3 (by assumption)) | (rw [rrD_n (by omega)] at h3; exact absurd h3 (by assumption)))
           exact ⟨(tu2 (ag8 (vi (wf3 hS)) (vi (wf2 hS)) (vi (wf1 hS)) (vi (wf0 hS)) (vi (wf3 hS)) (vi (wf2 hS)) (vi (wf1 hS)) (vi (wf0 hS))) (vf hS)), E222⟩
         · refine rk_cf (T rfl (congrArg Value.bool (decide_eq_false hb217))) ?_
           refine rk_skip ?_
           refine rk_seq ?_
           refine rk_reg ?_
           have H223 := (e215.blk H211)
           refine lw_v (.agg #[.int .u64 (wv3 (rdZ (L.take (fi 47 L)))), .int .u64 (wv2 (rdZ (L.take (fi 47 L)))), .int .u64 (wv1 (rdZ (L.take (fi 47 L)))), .int .u64 (wv0 (rdZ (L.take (fi 47 L)))), .int .u64 (wv3 (1 : Int)), .int .u64 (wv2 (1 : Int)), .int .u64 (wv1 (1 : Int)), .int .u64 (wv0 (1 : Int))]) (dv_loads (l := [.int .u64 (wv3 (rdZ (L.take (fi 47 L)))), .int .u64 (wv2 (rdZ (L.take (fi 47 L)))), .int .u64 (wv1 (rdZ (L.take (fi 47 L)))), .int .u64 (wv0 (rdZ (L.take (fi 47 L)))), .int .u64 (wv3 (1 : Int)), .int .u64 (wv2 (1 : Int)), .int .u64 (wv1 (1 : Int)), .int .u64 (wv0 (1 : Int))]) agt44 sz44 (T rfl rfl) H223 rfl) ?_
           have H224 := (e215.blk (s210.blk (n206.ext.blk (s154.blk (n149.ext.blk (e145.blk (s141.blk (n136.ext.blk H138) (by omega)))) (by omega))) (by omega)))
           refine lw_e (oe_store (v := .agg #[.int .u64 (wv3 (rdZ (L.take (fi 47 L)))), .int .u64 (wv2 (rdZ (L.take (fi 47 L)))), .int .u64 (wv1 (rdZ (L.take (fi 47 L)))), .int .u64 (wv0 (rdZ (L.take (fi 47 L)))), .int .u64 (wv3 (1 : Int)), .int .u64 (wv2 (1 : Int)), .int .u64 (wv1 (1 : Int)), .int .u64 (wv0 (1 : Int))]) (vs := [.int .u64 (wv3 (rdZ (L.take (fi 47 L)))), .int .u64 (wv2 (rdZ (L.take (fi 47 L)))), .int .u64 (wv1 (rdZ (L.take (fi 47 L)))), .int .u64 (wv0 (rdZ (L.take (fi 47 L)))), .int .u64 (wv3 (1 : Int)), .int .u64 (wv2 (1 : Int)), .int .u64 (wv1 (1 : Int)), .int .u64 (wv0 (1 : Int))]) (l := [.int .u64 (wv3 (rdZ (L.take (fi 47 L)))), .int .u64 (wv2 (rdZ (L.take (fi 47 L)))), .int .u64 (wv1 (rdZ (L.take (fi 47 L)))), .int .u64 (wv0 (rdZ (L.take (fi 47 L)))), .int .u64 (wv3 (1 : Int)), .int .u64 (wv2 (1 : Int)), .int .u64 (wv1 (1 : Int)), .int .u64 (wv0 (1 : Int))]) (T rfl f17) (T rfl rfl) sz44 rfl rfl rfl H224 rfl ?_)
           intro w225 s226 H227
           have E228 := below_st E216 N4 s226
           refine lw_v (.bool true) (dv_assign C) ?_
           refine lw_nil ?_
           refine rk_ret Try.func37 (v := .tuple #[.agg #[.int .u64 (wv3 (rdZ (L.take (fi 47 L)))), .int .u64 (wv2 (rdZ (L.take (fi 47 L)))), .int .u64 (wv1 (rdZ (L.take (fi 47 L)))), .int .u64 (wv0 (rdZ (L.take (fi 47 L)))), .int .u64 (wv3 (1 : Int)), .int .u64 (wv2 (1 : Int)), .int .u64 (wv1 (1 : Int)), .int .u64 (wv0 (1 : Int))], .bool true]) (res2 Try.results37 (rv_cells (l := [.int .u64 (wv3 (rdZ (L.take (fi 47 L)))), .int .u64 (wv2 (rdZ (L.take (fi 47 L)))), .int .u64 (wv1 (rdZ (L.take (fi 47 L)))), .int .u64 (wv0 (rdZ (L.take (fi 47 L)))), .int .u64 (wv3 (1 : Int)), .int .u64 (wv2 (1 : Int)), .int .u64 (wv1 (1 : Int)), .int .u64 (wv0 (1 : Int))]) agt44 sz44 rfl f17 H227 rfl) (rv_tmp rfl rfl)) ⟨_, rfl, ?_⟩
           have hd : rrD L = 1 := rrD_n (by omega)
           have hS : rrS L := ⟨by assumption, fun hh => by first | assumption | (exfalso; omega), by unfold rrU; rw [hd]; first | assumption | exact Decidable.not_not.1 (by assumption)⟩
           exact ⟨(tu2 (ag8 (vi (congrArg wv3 (pkz_t hS).symm)) (vi (congrArg wv2 (pkz_t hS).symm)) (vi (congrArg wv1 (pkz_t hS).symm)) (vi (congrArg wv0 (pkz_t hS).symm)) (vi (congrArg wv3 ((pkz_t hS).trans hd).symm)) (vi (congrArg wv2 ((pkz_t hS).trans hd).symm)) (vi (congrArg wv1 ((pkz_t hS).trans hd).symm)) (vi (congrArg wv0 ((pkz_t hS).trans hd).symm))) (vt hS)), E228⟩
       · refine lw_no (d := 59) rfl rfl (congrArg Value.bool (decide_eq_true hb213)) ?_
         refine lw_no (d := 59) rfl rfl (congrArg Value.bool (decide_eq_true hb213)) ?_
         refine lw_v (.bool true) (dv_pick_t (T rfl (congrArg Value.bool (decide_eq_true hb213))) C) ?_
         refine lw_v (.bool true) (dv_move (T rfl rfl)) ?_
         refine lw_no (d := 63) rfl rfl (rfl) ?_
         refine lw_no (d := 63) rfl rfl (rfl) ?_
         refine lw_no (d := 63) rfl rfl (rfl) ?_
         refine lw_no (d := 63) rfl rfl (rfl) ?_
         refine lw_v (.bool true) (dv_pick_t (T rfl rfl) C) ?_
         refine lw_nil ?_
         refine rk_ct (T rfl rfl) ?_
         refine rk_seq ?_
         refine rk_reg ?_
         refine lw_v (.agg #[.int .u64 0, .int .u64 0, .int .u64 0, .int .u64 0, .int .u64 0, .int .u64 0, .int .u64 0, .int .u64 0]) (dv_build (pv := []) (l := [.int .u64 0, .int .u64 0, .int .u64 0, .int .u64 0, .int .u64 0, .int .u64 0, .int .u64 0, .int .u64 0]) zc44 pl44 trivial rfl) ?_
         have H229 := (s210.blk (n206.ext.blk (s154.blk (n149.ext.blk (e145.blk (s141.blk (n136.ext.blk H138) (by omega)))) (by omega))) (by omega))
         refine lw_e (oe_store (v := .agg #[.int .u64 0, .int .u64 0, .int .u64 0, .int .u64 0, .int .u64 0, .int .u64 0, .int .u64 0, .int .u64 0]) (vs := [.int .u64 0, .int .u64 0, .int .u64 0, .int .u64 0, .int .u64 0, .int .u64 0, .int .u64 0, .int .u64 0]) (l := [.int .u64 0, .int .u64 0, .int .u64 0, .int .u64 0, .int .u64 0, .int .u64 0, .int .u64 0, .int .u64 0]) (T rfl f17) (T rfl rfl) sz44 rfl rfl rfl H229 rfl ?_)
         intro w230 s231 H232
         have E233 := below_st E212 N4 s231
         refine lw_v (.bool false) (dv_assign C) ?_
         refine lw_nil ?_
         refine rk_ret Try.func37 (v := .tuple #[.agg #[.int .u64 0, .int .u64 0, .int .u64 0, .int .u64 0, .int .u64 0, .int .u64 0, .int .u64 0, .int .u64 0], .bool false]) (res2 Try.results37 (rv_cells (l := [.int .u64 0, .int .u64 0, .int .u64 0, .int .u64 0, .int .u64 0, .int .u64 0, .int .u64 0, .int .u64 0]) agt44 sz44 rfl f17 H232 rfl) (rv_tmp rfl rfl)) ⟨_, rfl, ?_⟩
         have hS : ¬ rrS L := fun hh => by first | exact absurd hh.1 (by assumption) | exact absurd (hh.2.1 (by omega)) (by assumption) | (have h3 := hh.2.2; unfold rrU at h3; first | (rw [rrD_t (by omega)] at h3; exact absurd h3 (by assumption)) | (rw [rrD_n (by omega)] at h3; exact absurd h3 (by assumption)))
         exact ⟨(tu2 (ag8 (vi (wf3 hS)) (vi (wf2 hS)) (vi (wf1 hS)) (vi (wf0 hS)) (vi (wf3 hS)) (vi (wf2 hS)) (vi (wf1 hS)) (vi (wf0 hS))) (vf hS)), E233⟩
end Go.Proofs.Ytfmkadgjoechnaa.W
set_option linter.unusedVariables false
set_option linter.unusedSimpArgs false
namespace Go.Proofs.Ytfmkadgjoechnaa.W
open Go Go.RowKit Go.Proofs.Ytfmkadgjoechnaa.Fw
attribute [local irreducible] RunK LW AW DV OE Ct
theorem co37 : callOk Try.prog 37 = true := by kernel_rfl
theorem co38 : callOk Try.prog 38 = true := by kernel_rfl
theorem co39 : callOk Try.prog 39 = true := by kernel_rfl
set_option maxHeartbeats 1000000 in
theorem lawReadRatio_ok {w : World} {L : List Int} (hL : okW 256 L) (hm : MLn 2 w) : Ct Try.prog 9 [.string (bOf L)] w fun v w1 => v = .bool true ∧ Ext w w1 := by
 refine ct_run (n := 29) Try.func9 rfl Try.ntmps9 rfl ?_
 have E0 : Below w.heap.size w w := Below.refl _ _
 refine rk_seq ?_
 refine rk_reg ?_
 refine lw_v (.bool false) (dv_assign C) ?_
 refine lw_nil ?_
 refine rk_seq ?_
 refine rk_seq ?_
 refine rk_reg ?_
 refine lw_v (.string (bOf L)) (dv_move (T rfl rfl)) ?_
 refine lw_v (.int .i64 ((L.length : Int))) (dv_lenS (L := L) ut9 (T rfl rfl)) ?_
 refine lw_v (.bool (decide (1048576 < ((L.length : Int))))) (dv_gtr (a := (L.length : Int)) (b := 1048576) (T rfl rfl) C) ?_
 refine lw_nil ?_
 by_cases hb1 : 1048576 < ((L.length : Int))
 · refine rk_ct (T rfl (congrArg Value.bool (decide_eq_true hb1))) ?_
   refine rk_seq ?_
   refine rk_reg ?_
   refine lw_v (.bool true) (dv_assign C) ?_
   refine lw_nil ?_
   refine rk_ret Try.func9 (v := .bool true) (res1 Try.results9 (rv_tmp rfl rfl)) ⟨_, rfl, ?_⟩
   exact ⟨rfl, E0⟩
 · refine rk_cf (T rfl (congrArg Value.bool (decide_eq_false hb1))) ?_
   refine rk_skip ?_
   refine rk_seq ?_
   refine rk_reg ?_
   refine lw_v (.string (bOf L)) (dv_move (T rfl rfl)) ?_
   refine lw_e (oe_callf (vs := [.string (bOf L)]) co37 (ar1 (T rfl rfl)) (sReadRatio_ok (hL) (by first | omega | (simp; done) | (simp; omega))) ?_)
   rintro _ w2 ⟨rfl, e3⟩
   have E4 := below_ext E0 E0.size e3
   refine lw_v (.tuple #[.agg #[.int .u64 (wv3 (pkz (rrS L) (rrU L))), .int .u64 (wv2 (pkz (rrS L) (rrU L))), .int .u64 (wv1 (pkz (rrS L) (rrU L))), .int .u64 (wv0 (pkz (rrS L) (rrU L))), .int .u64 (wv3 (pkz (rrS L) (rrD L))), .int .u64 (wv2 (pkz (rrS L) (rrD L))), .int .u64 (wv1 (pkz (rrS L) (rrD L))), .int .u64 (wv0 (pkz (rrS L) (rrD L)))], .bool (decide (rrS L))]) (dv_move (T rfl rfl)) ?_
   refine lw_v (.agg #[.int .u64 (wv3 (pkz (rrS L) (rrU L))), .int .u64 (wv2 (pkz (rrS L) (rrU L))), .int .u64 (wv1 (pkz (rrS L) (rrU L))), .int .u64 (wv0 (pkz (rrS L) (rrU L))), .int .u64 (wv3 (pkz (rrS L) (rrD L))), .int .u64 (wv2 (pkz (rrS L) (rrD L))), .int .u64 (wv1 (pkz (rrS L) (rrD L))), .int .u64 (wv0 (pkz (rrS L) (rrD L)))]) (dv_extract (vs := #[.agg #[.int .u64 (wv3 (pkz (rrS L) (rrU L))), .int .u64 (wv2 (pkz (rrS L) (rrU L))), .int .u64 (wv1 (pkz (rrS L) (rrU L))), .int .u64 (wv0 (pkz (rrS L) (rrU L))), .int .u64 (wv3 (pkz (rrS L) (rrD L))), .int .u64 (wv2 (pkz (rrS L) (rrD L))), .int .u64 (wv1 (pkz (rrS L) (rrD L))), .int .u64 (wv0 (pkz (rrS L) (rrD L)))], .bool (decide (rrS L))]) (T rfl rfl) rfl) ?_
   refine lw_v (.bool (decide (rrS L))) (dv_extract (vs := #[.agg #[.int .u64 (wv3 (pkz (rrS L) (rrU L))), .int .u64 (wv2 (pkz (rrS L) (rrU L))), .int .u64 (wv1 (pkz (rrS L) (rrU L))), .int .u64 (wv0 (pkz (rrS L) (rrU L))), .int .u64 (wv3 (pkz (rrS L) (rrD L))), .int .u64 (wv2 (pkz (rrS L) (rrD L))), .int .u64 (wv1 (pkz (rrS L) (rrD L))), .int .u64 (wv0 (pkz (rrS L) (rrD L)))], .bool (decide (rrS L))]) (T rfl rfl) rfl) ?_
   refine lw_e (oe_alloc ze44 ?_)
   intro b5 w6 n7
   have N8 : w.heap.size ≤ b5 := n7.eq ▸ E4.size
   have E9 := below_ext E4 E4.size n7.ext
   refine lw_e (oe_store (v := .agg #[.int .u64 (wv3 (pkz (rrS L) (rrU L))), .int .u64 (wv2 (pkz (rrS L) (rrU L))), .int .u64 (wv1 (pkz (rrS L) (rrU L))), .int .u64 (wv0 (pkz (rrS L) (rrU L))), .int .u64 (wv3 (pkz (rrS L) (rrD L))), .int .u64 (wv2 (pkz (rrS L) (rrD L))), .int .u64 (wv1 (pkz (rrS L) (rrD L))), .int .u64 (wv0 (pkz (rrS L) (rrD L)))]) (vs := [.int .u64 (wv3 (pkz (rrS L) (rrU L))), .int .u64 (wv2 (pkz (rrS L) (rrU L))), .int .u64 (wv1 (pkz (rrS L) (rrU L))), .int .u64 (wv0 (pkz (rrS L) (rrU L))), .int .u64 (wv3 (pkz (rrS L) (rrD L))), .int .u64 (wv2 (pkz (rrS L) (rrD L))), .int .u64 (wv1 (pkz (rrS L) (rrD L))), .int .u64 (wv0 (pkz (rrS L) (rrD L)))]) (l := [.int .u64 (wv3 (pkz (rrS L) (rrU L))), .int .u64 (wv2 (pkz (rrS L) (rrU L))), .int .u64 (wv1 (pkz (rrS L) (rrU L))), .int .u64 (wv0 (pkz (rrS L) (rrU L))), .int .u64 (wv3 (pkz (rrS L) (rrD L))), .int .u64 (wv2 (pkz (rrS L) (rrD L))), .int .u64 (wv1 (pkz (rrS L) (rrD L))), .int .u64 (wv0 (pkz (rrS L) (rrD L)))]) (T rfl rfl) (T rfl rfl) sz44 rfl rfl rfl n7.blk rfl ?_)
   intro w10 s11 H12
   have E13 := below_st E9 N8 s11
   refine lw_v (.bool (decide (rrS L))) (dv_assign (T rfl rfl)) ?_
   refine lw_nil ?_
   refine rk_seq ?_
   refine rk_reg ?_
   refine lw_v (.string (bOf L)) (dv_move (T rfl rfl)) ?_
   have h14 := hm.ext E13
   refine lw_e (oe_callf (vs := [.string (bOf L)]) co38 (ar1 (T rfl rfl)) (iReadRatio_ok (hL) (by first | omega | (simp; done) | (simp; omega)) h14) ?_)
   rintro _ w15 ⟨rfl, e16⟩
   have E17 := below_ext E13 E13.size e16
   refine lw_v (.tuple #[.agg #[.int .u64 (wv3 (pkz (rrS L) (rrU L))), .int .u64 (wv2 (pkz (rrS L) (rrU L))), .int .u64 (wv1 (pkz (rrS L) (rrU L))), .int .u64 (wv0 (pkz (rrS L) (rrU L))), .int .u64 (wv3 (pkz (rrS L) (rrD L))), .int .u64 (wv2 (pkz (rrS L) (rrD L))), .int .u64 (wv1 (pkz (rrS L) (rrD L))), .int .u64 (wv0 (pkz (rrS L) (rrD L)))], .bool (decide (rrS L))]) (dv_move (T rfl rfl)) ?_
   refine lw_v (.agg #[.int .u64 (wv3 (pkz (rrS L) (rrU L))), .int .u64 (wv2 (pkz (rrS L) (rrU L))), .int .u64 (wv1 (pkz (rrS L) (rrU L))), .int .u64 (wv0 (pkz (rrS L) (rrU L))), .int .u64 (wv3 (pkz (rrS L) (rrD L))), .int .u64 (wv2 (pkz (rrS L) (rrD L))), .int .u64 (wv1 (pkz (rrS L) (rrD L))), .int .u64 (wv0 (pkz (rrS L) (rrD L)))]) (dv_extract (vs := #[.agg #[.int .u64 (wv3 (pkz (rrS L) (rrU L))), .int .u64 (wv2 (pkz (rrS L) (rrU L))), .int .u64 (wv1 (pkz (rrS L) (rrU L))), .int .u64 (wv0 (pkz (rrS L) (rrU L))), .int .u64 (wv3 (pkz (rrS L) (rrD L))), .int .u64 (wv2 (pkz (rrS L) (rrD L))), .int .u64 (wv1 (pkz (rrS L) (rrD L))), .int .u64 (wv0 (pkz (rrS L) (rrD L)))], .bool (decide (rrS L))]) (T rfl rfl) rfl) ?_
   refine lw_v (.bool (decide (rrS L))) (dv_extract (vs := #[.agg #[.int .u64 (wv3 (pkz (rrS L) (rrU L))), .int .u64 (wv2 (pkz (rrS L) (rrU L))), .int .u64 (wv1 (pkz (rrS L) (rrU L))), .int .u64 (wv0 (pkz (rrS L) (rrU L))), .int .u64 (wv3 (pkz (rrS L) (rrD L))), .int .u64 (wv2 (pkz (rrS L) (rrD L))), .int .u64 (wv1 (pkz (rrS L) (rrD L))), .int .u64 (wv0 (pkz (rrS L) (rrD L)))], .bool (decide (rrS L))]) (T rfl rfl) rfl) ?_
   refine lw_e (oe_alloc ze44 ?_)
   intro b18 w19 n20
   have N21 : w.heap.size ≤ b18 := n20.eq ▸ E17.size
   have H22 := (e16.blk H12)
   have : b5 < b18 := n20.eq ▸ lt_of_blk H22
   have E23 := below_ext E17 E17.size n20.ext
   refine lw_e (oe_store (v := .agg #[.int .u64 (wv3 (pkz (rrS L) (rrU L))), .int .u64 (wv2 (pkz (rrS L) (rrU L))), .int .u64 (wv1 (pkz (rrS L) (rrU L))), .int .u64 (wv0 (pkz (rrS L) (rrU L))), .int .u64 (wv3 (pkz (rrS L) (rrD L))), .int .u64 (wv2 (pkz (rrS L) (rrD L))), .int .u64 (wv1 (pkz (rrS L) (rrD L))), .int .u64 (wv0 (pkz (rrS L) (rrD L)))]) (vs := [.int .u64 (wv3 (pkz (rrS L) (rrU L))), .int .u64 (wv2 (pkz (rrS L) (rrU L))), .int .u64 (wv1 (pkz (rrS L) (rrU L))), .int .u64 (wv0 (pkz (rrS L) (rrU L))), .int .u64 (wv3 (pkz (rrS L) (rrD L))), .int .u64 (wv2 (pkz (rrS L) (rrD L))), .int .u64 (wv1 (pkz (rrS L) (rrD L))), .int .u64 (wv0 (pkz (rrS L) (rrD L)))]) (l := [.int .u64 (wv3 (pkz (rrS L) (rrU L))), .int .u64 (wv2 (pkz (rrS L) (rrU L))), .int .u64 (wv1 (pkz (rrS L) (rrU L))), .int .u64 (wv0 (pkz (rrS L) (rrU L))), .int .u64 (wv3 (pkz (rrS L) (rrD L))), .int .u64 (wv2 (pkz (rrS L) (rrD L))), .int .u64 (wv1 (pkz (rrS L) (rrD L))), .int .u64 (wv0 (pkz (rrS L) (rrD L)))]) (T rfl rfl) (T rfl rfl) sz44 rfl rfl rfl n20.blk rfl ?_)
   intro w24 s25 H26
   have E27 := below_st E23 N21 s25
   refine lw_v (.bool (decide (rrS L))) (dv_assign (T rfl rfl)) ?_
   refine lw_nil ?_
   refine rk_seq ?_
   refine rk_seq ?_
   refine rk_reg ?_
   refine lw_v (.agg #[.int .u64 (wv3 (pkz (rrS L) (rrU L))), .int .u64 (wv2 (pkz (rrS L) (rrU L))), .int .u64 (wv1 (pkz (rrS L) (rrU L))), .int .u64 (wv0 (pkz (rrS L) (rrU L))), .int .u64 (wv3 (pkz (rrS L) (rrD L))), .int .u64 (wv2 (pkz (rrS L) (rrD L))), .int .u64 (wv1 (pkz (rrS L) (rrD L))), .int .u64 (wv0 (pkz (rrS L) (rrD L)))]) (dv_loads (l := [.int .u64 (wv3 (pkz (rrS L) (rrU L))), .int .u64 (wv2 (pkz (rrS L) (rrU L))), .int .u64 (wv1 (pkz (rrS L) (rrU L))), .int .u64 (wv0 (pkz (rrS L) (rrU L))), .int .u64 (wv3 (pkz (rrS L) (rrD L))), .int .u64 (wv2 (pkz (rrS L) (rrD L))), .int .u64 (wv1 (pkz (rrS L) (rrD L))), .int .u64 (wv0 (pkz (rrS L) (rrD L)))]) agt44 sz44 (T rfl rfl) H26 rfl) ?_
   have H28 := (s25.blk (n20.ext.blk H22) (by omega))
   refine lw_v (.agg #[.int .u64 (wv3 (pkz (rrS L) (rrU L))), .int .u64 (wv2 (pkz (rrS L) (rrU L))), .int .u64 (wv1 (pkz (rrS L) (rrU L))), .int .u64 (wv0 (pkz (rrS L) (rrU L))), .int .u64 (wv3 (pkz (rrS L) (rrD L))), .int .u64 (wv2 (pkz (rrS L) (rrD L))), .int .u64 (wv1 (pkz (rrS L) (rrD L))), .int .u64 (wv0 (pkz (rrS L) (rrD L)))]) (dv_loads (l := [.int .u64 (wv3 (pkz (rrS L) (rrU L))), .int .u64 (wv2 (pkz (rrS L) (rrU L))), .int .u64 (wv1 (pkz (rrS L) (rrU L))), .int .u64 (wv0 (pkz (rrS L) (rrU L))), .int .u64 (wv3 (pkz (rrS L) (rrD L))), .int .u64 (wv2 (pkz (rrS L) (rrD L))), .int .u64 (wv1 (pkz (rrS L) (rrD L))), .int .u64 (wv0 (pkz (rrS L) (rrD L)))]) agt44 sz44 (T rfl rfl) H28 rfl) ?_
   refine lw_e (oe_callf (vs := [.agg #[.int .u64 (wv3 (pkz (rrS L) (rrU L))), .int .u64 (wv2 (pkz (rrS L) (rrU L))), .int .u64 (wv1 (pkz (rrS L) (rrU L))), .int .u64 (wv0 (pkz (rrS L) (rrU L))), .int .u64 (wv3 (pkz (rrS L) (rrD L))), .int .u64 (wv2 (pkz (rrS L) (rrD L))), .int .u64 (wv1 (pkz (rrS L) (rrD L))), .int .u64 (wv0 (pkz (rrS L) (rrD L)))], .agg #[.int .u64 (wv3 (pkz (rrS L) (rrU L))), .int .u64 (wv2 (pkz (rrS L) (rrU L))), .int .u64 (wv1 (pkz (rrS L) (rrU L))), .int .u64 (wv0 (pkz (rrS L) (rrU L))), .int .u64 (wv3 (pkz (rrS L) (rrD L))), .int .u64 (wv2 (pkz (rrS L) (rrD L))), .int .u64 (wv1 (pkz (rrS L) (rrD L))), .int .u64 (wv0 (pkz (rrS L) (rrD L)))]]) co39 (ar2 (T rfl rfl) (T rfl rfl)) (eqRatio_ok (x := pkz (rrS L) (rrU L)) (y := pkz (rrS L) (rrD L)) (p := pkz (rrS L) (rrU L)) (q := pkz (rrS L) (rrD L)) (fits_pkz fun _ => rrU_f _) (fits_pkz fun _ => rrD_f _) (fits_pkz fun _ => rrU_f _) (fits_pkz fun _ => rrD_f _) ) ?_)
   rintro _ w29 ⟨rfl, e30⟩
   have E31 := below_ext E27 E27.size e30
   refine lw_v (.bool (decide (¬ ((pkz (rrS L) (rrU L)) = (pkz (rrS L) (rrU L)) ∧ (pkz (rrS L) (rrD L)) = (pkz (rrS L) (rrD L)))))) (dv_notd (p := (pkz (rrS L) (rrU L)) = (pkz (rrS L) (rrU L)) ∧ (pkz (rrS L) (rrD L)) = (pkz (rrS L) (rrD L))) (T rfl rfl)) ?_
   refine lw_v (.bool (decide (¬ ((pkz (rrS L) (rrU L)) = (pkz (rrS L) (rrU L)) ∧ (pkz (rrS L) (rrD L)) = (pkz (rrS L) (rrD L)))))) (dv_move (T rfl rfl)) ?_
   by_cases hb32 : (pkz (rrS L) (rrU L)) = (pkz (rrS L) (rrU L)) ∧ (pkz (rrS L) (rrD L)) = (pkz (rrS L) (rrD L))
   · refine lw_vy (.bool (decide (rrS L))) (d := 24) rfl rfl (congrArg Value.bool (decide_eq_false (not_not_intro hb32))) (dv_move (T rfl rfl)) ?_
     refine lw_vy (.bool (decide (rrS L))) (d := 24) rfl rfl (congrArg Value.bool (decide_eq_false (not_not_intro hb32))) (dv_move (T rfl rfl)) ?_
     refine lw_vy (.bool ((decide (rrS L)) != (decide (rrS L)))) (d := 24) rfl rfl (congrArg Value.bool (decide_eq_false (not_not_intro hb32))) (dv_neqb (a := decide (rrS L)) (b := decide (rrS L)) ub4 (T rfl rfl) (T rfl rfl)) ?_
     refine lw_v (.bool ((decide (rrS L)) != (decide (rrS L)))) (dv_pick_f (T rfl (congrArg Value.bool (decide_eq_false (not_not_intro hb32)))) (T rfl rfl)) ?_
     refine lw_nil ?_
     rcases Bool.eq_false_or_eq_true ((decide (rrS L)) != (decide (rrS L))) with hb33 | hb33
     · refine rk_ct (T rfl (congrArg Value.bool hb33)) ?_
       refine rk_seq ?_
       refine rk_reg ?_
       refine lw_v (.bool false) (dv_assign C) ?_
       refine lw_nil ?_
       refine rk_ret Try.func9 (v := .bool false) (res1 Try.results9 (rv_tmp rfl rfl)) ⟨_, rfl, ?_⟩
       exact ⟨(by exfalso; first | contradiction | exact absurd rfl (by assumption) | (simp at *; done) | grind), E31⟩
     · refine rk_cf (T rfl (congrArg Value.bool hb33)) ?_
       refine rk_skip ?_
       refine rk_seq ?_
       refine rk_reg ?_
       refine lw_v (.bool true) (dv_assign C) ?_
       refine lw_nil ?_
       refine rk_ret Try.func9 (v := .bool true) (res1 Try.results9 (rv_tmp rfl rfl)) ⟨_, rfl, ?_⟩
       exact ⟨rfl, E31⟩
   · refine lw_no (d := 24) rfl rfl (congrArg Value.bool (decide_eq_true hb32)) ?_
     refine lw_no (d := 24) rfl rfl (congrArg Value.bool (decide_eq_true hb32)) ?_
     refine lw_no (d := 24) rfl rfl (congrArg Value.bool (decide_eq_true hb32)) ?_
     refine lw_v (.bool true) (dv_pick_t (T rfl (congrArg Value.bool (decide_eq_true hb32))) C) ?_
     refine lw_nil ?_
     refine rk_ct (T rfl rfl) ?_
     refine rk_seq ?_
     refine rk_reg ?_
     refine lw_v (.bool false) (dv_assign C) ?_
     refine lw_nil ?_
     refine rk_ret Try.func9 (v := .bool false) (res1 Try.results9 (rv_tmp rfl rfl)) ⟨_, rfl, ?_⟩
     exact ⟨(by exfalso; first | contradiction | exact absurd rfl (by assumption) | (simp at *; done) | grind), E31⟩
theorem lawReadRatio_w {w : World} {s : ByteArray} (hm : MLn 2 w) : Ct Try.prog 9 [.string s] w fun v w1 => v = .bool true ∧ Ext w w1 := by
 obtain ⟨L, rfl, hL⟩ := bOf_all s
 exact lawReadRatio_ok hL hm
end Go.Proofs.Ytfmkadgjoechnaa.W
