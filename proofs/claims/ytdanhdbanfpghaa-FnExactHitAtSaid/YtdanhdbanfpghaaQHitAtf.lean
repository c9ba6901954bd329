/- Walks and plain mathematics, packed by a program of this session: declarations that the rows reach. -/
import Derived.Test.YtdanhdbanfpghaaQHitAte
set_option linter.unusedVariables false
set_option linter.unusedSimpArgs false
namespace Go.Proofs.Ytdanhdbanfpghaa.W
open Go Go.RowKit Go.Proofs.Ytdanhdbanfpghaa.Fw
attribute [local irreducible] RunK LW AW DV OE Ct
theorem agt33 : aggB Try.prog 33 = some true := by kernel_rfl
theorem co21 : callOk Try.prog 21 = true := by kernel_rfl
theorem co30 : callOk Try.prog 30 = true := by kernel_rfl
theorem co65 : callOk Try.prog 65 = true := by kernel_rfl
theorem co74 : callOk Try.prog 74 = true := by kernel_rfl
theorem co76 : callOk Try.prog 76 = true := by kernel_rfl
theorem sz33 : sizeB Try.prog 33 = some 12 := by kernel_rfl
set_option maxHeartbeats 1000000 in
theorem sideOf_ok {w : World} {ax ay bx b_y x y u : Int} (fx_ : fits x) (fy_ : fits y) (fu_ : fits u) (hs_ : (-1000000 ≤ ax ∧ ax ≤ 1000000) ∧ (-1000000 ≤ ay ∧ ay ≤ 1000000) ∧ (-1000000 ≤ bx ∧ bx ≤ 1000000) ∧ (-1000000 ≤ b_y ∧ b_y ≤ 1000000)) : Ct Try.prog 76 [.agg #[.int .i64 ax, .int .i64 ay, .int .i64 bx, .int .i64 b_y], .agg #[.int .u64 (wv3 x), .int .u64 (wv2 x), .int .u64 (wv1 x), .int .u64 (wv0 x), .int .u64 (wv3 y), .int .u64 (wv2 y), .int .u64 (wv1 y), .int .u64 (wv0 y), .int .u64 (wv3 u), .int .u64 (wv2 u), .int .u64 (wv1 u), .int .u64 (wv0 u)]] w fun v w1 => v = .int .i64 (sideV ax ay bx b_y x y u) ∧ Ext w w1 := by
 refine ct_run (n := 52) Try.func76 rfl Try.ntmps76 rfl ?_
 have E0 : Below w.heap.size w w := Below.refl _ _
 refine rk_seq ?_
 refine rk_reg ?_
 refine lw_e (oe_box (v := .agg #[.int .i64 ax, .int .i64 ay, .int .i64 bx, .int .i64 b_y]) (cs := #[.int .i64 ax, .int .i64 ay, .int .i64 bx, .int .i64 b_y]) (T rfl rfl) rfl ?_)
 intro b1 w2 n3
 have N4 : w.heap.size ≤ b1 := n3.eq ▸ E0.size
 have E5 := below_ext E0 E0.size n3.ext
 refine lw_e (oe_box (v := .agg #[.int .u64 (wv3 x), .int .u64 (wv2 x), .int .u64 (wv1 x), .int .u64 (wv0 x), .int .u64 (wv3 y), .int .u64 (wv2 y), .int .u64 (wv1 y), .int .u64 (wv0 y), .int .u64 (wv3 u), .int .u64 (wv2 u), .int .u64 (wv1 u), .int .u64 (wv0 u)]) (cs := #[.int .u64 (wv3 x), .int .u64 (wv2 x), .int .u64 (wv1 x), .int .u64 (wv0 x), .int .u64 (wv3 y), .int .u64 (wv2 y), .int .u64 (wv1 y), .int .u64 (wv0 y), .int .u64 (wv3 u), .int .u64 (wv2 u), .int .u64 (wv1 u), .int .u64 (wv0 u)]) (T rfl rfl) rfl ?_)
 intro b6 w7 n8
 have N9 : w.heap.size ≤ b6 := n8.eq ▸ E5.size
 have : b1 < b6 := n8.eq ▸ lt_of_blk n3.blk
 have E10 := below_ext E5 E5.size n8.ext
 refine lw_v (.int .i64 0) (dv_assign C) ?_
 refine lw_nil ?_
 refine rk_seq ?_
 refine rk_reg ?_
 refine lw_v (.agg #[.int .u64 (wv3 x), .int .u64 (wv2 x), .int .u64 (wv1 x), .int .u64 (wv0 x), .int .u64 (wv3 y), .int .u64 (wv2 y), .int .u64 (wv1 y), .int .u64 (wv0 y), .int .u64 (wv3 u), .int .u64 (wv2 u), .int .u64 (wv1 u), .int .u64 (wv0 u)]) (dv_loads (l := [.int .u64 (wv3 x), .int .u64 (wv2 x), .int .u64 (wv1 x), .int .u64 (wv0 x), .int .u64 (wv3 y), .int .u64 (wv2 y), .int .u64 (wv1 y), .int .u64 (wv0 y), .int .u64 (wv3 u), .int .u64 (wv2 u), .int .u64 (wv1 u), .int .u64 (wv0 u)]) agt37 sz37 (T rfl rfl) n8.blk rfl) ?_
 refine lw_e (oe_callf (vs := [.agg #[.int .u64 (wv3 x), .int .u64 (wv2 x), .int .u64 (wv1 x), .int .u64 (wv0 x), .int .u64 (wv3 y), .int .u64 (wv2 y), .int .u64 (wv1 y), .int .u64 (wv0 y), .int .u64 (wv3 u), .int .u64 (wv2 u), .int .u64 (wv1 u), .int .u64 (wv0 u)]]) co90 (ar1 (T rfl rfl)) (spot_ok fx_ fy_ fu_  ) ?_)
 rintro _ w26 ⟨nr11, A12, n13, c14, nr15, A16, n17, c18, nr19, A20, n21, c22, rfl, e27, h23, h24, h25⟩
 have E28 := below_ext E10 E10.size e27
 have lh23 := Num.len (by decide) h23
 have lh24 := Num.len (by decide) h24
 have lh25 := Num.len (by decide) h25
 refine lw_e (oe_alloc ze122 ?_)
 intro b29 w30 n31
 have N32 : w.heap.size ≤ b29 := n31.eq ▸ E28.size
 have H33 := (e27.blk n8.blk)
 have : b6 < b29 := n31.eq ▸ lt_of_blk H33
 have E34 := below_ext E28 E28.size n31.ext
 refine lw_e (oe_store (v := .agg #[.bool nr11, .slice A12 n13 c14, .bool nr15, .slice A16 n17 c18, .bool nr19, .slice A20 n21 c22]) (vs := [.bool nr11, .slice A12 n13 c14, .bool nr15, .slice A16 n17 c18, .bool nr19, .slice A20 n21 c22]) (l := [.bool nr11, .slice A12 n13 c14, .bool nr15, .slice A16 n17 c18, .bool nr19, .slice A20 n21 c22]) (T rfl rfl) (T rfl rfl) sz122 rfl rfl rfl n31.blk rfl ?_)
 intro w35 s36 H37
 have E38 := below_st E34 N32 s36
 refine lw_nil ?_
 refine rk_seq ?_
 have H39 := (s36.blk (n31.ext.blk (e27.blk (n8.ext.blk n3.blk))) (by omega))
 have : b1 < w35.heap.size := lt_of_blk H39
 have H40 := (s36.blk (n31.ext.blk H33) (by omega))
 have : b6 < w35.heap.size := lt_of_blk H40
 have : b29 < w35.heap.size := lt_of_blk H37
 have : w.heap.size ≤ w35.heap.size := E38.size
 refine rk_par2 [fun vq wq_ => vq = .pointer (some ⟨b29, 0, none⟩), fun vq wq_ => vq = .agg #[.bool nr11, .slice A12 n13 c14], fun vq wq_ => vq = .pointer (some ⟨b1, 0, none⟩), fun vq wq_ => vq = .pointer (some ⟨b1, 0, none⟩), fun vq wq_ => vq = .int .i64 ax, fun vq wq_ => ∃ (nr83 : Bool) (A84 : Option Addr) (n85 : Nat) (c86 : Nat), vq = .agg #[.bool nr83, .slice A84 n85 c86] ∧ Num 64 29 .u64 wq_ nr83 A84 n85 c86 ax 64, fun vq wq_ => vq = .pointer (some ⟨b29, 4, none⟩), fun vq wq_ => vq = .agg #[.bool nr19, .slice A20 n21 c22], fun vq wq_ => ∃ (nr119 : Bool) (A120 : Option Addr) (n121 : Nat) (c122 : Nat), vq = .agg #[.bool nr119, .slice A120 n121 c122] ∧ Num 64 29 .u64 wq_ nr119 A120 n121 c122 (ax * u) 320, fun vq wq_ => ∃ (nr141 : Bool) (A142 : Option Addr) (n143 : Nat) (c144 : Nat), vq = .agg #[.bool nr141, .slice A142 n143 c144] ∧ Num 64 29 .u64 wq_ nr141 A142 n143 c144 (x - (ax * u)) 321, fun _ _ => True, fun _ _ => True] [⟨10, 11, 9, 120, #[.bool false, .slice none 0 0]⟩] [120] mo (by kernel_rfl) (by kernel_rfl) ?_ ?_ ?_ ?_ ?_
 · intro e he e2 he2 h; simp only [List.mem_cons, List.not_mem_nil, or_false] at he he2; rcases he with rfl <;> rcases he2 with rfl <;> first | rfl | exact absurd h (by decide)
 · exact ⟨⟨fun v w w2 e h => h, fun v w w2 b cs T fz s hb hT h => h⟩, ⟨fun v w w2 e h => h, fun v w w2 b cs T fz s hb hT h => h⟩, ⟨fun v w w2 e h => h, fun v w w2 b cs T fz s hb hT h => h⟩, ⟨fun v w w2 e h => h, fun v w w2 b cs T fz s hb hT h => h⟩, ⟨fun v w w2 e h => h, fun v w w2 b cs T fz s hb hT h => h⟩, ⟨fun v w w2 e ⟨nr83, A84, n85, c86, hv, h0_⟩ => ⟨nr83, A84, n85, c86, hv, h0_.ext e⟩, fun v w w2 b cs T fz s hb hT ⟨nr83, A84, n85, c86, hv, h0_⟩ => ⟨nr83, A84, n85, c86, hv, h0_.st s hb (ts_ne hT (by decide))⟩⟩, ⟨fun v w w2 e h => h, fun v w w2 b cs T fz s hb hT h => h⟩, ⟨fun v w w2 e h => h, fun v w w2 b cs T fz s hb hT h => h⟩, ⟨fun v w w2 e ⟨nr119, A120, n121, c122, hv, h0_⟩ => ⟨nr119, A120, n121, c122, hv, h0_.ext e⟩, fun v w w2 b cs T fz s hb hT ⟨nr119, A120, n121, c122, hv, h0_⟩ => ⟨nr119, A120, n121, c122, hv, h0_.st s hb (ts_ne hT (by decide))⟩⟩, ⟨fun v w w2 e ⟨nr141, A142, n143, c144, hv, h0_⟩ => ⟨nr141, A142, n143, c144, hv, h0_.ext e⟩, fun v w w2 b cs T fz s hb hT ⟨nr141, A142, n143, c144, hv, h0_⟩ => ⟨nr141, A142, n143, c144, hv, h0_.st s hb (ts_ne hT (by decide))⟩⟩, ⟨fun v w w2 e h => h, fun v w w2 b cs T fz s hb hT h => h⟩, ⟨fun v w w2 e h => h, fun v w w2 b cs T fz s hb hT h => h⟩, trivial⟩
 · refine ⟨?_, ?_, ?_, ?_, ?_, ?_, ?_, ?_, ?_, ?_, ?_, ?_, trivial⟩
   · refine .inr ⟨by kernel_rfl, ?_⟩
     intro fr42 w41 e43 hF44 hD45
     have E46 := below_ext E38 E38.size e43
     exact DV.oe (dv_fieldAddr (a := ⟨b29, 0, none⟩) (a' := ⟨b29, 0, none⟩) fo122_0 (T rfl (hF44 5 (by kernel_rfl))) rfl) ⟨Below.refl _ _, rfl⟩
   · refine .inr ⟨by kernel_rfl, ?_⟩
     intro fr48 w47 e49 hF50 hD51
     have E52 := below_ext E38 E38.size e49
     have hv53 : fr48 10 = .pointer (some ⟨b29, 0, none⟩) := hD51 0 _ (by kernel_rfl) rfl (by kernel_rfl)
     have H54 := (e49.blk H37)
     exact DV.oe (dv_loads (l := [.bool nr11, .slice A12 n13 c14]) agt120 sz120 (T rfl hv53) H54 rfl) ⟨Below.refl _ _, rfl⟩
   · refine .inr ⟨by kernel_rfl, ?_⟩
     intro fr56 w55 e57 hF58 hD59
     have E60 := below_ext E38 E38.size e57
     exact DV.oe (dv_fieldAddr (a := ⟨b1, 0, none⟩) (a' := ⟨b1, 0, none⟩) fo47_0 (T rfl (hF58 2 (by kernel_rfl))) rfl) ⟨Below.refl _ _, rfl⟩
   · refine .inr ⟨by kernel_rfl, ?_⟩
     intro fr62 w61 e63 hF64 hD65
     have E66 := below_ext E38 E38.size e63
     have hv67 : fr62 12 = .pointer (some ⟨b1, 0, none⟩) := hD65 2 _ (by kernel_rfl) rfl (by kernel_rfl)
     exact DV.oe (dv_fieldAddr (a := ⟨b1, 0, none⟩) (a' := ⟨b1, 0, none⟩) fo45_0 (T rfl hv67) rfl) ⟨Below.refl _ _, rfl⟩
   · refine .inr ⟨by kernel_rfl, ?_⟩
     intro fr69 w68 e70 hF71 hD72
     have E73 := below_ext E38 E38.size e70
     have hv74 : fr69 13 = .pointer (some ⟨b1, 0, none⟩) := hD72 3 _ (by kernel_rfl) rfl (by kernel_rfl)
     have H75 := (e70.blk H39)
     exact DV.oe (dv_load1 (b := b1) (o := 0) agt2 (T rfl hv74) H75 rfl) ⟨Below.refl _ _, rfl⟩
   · refine .inr ⟨by kernel_rfl, ?_⟩
     intro fr77 w76 e78 hF79 hD80
     have E81 := below_ext E38 E38.size e78
     have hv82 : fr77 14 = .int .i64 ax := hD80 4 _ (by kernel_rfl) rfl (by kernel_rfl)
     refine id (oe_callf (vs := [.int .i64 ax]) co92 (ar1 (T rfl hv82)) (whole_ok  (by omega)) ?_)
     rintro _ w88 ⟨nr83, A84, n85, c86, rfl, e89, h87⟩
     have E90 := below_ext E81 E81.size e89
     have lh87 := Num.len (by decide) h87
     exact ⟨e89, nr83, A84, n85, c86, rfl, h87⟩
   · refine .inr ⟨by kernel_rfl, ?_⟩
     intro fr92 w91 e93 hF94 hD95
     have E96 := below_ext E38 E38.size e93
     exact DV.oe (dv_fieldAddr (a := ⟨b29, 0, none⟩) (a' := ⟨b29, 4, none⟩) fo122_2 (T rfl (hF94 5 (by kernel_rfl))) rfl) ⟨Below.refl _ _, rfl⟩
   · refine .inr ⟨by kernel_rfl, ?_⟩
     intro fr98 w97 e99 hF100 hD101
     have E102 := below_ext E38 E38.size e99
     have hv103 : fr98 16 = .pointer (some ⟨b29, 4, none⟩) := hD101 6 _ (by kernel_rfl) rfl (by kernel_rfl)
     have H104 := (e99.blk H37)
     exact DV.oe (dv_loads (l := [.bool nr19, .slice A20 n21 c22]) agt120 sz120 (T rfl hv103) H104 rfl) ⟨Below.refl _ _, rfl⟩
   · refine .inr ⟨by kernel_rfl, ?_⟩
     intro fr106 w105 e107 hF108 hD109
     have E110 := below_ext E38 E38.size e107
     obtain ⟨nr111, A112, n113, c114, hv115, hp116⟩ : ∃ (nr83 : Bool) (A84 : Option Addr) (n85 : Nat) (c86 : Nat), fr106 15 = .agg #[.bool nr83, .slice A84 n85 c86] ∧ Num 64 29 .u64 w105 nr83 A84 n85 c86 ax 64 := hD109 5 _ (by kernel_rfl) rfl (by kernel_rfl)
     have lhp116 := Num.len (by decide) hp116
     have hv117 : fr106 17 = .agg #[.bool nr19, .slice A20 n21 c22] := hD109 7 _ (by kernel_rfl) rfl (by kernel_rfl)
     have h118 := (((h25.ext n31.ext).st s36 n31.blk (by decide)).ext e107)
     refine id (oe_callf (vs := [.agg #[.bool nr111, .slice A112 n113 c114], .agg #[.bool nr19, .slice A20 n21 c22]]) co93 (ar2 (T rfl hv115) (T rfl hv117)) (nby_ok hp116 h118 (by first | decide | omega) (by first | decide | omega)) ?_)
     rintro _ w124 ⟨nr119, A120, n121, c122, rfl, e125, h123⟩
     have E126 := below_ext E110 E110.size e125
     have lh123 := Num.len (by decide) h123
     exact ⟨e125, nr119, A120, n121, c122, rfl, h123⟩
   · refine .inr ⟨by kernel_rfl, ?_⟩
     intro fr128 w127 e129 hF130 hD131
     have E132 := below_ext E38 E38.size e129
     have hv133 : fr128 11 = .agg #[.bool nr11, .slice A12 n13 c14] := hD131 1 _ (by kernel_rfl) rfl (by kernel_rfl)
     obtain ⟨nr134, A135, n136, c137, hv138, hp139⟩ : ∃ (nr119 : Bool) (A120 : Option Addr) (n121 : Nat) (c122 : Nat), fr128 18 = .agg #[.bool nr119, .slice A120 n121 c122] ∧ Num 64 29 .u64 w127 nr119 A120 n121 c122 (ax * u) 320 := hD131 8 _ (by kernel_rfl) rfl (by kernel_rfl)
     have lhp139 := Num.len (by decide) hp139
     have h140 := (((h23.ext n31.ext).st s36 n31.blk (by decide)).ext e129)
     refine id (oe_callf (vs := [.agg #[.bool nr11, .slice A12 n13 c14], .agg #[.bool nr134, .slice A135 n136 c137]]) co107 (ar2 (T rfl hv133) (T rfl hv138)) (less_ok h140 hp139 (by first | decide | omega) (by first | decide | omega)) ?_)
     rintro _ w146 ⟨nr141, A142, n143, c144, rfl, e147, h145⟩
     have E148 := below_ext E132 E132.size e147
     have lh145 := Num.len (by decide) h145
     exact ⟨e147, nr141, A142, n143, c144, rfl, h145⟩
   · exact .inl (.inr ⟨by kernel_rfl, fun _ _ => trivial⟩)
   · exact .inl (.inl (by kernel_rfl))
 · refine ⟨⟨⟨_, rfl, fun _ _ => oe_alloc ze120 fun b w hn => ⟨b, rfl, hn⟩⟩, ⟨_, rfl, ?_⟩⟩, trivial⟩
   · intro fr150 w149 b154 e151 hF152 hD153 hA155 hB156
     have E157 := below_ext E38 E38.size e151
     obtain ⟨nr158, A159, n160, c161, hv162, hp163⟩ : ∃ (nr141 : Bool) (A142 : Option Addr) (n143 : Nat) (c144 : Nat), fr150 19 = .agg #[.bool nr141, .slice A142 n143 c144] ∧ Num 64 29 .u64 w149 nr141 A142 n143 c144 (x - (ax * u)) 321 := hD153 9 _ (by kernel_rfl) rfl (by kernel_rfl)
     have lhp163 := Num.len (by decide) hp163
     refine id (oe_store (v := .agg #[.bool nr158, .slice A159 n160 c161]) (vs := [.bool nr158, .slice A159 n160 c161]) (l := [.bool nr158, .slice A159 n160 c161]) (T rfl hA155) (T rfl hv162) sz120 rfl rfl rfl hB156 rfl ?_)
     intro w164 s165 H166
     exact ⟨s165, H166.trans (congrArg (fun v : Value => some (Obj.cells v.cells 120)) (show fr150 19 = _ from hv162).symm)⟩
 intro fr169 w168 e170 hF171 hP172 hM173 hN174
 have E175 := below_ext E38 E38.size e170
 obtain ⟨_, _, _, _, _, _, _, _, _, p176, _, _, _⟩ := hP172
 obtain ⟨nr177, A178, n179, c180, hv181, hp182⟩ : ∃ (nr141 : Bool) (A142 : Option Addr) (n143 : Nat) (c144 : Nat), fr169 19 = .agg #[.bool nr141, .slice A142 n143 c144] ∧ Num 64 29 .u64 w168 nr141 A142 n143 c144 (x - (ax * u)) 321 := p176.resolve_left (nst (by kernel_rfl))
 have lhp182 := Num.len (by decide) hp182
 obtain ⟨⟨b183, hA184, hB185, hC186⟩, _⟩ := hM173
 have H187 : w168.heap[b183]? = some (.cells #[.bool nr177, .slice A178 n179 c180] 120) := hC186.trans (congrArg (fun v : Value => some (Obj.cells v.cells 120)) hv181)
 have N188 : w.heap.size ≤ b183 := by omega
 refine rk_seq ?_
 have H189 := (e170.blk H39)
 have : b1 < w168.heap.size := lt_of_blk H189
 have H190 := (e170.blk H40)
 have : b6 < w168.heap.size := lt_of_blk H190
 have H191 := (e170.blk H37)
 have : b29 < w168.heap.size := lt_of_blk H191
 have : b183 < w168.heap.size := lt_of_blk H187
 have : w.heap.size ≤ w168.heap.size := E175.size
 refine rk_par2 [fun vq wq_ => vq = .pointer (some ⟨b29, 2, none⟩), fun vq wq_ => vq = .agg #[.bool nr15, .slice A16 n17 c18], fun vq wq_ => vq = .pointer (some ⟨b1, 0, none⟩), fun vq wq_ => vq = .pointer (some ⟨b1, 1, none⟩), fun vq wq_ => vq = .int .i64 ay, fun vq wq_ => ∃ (nr234 : Bool) (A235 : Option Addr) (n236 : Nat) (c237 : Nat), vq = .agg #[.bool nr234, .slice A235 n236 c237] ∧ Num 64 29 .u64 wq_ nr234 A235 n236 c237 ay 64, fun vq wq_ => vq = .pointer (some ⟨b29, 4, none⟩), fun vq wq_ => vq = .agg #[.bool nr19, .slice A20 n21 c22], fun vq wq_ => ∃ (nr270 : Bool) (A271 : Option Addr) (n272 : Nat) (c273 : Nat), vq = .agg #[.bool nr270, .slice A271 n272 c273] ∧ Num 64 29 .u64 wq_ nr270 A271 n272 c273 (ay * u) 320, fun vq wq_ => ∃ (nr292 : Bool) (A293 : Option Addr) (n294 : Nat) (c295 : Nat), vq = .agg #[.bool nr292, .slice A293 n294 c295] ∧ Num 64 29 .u64 wq_ nr292 A293 n294 c295 (y - (ay * u)) 321, fun _ _ => True, fun _ _ => True] [⟨10, 11, 9, 120, #[.bool false, .slice none 0 0]⟩] [120] mo (by kernel_rfl) (by kernel_rfl) ?_ ?_ ?_ ?_ ?_
 · intro e he e2 he2 h; simp only [List.mem_cons, List.not_mem_nil, or_false] at he he2; rcases he with rfl <;> rcases he2 with rfl <;> first | rfl | exact absurd h (by decide)
 · exact ⟨⟨fun v w w2 e h => h, fun v w w2 b cs T fz s hb hT h => h⟩, ⟨fun v w w2 e h => h, fun v w w2 b cs T fz s hb hT h => h⟩, ⟨fun v w w2 e h => h, fun v w w2 b cs T fz s hb hT h => h⟩, ⟨fun v w w2 e h => h, fun v w w2 b cs T fz s hb hT h => h⟩, ⟨fun v w w2 e h => h, fun v w w2 b cs T fz s hb hT h => h⟩, ⟨fun v w w2 e ⟨nr234, A235, n236, c237, hv, h0_⟩ => ⟨nr234, A235, n236, c237, hv, h0_.ext e⟩, fun v w w2 b cs T fz s hb hT ⟨nr234, A235, n236, c237, hv, h0_⟩ => ⟨nr234, A235, n236, c237, hv, h0_.st s hb (ts_ne hT (by decide))⟩⟩, ⟨fun v w w2 e h => h, fun v w w2 b cs T fz s hb hT h => h⟩, ⟨fun v w w2 e h => h, fun v w w2 b cs T fz s hb hT h => h⟩, ⟨fun v w w2 e ⟨nr270, A271, n272, c273, hv, h0_⟩ => ⟨nr270, A271, n272, c273, hv, h0_.ext e⟩, fun v w w2 b cs T fz s hb hT ⟨nr270, A271, n272, c273, hv, h0_⟩ => ⟨nr270, A271, n272, c273, hv, h0_.st s hb (ts_ne hT (by decide))⟩⟩, ⟨fun v w w2 e ⟨nr292, A293, n294, c295, hv, h0_⟩ => ⟨nr292, A293, n294, c295, hv, h0_.ext e⟩, fun v w w2 b cs T fz s hb hT ⟨nr292, A293, n294, c295, hv, h0_⟩ => ⟨nr292, A293, n294, c295, hv, h0_.st s hb (ts_ne hT (by decide))⟩⟩, ⟨fun v w w2 e h => h, fun v w w2 b cs T fz s hb hT h => h⟩, ⟨fun v w w2 e h => h, fun v w w2 b cs T fz s hb hT h => h⟩, trivial⟩
 · refine ⟨?_, ?_, ?_, ?_, ?_, ?_, ?_, ?_, ?_, ?_, ?_, ?_, trivial⟩
   · refine .inr ⟨by kernel_rfl, ?_⟩
     intro fr193 w192 e194 hF195 hD196
     have E197 := below_ext E175 E175.size e194
     exact DV.oe (dv_fieldAddr (a := ⟨b29, 0, none⟩) (a' := ⟨b29, 2, none⟩) fo122_1 (T rfl ((hF195 5 (by kernel_rfl)).trans (hF171 5 rfl))) rfl) ⟨Below.refl _ _, rfl⟩
   · refine .inr ⟨by kernel_rfl, ?_⟩
     intro fr199 w198 e200 hF201 hD202
     have E203 := below_ext E175 E175.size e200
     have hv204 : fr199 20 = .pointer (some ⟨b29, 2, none⟩) := hD202 0 _ (by kernel_rfl) rfl (by kernel_rfl)
     have H205 := (e200.blk H191)
     exact DV.oe (dv_loads (l := [.bool nr15, .slice A16 n17 c18]) agt120 sz120 (T rfl hv204) H205 rfl) ⟨Below.refl _ _, rfl⟩
   · refine .inr ⟨by kernel_rfl, ?_⟩
     intro fr207 w206 e208 hF209 hD210
     have E211 := below_ext E175 E175.size e208
     exact DV.oe (dv_fieldAddr (a := ⟨b1, 0, none⟩) (a' := ⟨b1, 0, none⟩) fo47_0 (T rfl ((hF209 2 (by kernel_rfl)).trans (hF171 2 rfl))) rfl) ⟨Below.refl _ _, rfl⟩
   · refine .inr ⟨by kernel_rfl, ?_⟩
     intro fr213 w212 e214 hF215 hD216
     have E217 := below_ext E175 E175.size e214
     have hv218 : fr213 22 = .pointer (some ⟨b1, 0, none⟩) := hD216 2 _ (by kernel_rfl) rfl (by kernel_rfl)
     exact DV.oe (dv_fieldAddr (a := ⟨b1, 0, none⟩) (a' := ⟨b1, 1, none⟩) fo45_1 (T rfl hv218) rfl) ⟨Below.refl _ _, rfl⟩
   · refine .inr ⟨by kernel_rfl, ?_⟩
     intro fr220 w219 e221 hF222 hD223
     have E224 := below_ext E175 E175.size e221
     have hv225 : fr220 23 = .pointer (some ⟨b1, 1, none⟩) := hD223 3 _ (by kernel_rfl) rfl (by kernel_rfl)
     have H226 := (e221.blk H189)
     exact DV.oe (dv_load1 (b := b1) (o := 1) agt2 (T rfl hv225) H226 rfl) ⟨Below.refl _ _, rfl⟩
   · refine .inr ⟨by kernel_rfl, ?_⟩
     intro fr228 w227 e229 hF230 hD231
     have E232 := below_ext E175 E175.size e229
     have hv233 : fr228 24 = .int .i64 ay := hD231 4 _ (by kernel_rfl) rfl (by kernel_rfl)
     refine id (oe_callf (vs := [.int .i64 ay]) co92 (ar1 (T rfl hv233)) (whole_ok  (by omega)) ?_)
     rintro _ w239 ⟨nr234, A235, n236, c237, rfl, e240, h238⟩
     have E241 := below_ext E232 E232.size e240
     have lh238 := Num.len (by decide) h238
     exact ⟨e240, nr234, A235, n236, c237, rfl, h238⟩
   · refine .inr ⟨by kernel_rfl, ?_⟩
     intro fr243 w242 e244 hF245 hD246
     have E247 := below_ext E175 E175.size e244
     exact DV.oe (dv_fieldAddr (a := ⟨b29, 0, none⟩) (a' := ⟨b29, 4, none⟩) fo122_2 (T rfl ((hF245 5 (by kernel_rfl)).trans (hF171 5 rfl))) rfl) ⟨Below.refl _ _, rfl⟩
   · refine .inr ⟨by kernel_rfl, ?_⟩
     intro fr249 w248 e250 hF251 hD252
     have E253 := below_ext E175 E175.size e250
     have hv254 : fr249 26 = .pointer (some ⟨b29, 4, none⟩) := hD252 6 _ (by kernel_rfl) rfl (by kernel_rfl)
     have H255 := (e250.blk H191)
     exact DV.oe (dv_loads (l := [.bool nr19, .slice A20 n21 c22]) agt120 sz120 (T rfl hv254) H255 rfl) ⟨Below.refl _ _, rfl⟩
   · refine .inr ⟨by kernel_rfl, ?_⟩
     intro fr257 w256 e258 hF259 hD260
     have E261 := below_ext E175 E175.size e258
     obtain ⟨nr262, A263, n264, c265, hv266, hp267⟩ : ∃ (nr234 : Bool) (A235 : Option Addr) (n236 : Nat) (c237 : Nat), fr257 25 = .agg #[.bool nr234, .slice A235 n236 c237] ∧ Num 64 29 .u64 w256 nr234 A235 n236 c237 ay 64 := hD260 5 _ (by kernel_rfl) rfl (by kernel_rfl)
     have lhp267 := Num.len (by decide) hp267
     have hv268 : fr257 27 = .agg #[.bool nr19, .slice A20 n21 c22] := hD260 7 _ (by kernel_rfl) rfl (by kernel_rfl)
     have h269 := ((((h25.ext n31.ext).st s36 n31.blk (by decide)).ext e170).ext e258)
     refine id (oe_callf (vs := [.agg #[.bool nr262, .slice A263 n264 c265], .agg #[.bool nr19, .slice A20 n21 c22]]) co93 (ar2 (T rfl hv266) (T rfl hv268)) (nby_ok hp267 h269 (by first | decide | omega) (by first | decide | omega)) ?_)
     rintro _ w275 ⟨nr270, A271, n272, c273, rfl, e276, h274⟩
     have E277 := below_ext E261 E261.size e276
     have lh274 := Num.len (by decide) h274
     exact ⟨e276, nr270, A271, n272, c273, rfl, h274⟩
   · refine .inr ⟨by kernel_rfl, ?_⟩
     intro fr279 w278 e280 hF281 hD282
     have E283 := below_ext E175 E175.size e280
     have hv284 : fr279 21 = .agg #[.bool nr15, .slice A16 n17 c18] := hD282 1 _ (by kernel_rfl) rfl (by kernel_rfl)
     obtain ⟨nr285, A286, n287, c288, hv289, hp290⟩ : ∃ (nr270 : Bool) (A271 : Option Addr) (n272 : Nat) (c273 : Nat), fr279 28 = .agg #[.bool nr270, .slice A271 n272 c273] ∧ Num 64 29 .u64 w278 nr270 A271 n272 c273 (ay * u) 320 := hD282 8 _ (by kernel_rfl) rfl (by kernel_rfl)
     have lhp290 := Num.len (by decide) hp290
     have h291 := ((((h24.ext n31.ext).st s36 n31.blk (by decide)).ext e170).ext e280)
     refine id (oe_callf (vs := [.agg #[.bool nr15, .slice A16 n17 c18], .agg #[.bool nr285, .slice A286 n287 c288]]) co107 (ar2 (T rfl hv284) (T rfl hv289)) (less_ok h291 hp290 (by first | decide | omega) (by first | decide | omega)) ?_)
     rintro _ w297 ⟨nr292, A293, n294, c295, rfl, e298, h296⟩
     have E299 := below_ext E283 E283.size e298
     have lh296 := Num.len (by decide) h296
     exact ⟨e298, nr292, A293, n294, c295, rfl, h296⟩
   · exact .inl (.inr ⟨by kernel_rfl, fun _ _ => trivial⟩)
   · exact .inl (.inl (by kernel_rfl))
 · refine ⟨⟨⟨_, rfl, fun _ _ => oe_alloc ze120 fun b w hn => ⟨b, rfl, hn⟩⟩, ⟨_, rfl, ?_⟩⟩, trivial⟩
   · intro fr301 w300 b305 e302 hF303 hD304 hA306 hB307
     have E308 := below_ext E175 E175.size e302
     obtain ⟨nr309, A310, n311, c312, hv313, hp314⟩ : ∃ (nr292 : Bool) (A293 : Option Addr) (n294 : Nat) (c295 : Nat), fr301 29 = .agg #[.bool nr292, .slice A293 n294 c295] ∧ Num 64 29 .u64 w300 nr292 A293 n294 c295 (y - (ay * u)) 321 := hD304 9 _ (by kernel_rfl) rfl (by kernel_rfl)
     have lhp314 := Num.len (by decide) hp314
     refine id (oe_store (v := .agg #[.bool nr309, .slice A310 n311 c312]) (vs := [.bool nr309, .slice A310 n311 c312]) (l := [.bool nr309, .slice A310 n311 c312]) (T rfl hA306) (T rfl hv313) sz120 rfl rfl rfl hB307 rfl ?_)
     intro w315 s316 H317
     exact ⟨s316, H317.trans (congrArg (fun v : Value => some (Obj.cells v.cells 120)) (show fr301 29 = _ from hv313).symm)⟩
 intro fr320 w319 e321 hF322 hP323 hM324 hN325
 have E326 := below_ext E175 E175.size e321
 obtain ⟨_, _, _, _, _, _, _, _, _, p327, _, _, _⟩ := hP323
 obtain ⟨nr328, A329, n330, c331, hv332, hp333⟩ : ∃ (nr292 : Bool) (A293 : Option Addr) (n294 : Nat) (c295 : Nat), fr320 29 = .agg #[.bool nr292, .slice A293 n294 c295] ∧ Num 64 29 .u64 w319 nr292 A293 n294 c295 (y - (ay * u)) 321 := p327.resolve_left (nst (by kernel_rfl))
 have lhp333 := Num.len (by decide) hp333
 obtain ⟨⟨b334, hA335, hB336, hC337⟩, _⟩ := hM324
 have H338 : w319.heap[b334]? = some (.cells #[.bool nr328, .slice A329 n330 c331] 120) := hC337.trans (congrArg (fun v : Value => some (Obj.cells v.cells 120)) hv332)
 have N339 : w.heap.size ≤ b334 := by omega
 refine rk_seq ?_
 refine rk_any (fun w => w.heap[b1]? = some (.cells #[.int .i64 ax, .int .i64 ay, .int .i64 bx, .int .i64 b_y] 47) ∧ w.heap[b334]? = some (.cells #[.bool nr328, .slice A329 n330 c331] 120) ∧ w.heap[b183]? = some (.cells #[.bool nr177, .slice A178 n179 c180] 120)) [22] mo ?_
 intro w340 d341
 have E342 := below_ext E326 E326.size d341.ext
 have H343 := (d341.ext.blk (e321.blk H189))
 have H344 := (d341.ext.blk H338)
 have H345 := (d341.ext.blk (e321.blk H187))
 refine aw_pure 0 (.pointer (some ⟨b1, 2, none⟩)) rfl (by kernel_rfl) .none ⟨H343, H344, H345⟩ (fun _ => dv_fieldAddr (a := ⟨b1, 0, none⟩) (a' := ⟨b1, 2, none⟩) fo47_1 (T rfl ((hF322 2 rfl).trans (hF171 2 rfl))) rfl) ?_
 refine aw_pure 1 (.pointer (some ⟨b1, 2, none⟩)) rfl (by kernel_rfl) .none ⟨H343, H344, H345⟩ (fun _ => dv_fieldAddr (a := ⟨b1, 2, none⟩) (a' := ⟨b1, 2, none⟩) fo45_0 (T rfl rfl) rfl) ?_
 refine aw_load 2 (.int .i64 bx) rfl (by kernel_rfl) .none ⟨H343, H344, H345⟩ (fun _ s => dv_load1 (b := b1) (o := 2) agt2 (T rfl rfl) s.1 rfl) ?_
 refine aw_pure 3 (.pointer (some ⟨b1, 0, none⟩)) rfl (by kernel_rfl) .none ⟨H343, H344, H345⟩ (fun _ => dv_fieldAddr (a := ⟨b1, 0, none⟩) (a' := ⟨b1, 0, none⟩) fo47_0 (T rfl ((hF322 2 rfl).trans (hF171 2 rfl))) rfl) ?_
 refine aw_pure 4 (.pointer (some ⟨b1, 0, none⟩)) rfl (by kernel_rfl) .none ⟨H343, H344, H345⟩ (fun _ => dv_fieldAddr (a := ⟨b1, 0, none⟩) (a' := ⟨b1, 0, none⟩) fo45_0 (T rfl rfl) rfl) ?_
 refine aw_load 5 (.int .i64 ax) rfl (by kernel_rfl) .none ⟨H343, H344, H345⟩ (fun _ s => dv_load1 (b := b1) (o := 0) agt2 (T rfl rfl) s.1 rfl) ?_
 refine aw_pure 6 (.int .i64 (bx - ax)) rfl (by kernel_rfl) .none ⟨H343, H344, H345⟩ (fun _ => dv_sub (a := bx) (b := ax) (z := bx - ax) (T rfl rfl) (T rfl rfl) (wr_i64 (by omega) (by omega))) ?_
 refine aw_load 8 (.agg #[.bool nr328, .slice A329 n330 c331]) rfl (by kernel_rfl) .none ⟨H343, H344, H345⟩ (fun _ s => dv_loads (l := [.bool nr328, .slice A329 n330 c331]) agt120 sz120 (T rfl hA335) s.2.1 rfl) ?_
 refine aw_pure 10 (.pointer (some ⟨b1, 2, none⟩)) rfl (by kernel_rfl) .none ⟨H343, H344, H345⟩ (fun _ => dv_fieldAddr (a := ⟨b1, 0, none⟩) (a' := ⟨b1, 2, none⟩) fo47_1 (T rfl ((hF322 2 rfl).trans (hF171 2 rfl))) rfl) ?_
 refine aw_pure 11 (.pointer (some ⟨b1, 3, none⟩)) rfl (by kernel_rfl) .none ⟨H343, H344, H345⟩ (fun _ => dv_fieldAddr (a := ⟨b1, 2, none⟩) (a' := ⟨b1, 3, none⟩) fo45_1 (T rfl rfl) rfl) ?_
 refine aw_load 12 (.int .i64 b_y) rfl (by kernel_rfl) .none ⟨H343, H344, H345⟩ (fun _ s => dv_load1 (b := b1) (o := 3) agt2 (T rfl rfl) s.1 rfl) ?_
 refine aw_pure 13 (.pointer (some ⟨b1, 0, none⟩)) rfl (by kernel_rfl) .none ⟨H343, H344, H345⟩ (fun _ => dv_fieldAddr (a := ⟨b1, 0, none⟩) (a' := ⟨b1, 0, none⟩) fo47_0 (T rfl ((hF322 2 rfl).trans (hF171 2 rfl))) rfl) ?_
 refine aw_pure 14 (.pointer (some ⟨b1, 1, none⟩)) rfl (by kernel_rfl) .none ⟨H343, H344, H345⟩ (fun _ => dv_fieldAddr (a := ⟨b1, 0, none⟩) (a' := ⟨b1, 1, none⟩) fo45_1 (T rfl rfl) rfl) ?_
 refine aw_load 15 (.int .i64 ay) rfl (by kernel_rfl) .none ⟨H343, H344, H345⟩ (fun _ s => dv_load1 (b := b1) (o := 1) agt2 (T rfl rfl) s.1 rfl) ?_
 refine aw_pure 16 (.int .i64 (b_y - ay)) rfl (by kernel_rfl) .none ⟨H343, H344, H345⟩ (fun _ => dv_sub (a := b_y) (b := ay) (z := b_y - ay) (T rfl rfl) (T rfl rfl) (wr_i64 (by omega) (by omega))) ?_
 refine aw_load 18 (.agg #[.bool nr177, .slice A178 n179 c180]) rfl (by kernel_rfl) .none ⟨H343, H344, H345⟩ (fun _ s => dv_loads (l := [.bool nr177, .slice A178 n179 c180]) agt120 sz120 (T rfl ((hF322 6 rfl).trans hA184)) s.2.2 rfl) ?_
 refine aw_one 7 rfl (by kernel_rfl) .none (oe_callf (vs := [.int .i64 (bx - ax)]) co92 (ar1 (T rfl rfl)) (whole_ok  (by omega)) ?_)
 rintro _ w351 ⟨nr346, A347, n348, c349, rfl, e352, h350⟩
 have E353 := below_ext E342 E342.size e352
 have lh350 := Num.len (by decide) h350
 have H354 := (e352.blk H343)
 have H355 := (e352.blk H344)
 have H356 := (e352.blk H345)
 refine ⟨.inr ⟨H354, H355, H356⟩, ?_⟩
 have h357 := ((hp333.ext d341.ext).ext e352)
 refine aw_one 9 rfl (by kernel_rfl) .none (oe_callf (vs := [.agg #[.bool nr346, .slice A347 n348 c349], .agg #[.bool nr328, .slice A329 n330 c331]]) co93 (ar2 (T rfl rfl) (T rfl rfl)) (nby_ok h350 h357 (by first | decide | omega) (by first | decide | omega)) ?_)
 rintro _ w363 ⟨nr358, A359, n360, c361, rfl, e364, h362⟩
 have E365 := below_ext E353 E353.size e364
 have lh362 := Num.len (by decide) h362
 have H366 := (e364.blk H354)
 have H367 := (e364.blk H355)
 have H368 := (e364.blk H356)
 refine ⟨.inr ⟨H366, H367, H368⟩, ?_⟩
 refine aw_one 17 rfl (by kernel_rfl) .none (oe_callf (vs := [.int .i64 (b_y - ay)]) co92 (ar1 (T rfl rfl)) (whole_ok  (by omega)) ?_)
 rintro _ w374 ⟨nr369, A370, n371, c372, rfl, e375, h373⟩
 have E376 := below_ext E365 E365.size e375
 have lh373 := Num.len (by decide) h373
 have H377 := (e375.blk H366)
 have H378 := (e375.blk H367)
 have H379 := (e375.blk H368)
 refine ⟨.inr ⟨H377, H378, H379⟩, ?_⟩
 have h380 := (((((hp182.ext e321).ext d341.ext).ext e352).ext e364).ext e375)
 refine aw_one 19 rfl (by kernel_rfl) .none (oe_callf (vs := [.agg #[.bool nr369, .slice A370 n371 c372], .agg #[.bool nr177, .slice A178 n179 c180]]) co93 (ar2 (T rfl rfl) (T rfl rfl)) (nby_ok h373 h380 (by first | decide | omega) (by first | decide | omega)) ?_)
 rintro _ w386 ⟨nr381, A382, n383, c384, rfl, e387, h385⟩
 have E388 := below_ext E376 E376.size e387
 have lh385 := Num.len (by decide) h385
 have H389 := (e387.blk H377)
 have H390 := (e387.blk H378)
 have H391 := (e387.blk H379)
 refine ⟨.inr ⟨H389, H390, H391⟩, ?_⟩
 have h392 := ((h362.ext e375).ext e387)
 refine aw_one 20 rfl (by kernel_rfl) .none (oe_callf (vs := [.agg #[.bool nr358, .slice A359 n360 c361], .agg #[.bool nr381, .slice A382 n383 c384]]) co107 (ar2 (T rfl rfl) (T rfl rfl)) (less_ok h392 h385 (by first | decide | omega) (by first | decide | omega)) ?_)
 rintro _ w398 ⟨nr393, A394, n395, c396, rfl, e399, h397⟩
 have E400 := below_ext E388 E388.size e399
 have lh397 := Num.len (by decide) h397
 have H401 := (e399.blk H389)
 have H402 := (e399.blk H390)
 have H403 := (e399.blk H391)
 refine ⟨.inr ⟨H401, H402, H403⟩, ?_⟩
 refine aw_one 21 rfl (by kernel_rfl) .none (oe_callf (vs := [.agg #[.bool nr393, .slice A394 n395 c396]]) co132 (ar1 (T rfl rfl)) (nsign_ok h397 ) ?_)
 rintro _ w404 ⟨rfl, e405⟩
 have E406 := below_ext E400 E400.size e405
 have H407 := (e405.blk H401)
 have H408 := (e405.blk H402)
 have H409 := (e405.blk H403)
 refine ⟨.inr ⟨H407, H408, H409⟩, ?_⟩
 refine aw_last 22 (.int .i64 (sgnI (((bx - ax) * (y - (ay * u))) - ((b_y - ay) * (x - (ax * u)))))) rfl (by kernel_rfl) .none (fun _ => dv_assign (T rfl rfl)) ?_
 refine aw_done (by kernel_rfl) ?_
 refine rk_ret Try.func76 (v := .int .i64 (sgnI (((bx - ax) * (y - (ay * u))) - ((b_y - ay) * (x - (ax * u)))))) (res1 Try.results76 (rv_tmp rfl rfl)) ⟨_, rfl, ?_⟩
 exact ⟨(vi (by rfl)), E406⟩
end Go.Proofs.Ytdanhdbanfpghaa.W
set_option linter.unusedVariables false
set_option linter.unusedSimpArgs false
namespace Go.Proofs.Ytdanhdbanfpghaa.W
open Go Go.RowKit Go.Proofs.Ytdanhdbanfpghaa.Fw
attribute [local irreducible] RunK LW AW DV OE Ct
theorem agt43 : aggB Try.prog 43 = some true := by kernel_rfl
theorem co145 : callOk Try.prog 145 = true := by kernel_rfl
theorem co162 : callOk Try.prog 162 = true := by kernel_rfl
theorem co175 : callOk Try.prog 175 = true := by kernel_rfl
theorem co24 : callOk Try.prog 24 = true := by kernel_rfl
theorem co94 : callOk Try.prog 94 = true := by kernel_rfl
theorem co95 : callOk Try.prog 95 = true := by kernel_rfl
theorem pl37 : placesB Try.prog 37 = some [(0, 4), (4, 4), (8, 4)] := by kernel_rfl
theorem sz43 : sizeB Try.prog 43 = some 4 := by kernel_rfl
set_option maxHeartbeats 1000000 in
theorem iWideOf_ok {w : World} {x : Int}  (hx : -9223372036854775808 ≤ x ∧ x < 9223372036854775808) : Ct Try.prog 175 [.int .i64 x] w fun v w1 => v = .agg #[.int .u64 (wv3 x), .int .u64 (wv2 x), .int .u64 (wv1 x), .int .u64 (wv0 x)] ∧ Ext w w1 := by
 refine ct_run (n := 12) Try.func175 rfl Try.ntmps175 rfl ?_
 have E0 : Below w.heap.size w w := Below.refl _ _
 refine rk_seq ?_
 refine rk_reg ?_
 refine lw_e (oe_alloc ze35 ?_)
 intro b1 w2 n3
 have N4 : w.heap.size ≤ b1 := n3.eq ▸ E0.size
 have E5 := below_ext E0 E0.size n3.ext
 refine lw_nil ?_
 refine rk_seq ?_
 refine rk_reg ?_
 refine lw_v (.int .i64 x) (dv_move (T rfl rfl)) ?_
 refine lw_e (oe_callf (vs := [.int .i64 x]) co92 (ar1 (T rfl rfl)) (whole_ok  (by omega)) ?_)
 rintro _ w11 ⟨nr6, A7, n8, c9, rfl, e12, h10⟩
 have E13 := below_ext E5 E5.size e12
 have lh10 := Num.len (by decide) h10
 refine lw_e (oe_callf (vs := [.agg #[.bool nr6, .slice A7 n8 c9]]) co162 (ar1 (T rfl rfl)) (nwide_ok h10 (by first | decide | omega)) ?_)
 rintro _ w15 ⟨rfl, e16⟩
 have E17 := below_ext E13 E13.size e16
 have bw14 := w_rg (x)
 refine lw_v (.tuple #[.agg #[.int .u64 (wv3 x), .int .u64 (wv2 x), .int .u64 (wv1 x), .int .u64 (wv0 x)], .bool (decide (fits x))]) (dv_move (T rfl rfl)) ?_
 refine lw_v (.agg #[.int .u64 (wv3 x), .int .u64 (wv2 x), .int .u64 (wv1 x), .int .u64 (wv0 x)]) (dv_extract (vs := #[.agg #[.int .u64 (wv3 x), .int .u64 (wv2 x), .int .u64 (wv1 x), .int .u64 (wv0 x)], .bool (decide (fits x))]) (T rfl rfl) rfl) ?_
 refine lw_v (.bool (decide (fits x))) (dv_extract (vs := #[.agg #[.int .u64 (wv3 x), .int .u64 (wv2 x), .int .u64 (wv1 x), .int .u64 (wv0 x)], .bool (decide (fits x))]) (T rfl rfl) rfl) ?_
 refine lw_e (oe_alloc ze35 ?_)
 intro b18 w19 n20
 have N21 : w.heap.size ≤ b18 := n20.eq ▸ E17.size
 have H22 := (e16.blk (e12.blk n3.blk))
 have : b1 < b18 := n20.eq ▸ lt_of_blk H22
 have E23 := below_ext E17 E17.size n20.ext
 refine lw_e (oe_store (v := .agg #[.int .u64 (wv3 x), .int .u64 (wv2 x), .int .u64 (wv1 x), .int .u64 (wv0 x)]) (vs := [.int .u64 (wv3 x), .int .u64 (wv2 x), .int .u64 (wv1 x), .int .u64 (wv0 x)]) (l := [.int .u64 (wv3 x), .int .u64 (wv2 x), .int .u64 (wv1 x), .int .u64 (wv0 x)]) (T rfl rfl) (T rfl rfl) sz35 rfl rfl rfl n20.blk rfl ?_)
 intro w24 s25 H26
 have E27 := below_st E23 N21 s25
 refine lw_v (.bool (decide (fits x))) (dv_assign (T rfl rfl)) ?_
 refine lw_nil ?_
 refine rk_seq ?_
 refine rk_reg ?_
 refine lw_v (.agg #[.int .u64 (wv3 x), .int .u64 (wv2 x), .int .u64 (wv1 x), .int .u64 (wv0 x)]) (dv_loads (l := [.int .u64 (wv3 x), .int .u64 (wv2 x), .int .u64 (wv1 x), .int .u64 (wv0 x)]) agt35 sz35 (T rfl rfl) H26 rfl) ?_
 have H28 := (s25.blk (n20.ext.blk H22) (by omega))
 refine lw_e (oe_store (v := .agg #[.int .u64 (wv3 x), .int .u64 (wv2 x), .int .u64 (wv1 x), .int .u64 (wv0 x)]) (vs := [.int .u64 (wv3 x), .int .u64 (wv2 x), .int .u64 (wv1 x), .int .u64 (wv0 x)]) (l := [.int .u64 (wv3 x), .int .u64 (wv2 x), .int .u64 (wv1 x), .int .u64 (wv0 x)]) (T rfl rfl) (T rfl rfl) sz35 rfl rfl rfl H28 rfl ?_)
 intro w29 s30 H31
 have E32 := below_st E27 N4 s30
 refine lw_nil ?_
 refine rk_ret Try.func175 (v := .agg #[.int .u64 (wv3 x), .int .u64 (wv2 x), .int .u64 (wv1 x), .int .u64 (wv0 x)]) (res1 Try.results175 (rv_cells (l := [.int .u64 (wv3 x), .int .u64 (wv2 x), .int .u64 (wv1 x), .int .u64 (wv0 x)]) agt35 sz35 rfl rfl H31 rfl)) ⟨_, rfl, ?_⟩
 exact ⟨rfl, E32⟩
set_option maxHeartbeats 1000000 in
theorem PointOf_ok {w : World} {x y : Int}  (hx : -9223372036854775808 ≤ x ∧ x ≤ 9223372036854775807) (hy : -9223372036854775808 ≤ y ∧ y ≤ 9223372036854775807) : Ct Try.prog 145 [.agg #[.int .i64 x, .int .i64 y]] w fun v w1 => v = .agg #[.int .u64 (wv3 x), .int .u64 (wv2 x), .int .u64 (wv1 x), .int .u64 (wv0 x), .int .u64 (wv3 y), .int .u64 (wv2 y), .int .u64 (wv1 y), .int .u64 (wv0 y), .int .u64 (wv3 1), .int .u64 (wv2 1), .int .u64 (wv1 1), .int .u64 (wv0 1)] ∧ Ext w w1 := by
 refine ct_run (n := 11) Try.func145 rfl Try.ntmps145 rfl ?_
 have E0 : Below w.heap.size w w := Below.refl _ _
 refine rk_seq ?_
 refine rk_reg ?_
 refine lw_e (oe_box (v := .agg #[.int .i64 x, .int .i64 y]) (cs := #[.int .i64 x, .int .i64 y]) (T rfl rfl) rfl ?_)
 intro b1 w2 n3
 have N4 : w.heap.size ≤ b1 := n3.eq ▸ E0.size
 have E5 := below_ext E0 E0.size n3.ext
 refine lw_e (oe_alloc ze37 ?_)
 intro b6 w7 n8
 have N9 : w.heap.size ≤ b6 := n8.eq ▸ E5.size
 have : b1 < b6 := n8.eq ▸ lt_of_blk n3.blk
 have E10 := below_ext E5 E5.size n8.ext
 refine lw_nil ?_
 refine rk_seq ?_
 refine rk_any (fun w => w.heap[b1]? = some (.cells #[.int .i64 x, .int .i64 y] 45)) [8] mo ?_
 intro w11 d12
 have E13 := below_ext E10 E10.size d12.ext
 have H14 := (d12.ext.blk (n8.ext.blk n3.blk))
 refine aw_pure 0 (.pointer (some ⟨b1, 0, none⟩)) rfl (by kernel_rfl) .none H14 (fun _ => dv_fieldAddr (a := ⟨b1, 0, none⟩) (a' := ⟨b1, 0, none⟩) fo45_0 (T rfl rfl) rfl) ?_
 refine aw_load 1 (.int .i64 x) rfl (by kernel_rfl) .none H14 (fun _ s => dv_load1 (b := b1) (o := 0) agt2 (T rfl rfl) s rfl) ?_
 refine aw_pure 3 (.pointer (some ⟨b1, 1, none⟩)) rfl (by kernel_rfl) .none H14 (fun _ => dv_fieldAddr (a := ⟨b1, 0, none⟩) (a' := ⟨b1, 1, none⟩) fo45_1 (T rfl rfl) rfl) ?_
 refine aw_load 4 (.int .i64 y) rfl (by kernel_rfl) .none H14 (fun _ s => dv_load1 (b := b1) (o := 1) agt2 (T rfl rfl) s rfl) ?_
 refine aw_one 2 rfl (by kernel_rfl) .none (oe_callf (vs := [.int .i64 x]) co175 (ar1 (T rfl rfl)) (iWideOf_ok (x := x)  (by omega)) ?_)
 rintro _ w15 ⟨rfl, e16⟩
 have E17 := below_ext E13 E13.size e16
 have H18 := (e16.blk H14)
 refine ⟨.inr H18, ?_⟩
 refine aw_one 5 rfl (by kernel_rfl) .none (oe_callf (vs := [.int .i64 y]) co175 (ar1 (T rfl rfl)) (iWideOf_ok (x := y)  (by omega)) ?_)
 rintro _ w19 ⟨rfl, e20⟩
 have E21 := below_ext E17 E17.size e20
 have H22 := (e20.blk H18)
 refine ⟨.inr H22, ?_⟩
 refine aw_one 6 rfl (by kernel_rfl) .none (oe_callf (vs := [.int .i64 1]) co175 (ar1 C) (iWideOf_ok (x := 1)  (by omega)) ?_)
 rintro _ w23 ⟨rfl, e24⟩
 have E25 := below_ext E21 E21.size e24
 have H26 := (e24.blk H22)
 refine ⟨.inr H26, ?_⟩
 refine aw_pure 7 (.agg #[.int .u64 (wv3 x), .int .u64 (wv2 x), .int .u64 (wv1 x), .int .u64 (wv0 x), .int .u64 (wv3 y), .int .u64 (wv2 y), .int .u64 (wv1 y), .int .u64 (wv0 y), .int .u64 (wv3 (1 : Int)), .int .u64 (wv2 (1 : Int)), .int .u64 (wv1 (1 : Int)), .int .u64 (wv0 (1 : Int))]) rfl (by kernel_rfl) .none H26 (fun _ => dv_build (pv := [(0, .agg #[.int .u64 (wv3 x), .int .u64 (wv2 x), .int .u64 (wv1 x), .int .u64 (wv0 x)]), (1, .agg #[.int .u64 (wv3 y), .int .u64 (wv2 y), .int .u64 (wv1 y), .int .u64 (wv0 y)]), (2, .agg #[.int .u64 (wv3 (1 : Int)), .int .u64 (wv2 (1 : Int)), .int .u64 (wv1 (1 : Int)), .int .u64 (wv0 (1 : Int))])]) (l := [.int .u64 (wv3 x), .int .u64 (wv2 x), .int .u64 (wv1 x), .int .u64 (wv0 x), .int .u64 (wv3 y), .int .u64 (wv2 y), .int .u64 (wv1 y), .int .u64 (wv0 y), .int .u64 (wv3 (1 : Int)), .int .u64 (wv2 (1 : Int)), .int .u64 (wv1 (1 : Int)), .int .u64 (wv0 (1 : Int))]) zc37 pl37 ⟨rfl, (T rfl rfl), ⟨rfl, (T rfl rfl), ⟨rfl, (T rfl rfl), trivial⟩⟩⟩ rfl) ?_
 have H27 := (e24.blk (e20.blk (e16.blk (d12.ext.blk n8.blk))))
 refine aw_one 8 rfl (by kernel_rfl) .none (oe_store (v := .agg #[.int .u64 (wv3 x), .int .u64 (wv2 x), .int .u64 (wv1 x), .int .u64 (wv0 x), .int .u64 (wv3 y), .int .u64 (wv2 y), .int .u64 (wv1 y), .int .u64 (wv0 y), .int .u64 (wv3 (1 : Int)), .int .u64 (wv2 (1 : Int)), .int .u64 (wv1 (1 : Int)), .int .u64 (wv0 (1 : Int))]) (vs := [.int .u64 (wv3 x), .int .u64 (wv2 x), .int .u64 (wv1 x), .int .u64 (wv0 x), .int .u64 (wv3 y), .int .u64 (wv2 y), .int .u64 (wv1 y), .int .u64 (wv0 y), .int .u64 (wv3 (1 : Int)), .int .u64 (wv2 (1 : Int)), .int .u64 (wv1 (1 : Int)), .int .u64 (wv0 (1 : Int))]) (l := [.int .u64 (wv3 x), .int .u64 (wv2 x), .int .u64 (wv1 x), .int .u64 (wv0 x), .int .u64 (wv3 y), .int .u64 (wv2 y), .int .u64 (wv1 y), .int .u64 (wv0 y), .int .u64 (wv3 (1 : Int)), .int .u64 (wv2 (1 : Int)), .int .u64 (wv1 (1 : Int)), .int .u64 (wv0 (1 : Int))]) (T rfl rfl) (T rfl rfl) sz37 rfl rfl rfl H27 rfl ?_)
 intro w28 s29 H30
 have E31 := below_st E25 N9 s29
 refine ⟨.inl rfl, ?_⟩
 refine aw_done (by kernel_rfl) ?_
 refine rk_ret Try.func145 (v := .agg #[.int .u64 (wv3 x), .int .u64 (wv2 x), .int .u64 (wv1 x), .int .u64 (wv0 x), .int .u64 (wv3 y), .int .u64 (wv2 y), .int .u64 (wv1 y), .int .u64 (wv0 y), .int .u64 (wv3 (1 : Int)), .int .u64 (wv2 (1 : Int)), .int .u64 (wv1 (1 : Int)), .int .u64 (wv0 (1 : Int))]) (res1 Try.results145 (rv_cells (l := [.int .u64 (wv3 x), .int .u64 (wv2 x), .int .u64 (wv1 x), .int .u64 (wv0 x), .int .u64 (wv3 y), .int .u64 (wv2 y), .int .u64 (wv1 y), .int .u64 (wv0 y), .int .u64 (wv3 (1 : Int)), .int .u64 (wv2 (1 : Int)), .int .u64 (wv1 (1 : Int)), .int .u64 (wv0 (1 : Int))]) agt37 sz37 rfl rfl H30 rfl)) ⟨_, rfl, ?_⟩
 exact ⟨(ag12 rfl rfl rfl rfl rfl rfl rfl rfl (vi (by rfl)) (vi (by rfl)) (vi (by rfl)) (vi (by rfl))), E31⟩
set_option maxHeartbeats 1000000 in
theorem onSeg_ok {w : World} {ax ay bx b_y x y u : Int} (fx_ : fits x) (fy_ : fits y) (fu_ : fits u) (hs_ : (-1000000 ≤ ax ∧ ax ≤ 1000000) ∧ (-1000000 ≤ ay ∧ ay ≤ 1000000) ∧ (-1000000 ≤ bx ∧ bx ≤ 1000000) ∧ (-1000000 ≤ b_y ∧ b_y ≤ 1000000)) : Ct Try.prog 95 [.agg #[.int .i64 ax, .int .i64 ay, .int .i64 bx, .int .i64 b_y], .agg #[.int .u64 (wv3 x), .int .u64 (wv2 x), .int .u64 (wv1 x), .int .u64 (wv0 x), .int .u64 (wv3 y), .int .u64 (wv2 y), .int .u64 (wv1 y), .int .u64 (wv0 y), .int .u64 (wv3 u), .int .u64 (wv2 u), .int .u64 (wv1 u), .int .u64 (wv0 u)]] w fun v w1 => v = .bool (decide (onV ax ay bx b_y x y u)) ∧ Ext w w1 := by
 refine ct_run (n := 25) Try.func95 rfl Try.ntmps95 rfl ?_
 have E0 : Below w.heap.size w w := Below.refl _ _
 refine rk_seq ?_
 refine rk_reg ?_
 refine lw_e (oe_box (v := .agg #[.int .i64 ax, .int .i64 ay, .int .i64 bx, .int .i64 b_y]) (cs := #[.int .i64 ax, .int .i64 ay, .int .i64 bx, .int .i64 b_y]) (T rfl rfl) rfl ?_)
 intro b1 w2 n3
 have N4 : w.heap.size ≤ b1 := n3.eq ▸ E0.size
 have E5 := below_ext E0 E0.size n3.ext
 refine lw_e (oe_box (v := .agg #[.int .u64 (wv3 x), .int .u64 (wv2 x), .int .u64 (wv1 x), .int .u64 (wv0 x), .int .u64 (wv3 y), .int .u64 (wv2 y), .int .u64 (wv1 y), .int .u64 (wv0 y), .int .u64 (wv3 u), .int .u64 (wv2 u), .int .u64 (wv1 u), .int .u64 (wv0 u)]) (cs := #[.int .u64 (wv3 x), .int .u64 (wv2 x), .int .u64 (wv1 x), .int .u64 (wv0 x), .int .u64 (wv3 y), .int .u64 (wv2 y), .int .u64 (wv1 y), .int .u64 (wv0 y), .int .u64 (wv3 u), .int .u64 (wv2 u), .int .u64 (wv1 u), .int .u64 (wv0 u)]) (T rfl rfl) rfl ?_)
 intro b6 w7 n8
 have N9 : w.heap.size ≤ b6 := n8.eq ▸ E5.size
 have : b1 < b6 := n8.eq ▸ lt_of_blk n3.blk
 have E10 := below_ext E5 E5.size n8.ext
 refine lw_v (.bool false) (dv_assign C) ?_
 refine lw_nil ?_
 refine rk_seq ?_
 refine rk_any (fun w => w.heap[b1]? = some (.cells #[.int .i64 ax, .int .i64 ay, .int .i64 bx, .int .i64 b_y] 47) ∧ w.heap[b6]? = some (.cells #[.int .u64 (wv3 x), .int .u64 (wv2 x), .int .u64 (wv1 x), .int .u64 (wv0 x), .int .u64 (wv3 y), .int .u64 (wv2 y), .int .u64 (wv1 y), .int .u64 (wv0 y), .int .u64 (wv3 u), .int .u64 (wv2 u), .int .u64 (wv1 u), .int .u64 (wv0 u)] 37)) [20] mo ?_
 intro w11 d12
 have E13 := below_ext E10 E10.size d12.ext
 have H14 := (d12.ext.blk (n8.ext.blk n3.blk))
 have H15 := (d12.ext.blk n8.blk)
 refine aw_pure 0 (.pointer (some ⟨b1, 0, none⟩)) rfl (by kernel_rfl) .none ⟨H14, H15⟩ (fun _ => dv_fieldAddr (a := ⟨b1, 0, none⟩) (a' := ⟨b1, 0, none⟩) fo47_0 (T rfl rfl) rfl) ?_
 refine aw_load 1 (.agg #[.int .i64 ax, .int .i64 ay]) rfl (by kernel_rfl) .none ⟨H14, H15⟩ (fun _ s => dv_loads (l := [.int .i64 ax, .int .i64 ay]) agt45 sz45 (T rfl rfl) s.1 rfl) ?_
 refine aw_load 3 (.agg #[.int .u64 (wv3 x), .int .u64 (wv2 x), .int .u64 (wv1 x), .int .u64 (wv0 x), .int .u64 (wv3 y), .int .u64 (wv2 y), .int .u64 (wv1 y), .int .u64 (wv0 y), .int .u64 (wv3 u), .int .u64 (wv2 u), .int .u64 (wv1 u), .int .u64 (wv0 u)]) rfl (by kernel_rfl) .none ⟨H14, H15⟩ (fun _ s => dv_loads (l := [.int .u64 (wv3 x), .int .u64 (wv2 x), .int .u64 (wv1 x), .int .u64 (wv0 x), .int .u64 (wv3 y), .int .u64 (wv2 y), .int .u64 (wv1 y), .int .u64 (wv0 y), .int .u64 (wv3 u), .int .u64 (wv2 u), .int .u64 (wv1 u), .int .u64 (wv0 u)]) agt37 sz37 (T rfl rfl) s.2 rfl) ?_
 refine aw_one 2 rfl (by kernel_rfl) .none (oe_callf (vs := [.agg #[.int .i64 ax, .int .i64 ay]]) co145 (ar1 (T rfl rfl)) (PointOf_ok (x := ax) (y := ay)  (by omega) (by omega)) ?_)
 rintro _ w16 ⟨rfl, e17⟩
 have E18 := below_ext E13 E13.size e17
 have H19 := (e17.blk H14)
 have H20 := (e17.blk H15)
 refine ⟨.inr ⟨H19, H20⟩, ?_⟩
 refine aw_one 4 rfl (by kernel_rfl) .none (oe_callf (vs := [.agg #[.int .u64 (wv3 ax), .int .u64 (wv2 ax), .int .u64 (wv1 ax), .int .u64 (wv0 ax), .int .u64 (wv3 ay), .int .u64 (wv2 ay), .int .u64 (wv1 ay), .int .u64 (wv0 ay), .int .u64 (wv3 1), .int .u64 (wv2 1), .int .u64 (wv1 1), .int .u64 (wv0 1)], .agg #[.int .u64 (wv3 x), .int .u64 (wv2 x), .int .u64 (wv1 x), .int .u64 (wv0 x), .int .u64 (wv3 y), .int .u64 (wv2 y), .int .u64 (wv1 y), .int .u64 (wv0 y), .int .u64 (wv3 u), .int .u64 (wv2 u), .int .u64 (wv1 u), .int .u64 (wv0 u)]]) co117 (ar2 (T rfl rfl) (T rfl rfl)) (cmpPoints_ok (x := ax) (y := ay) (u := 1) (p := x) (q := y) (r := u) (fits_i (by omega)) (fits_i (by omega)) (⟨by decide, by decide⟩ : fits 1) fx_ fy_ fu_ ) ?_)
 rintro _ w21 ⟨rfl, e22⟩
 have E23 := below_ext E18 E18.size e22
 have := pc_rg ax ay 1 x y u
 have H24 := (e22.blk H19)
 have H25 := (e22.blk H20)
 refine ⟨.inr ⟨H24, H25⟩, ?_⟩
 refine aw_pure 5 (.bool (decide ((pc ax ay (1 : Int) x y u) ≤ 0))) rfl (by kernel_rfl) .none ⟨H24, H25⟩ (fun _ => dv_leq (a := pc ax ay (1 : Int) x y u) (b := 0) (T rfl rfl) C) ?_
 refine aw_pure 6 (.bool (decide ((pc ax ay (1 : Int) x y u) ≤ 0))) rfl (by kernel_rfl) .none ⟨H24, H25⟩ (fun _ => dv_move (T rfl rfl)) ?_
 by_cases hb26 : (pc ax ay (1 : Int) x y u) ≤ 0
 · refine aw_load 7 (.agg #[.int .u64 (wv3 x), .int .u64 (wv2 x), .int .u64 (wv1 x), .int .u64 (wv0 x), .int .u64 (wv3 y), .int .u64 (wv2 y), .int .u64 (wv1 y), .int .u64 (wv0 y), .int .u64 (wv3 u), .int .u64 (wv2 u), .int .u64 (wv1 u), .int .u64 (wv0 u)]) rfl (by kernel_rfl) (.yes (d := 11) rfl rfl (congrArg Value.bool (decide_eq_true hb26))) ⟨H24, H25⟩ (fun _ s => dv_loads (l := [.int .u64 (wv3 x), .int .u64 (wv2 x), .int .u64 (wv1 x), .int .u64 (wv0 x), .int .u64 (wv3 y), .int .u64 (wv2 y), .int .u64 (wv1 y), .int .u64 (wv0 y), .int .u64 (wv3 u), .int .u64 (wv2 u), .int .u64 (wv1 u), .int .u64 (wv0 u)]) agt37 sz37 (T rfl rfl) s.2 rfl) ?_
   refine aw_pure 8 (.pointer (some ⟨b1, 2, none⟩)) rfl (by kernel_rfl) (.yes (d := 11) rfl rfl (congrArg Value.bool (decide_eq_true hb26))) ⟨H24, H25⟩ (fun _ => dv_fieldAddr (a := ⟨b1, 0, none⟩) (a' := ⟨b1, 2, none⟩) fo47_1 (T rfl rfl) rfl) ?_
   refine aw_load 9 (.agg #[.int .i64 bx, .int .i64 b_y]) rfl (by kernel_rfl) (.yes (d := 11) rfl rfl (congrArg Value.bool (decide_eq_true hb26))) ⟨H24, H25⟩ (fun _ s => dv_loads (l := [.int .i64 bx, .int .i64 b_y]) agt45 sz45 (T rfl rfl) s.1 rfl) ?_
   refine aw_one 10 rfl (by kernel_rfl) (.yes (d := 11) rfl rfl (congrArg Value.bool (decide_eq_true hb26))) (oe_callf (vs := [.agg #[.int .i64 bx, .int .i64 b_y]]) co145 (ar1 (T rfl rfl)) (PointOf_ok (x := bx) (y := b_y)  (by omega) (by omega)) ?_)
   rintro _ w27 ⟨rfl, e28⟩
   have E29 := below_ext E23 E23.size e28
   have H30 := (e28.blk H24)
   have H31 := (e28.blk H25)
   refine ⟨.inr ⟨H30, H31⟩, ?_⟩
   refine aw_one 11 rfl (by kernel_rfl) (.yes (d := 11) rfl rfl (congrArg Value.bool (decide_eq_true hb26))) (oe_callf (vs := [.agg #[.int .u64 (wv3 x), .int .u64 (wv2 x), .int .u64 (wv1 x), .int .u64 (wv0 x), .int .u64 (wv3 y), .int .u64 (wv2 y), .int .u64 (wv1 y), .int .u64 (wv0 y), .int .u64 (wv3 u), .int .u64 (wv2 u), .int .u64 (wv1 u), .int .u64 (wv0 u)], .agg #[.int .u64 (wv3 bx), .int .u64 (wv2 bx), .int .u64 (wv1 bx), .int .u64 (wv0 bx), .int .u64 (wv3 b_y), .int .u64 (wv2 b_y), .int .u64 (wv1 b_y), .int .u64 (wv0 b_y), .int .u64 (wv3 1), .int .u64 (wv2 1), .int .u64 (wv1 1), .int .u64 (wv0 1)]]) co117 (ar2 (T rfl rfl) (T rfl rfl)) (cmpPoints_ok (x := x) (y := y) (u := u) (p := bx) (q := b_y) (r := 1) fx_ fy_ fu_ (fits_i (by omega)) (fits_i (by omega)) (⟨by decide, by decide⟩ : fits 1) ) ?_)
   rintro _ w32 ⟨rfl, e33⟩
   have E34 := below_ext E29 E29.size e33
   have := pc_rg x y u bx b_y 1
   have H35 := (e33.blk H30)
   have H36 := (e33.blk H31)
   refine ⟨.inr ⟨H35, H36⟩, ?_⟩
   refine aw_pure 12 (.bool (decide ((pc x y u bx b_y (1 : Int)) ≤ 0))) rfl (by kernel_rfl) (.yes (d := 11) rfl rfl (congrArg Value.bool (decide_eq_true hb26))) ⟨H35, H36⟩ (fun _ => dv_leq (a := pc x y u bx b_y (1 : Int)) (b := 0) (T rfl rfl) C) ?_
   refine aw_pure 13 (.bool (decide ((pc x y u bx b_y (1 : Int)) ≤ 0))) rfl (by kernel_rfl) .none ⟨H35, H36⟩ (fun _ => dv_pick_t (T rfl (congrArg Value.bool (decide_eq_true hb26))) (T rfl rfl)) ?_
   refine aw_pure 14 (.bool (decide ((pc x y u bx b_y (1 : Int)) ≤ 0))) rfl (by kernel_rfl) .none ⟨H35, H36⟩ (fun _ => dv_move (T rfl rfl)) ?_
   by_cases hb37 : (pc x y u bx b_y (1 : Int)) ≤ 0
   · refine aw_load 15 (.agg #[.int .i64 ax, .int .i64 ay, .int .i64 bx, .int .i64 b_y]) rfl (by kernel_rfl) (.yes (d := 19) rfl rfl (congrArg Value.bool (decide_eq_true hb37))) ⟨H35, H36⟩ (fun _ s => dv_loads (l := [.int .i64 ax, .int .i64 ay, .int .i64 bx, .int .i64 b_y]) agt47 sz47 (T rfl rfl) s.1 rfl) ?_
     refine aw_load 16 (.agg #[.int .u64 (wv3 x), .int .u64 (wv2 x), .int .u64 (wv1 x), .int .u64 (wv0 x), .int .u64 (wv3 y), .int .u64 (wv2 y), .int .u64 (wv1 y), .int .u64 (wv0 y), .int .u64 (wv3 u), .int .u64 (wv2 u), .int .u64 (wv1 u), .int .u64 (wv0 u)]) rfl (by kernel_rfl) (.yes (d := 19) rfl rfl (congrArg Value.bool (decide_eq_true hb37))) ⟨H35, H36⟩ (fun _ s => dv_loads (l := [.int .u64 (wv3 x), .int .u64 (wv2 x), .int .u64 (wv1 x), .int .u64 (wv0 x), .int .u64 (wv3 y), .int .u64 (wv2 y), .int .u64 (wv1 y), .int .u64 (wv0 y), .int .u64 (wv3 u), .int .u64 (wv2 u), .int .u64 (wv1 u), .int .u64 (wv0 u)]) agt37 sz37 (T rfl rfl) s.2 rfl) ?_
     refine aw_one 17 rfl (by kernel_rfl) (.yes (d := 19) rfl rfl (congrArg Value.bool (decide_eq_true hb37))) (oe_callf (vs := [.agg #[.int .i64 ax, .int .i64 ay, .int .i64 bx, .int .i64 b_y], .agg #[.int .u64 (wv3 x), .int .u64 (wv2 x), .int .u64 (wv1 x), .int .u64 (wv0 x), .int .u64 (wv3 y), .int .u64 (wv2 y), .int .u64 (wv1 y), .int .u64 (wv0 y), .int .u64 (wv3 u), .int .u64 (wv2 u), .int .u64 (wv1 u), .int .u64 (wv0 u)]]) co76 (ar2 (T rfl rfl) (T rfl rfl)) (sideOf_ok (ax := ax) (ay := ay) (bx := bx) (b_y := b_y) (x := x) (y := y) (u := u) fx_ fy_ fu_ (by omega)) ?_)
     rintro _ w38 ⟨rfl, e39⟩
     have E40 := below_ext E34 E34.size e39
     have := sideV_rg ax ay bx b_y x y u
     have H41 := (e39.blk H35)
     have H42 := (e39.blk H36)
     refine ⟨.inr ⟨H41, H42⟩, ?_⟩
     refine aw_pure 18 (.bool (decide ((sideV ax ay bx b_y x y u) = 0))) rfl (by kernel_rfl) (.yes (d := 19) rfl rfl (congrArg Value.bool (decide_eq_true hb37))) ⟨H41, H42⟩ (fun _ => dv_eql (a := sideV ax ay bx b_y x y u) (b := 0) (T rfl rfl) C) ?_
     refine aw_pure 19 (.bool (decide ((sideV ax ay bx b_y x y u) = 0))) rfl (by kernel_rfl) .none ⟨H41, H42⟩ (fun _ => dv_pick_t (T rfl (congrArg Value.bool (decide_eq_true hb37))) (T rfl rfl)) ?_
     refine aw_last 20 (.bool (decide ((sideV ax ay bx b_y x y u) = 0))) rfl (by kernel_rfl) .none (fun _ => dv_assign (T rfl rfl)) ?_
     refine aw_done (by kernel_rfl) ?_
     refine rk_ret Try.func95 (v := .bool (decide ((sideV ax ay bx b_y x y u) = 0))) (res1 Try.results95 (rv_tmp rfl rfl)) ⟨_, rfl, ?_⟩
     exact ⟨(vb ⟨fun hh => ⟨by assumption, by assumption, hh⟩, fun hh => hh.2.2⟩), E40⟩
   · refine aw_no 15 rfl (by kernel_rfl) (d := 19) rfl rfl (congrArg Value.bool (decide_eq_false hb37)) ⟨H35, H36⟩ ?_
     refine aw_no 16 rfl (by kernel_rfl) (d := 19) rfl rfl (congrArg Value.bool (decide_eq_false hb37)) ⟨H35, H36⟩ ?_
     refine aw_no 17 rfl (by kernel_rfl) (d := 19) rfl rfl (congrArg Value.bool (decide_eq_false hb37)) ⟨H35, H36⟩ ?_
     refine aw_no 18 rfl (by kernel_rfl) (d := 19) rfl rfl (congrArg Value.bool (decide_eq_false hb37)) ⟨H35, H36⟩ ?_
     refine aw_pure 19 (.bool false) rfl (by kernel_rfl) .none ⟨H35, H36⟩ (fun _ => dv_pick_f (T rfl (congrArg Value.bool (decide_eq_false hb37))) C) ?_
     refine aw_last 20 (.bool false) rfl (by kernel_rfl) .none (fun _ => dv_assign (T rfl rfl)) ?_
     refine aw_done (by kernel_rfl) ?_
     refine rk_ret Try.func95 (v := .bool false) (res1 Try.results95 (rv_tmp rfl rfl)) ⟨_, rfl, ?_⟩
     exact ⟨(vf (by intro hh; first | exact absurd hh.1 (by assumption) | exact absurd hh.2.1 (by assumption))), E34⟩
 · refine aw_no 7 rfl (by kernel_rfl) (d := 11) rfl rfl (congrArg Value.bool (decide_eq_false hb26)) ⟨H24, H25⟩ ?_
   refine aw_no 8 rfl (by kernel_rfl) (d := 11) rfl rfl (congrArg Value.bool (decide_eq_false hb26)) ⟨H24, H25⟩ ?_
   refine aw_no 9 rfl (by kernel_rfl) (d := 11) rfl rfl (congrArg Value.bool (decide_eq_false hb26)) ⟨H24, H25⟩ ?_
   refine aw_no 10 rfl (by kernel_rfl) (d := 11) rfl rfl (congrArg Value.bool (decide_eq_false hb26)) ⟨H24, H25⟩ ?_
   refine aw_no 11 rfl (by kernel_rfl) (d := 11) rfl rfl (congrArg Value.bool (decide_eq_false hb26)) ⟨H24, H25⟩ ?_
   refine aw_no 12 rfl (by kernel_rfl) (d := 11) rfl rfl (congrArg Value.bool (decide_eq_false hb26)) ⟨H24, H25⟩ ?_
   refine aw_pure 13 (.bool false) rfl (by kernel_rfl) .none ⟨H24, H25⟩ (fun _ => dv_pick_f (T rfl (congrArg Value.bool (decide_eq_false hb26))) C) ?_
   refine aw_pure 14 (.bool false) rfl (by kernel_rfl) .none ⟨H24, H25⟩ (fun _ => dv_move (T rfl rfl)) ?_
   refine aw_no 15 rfl (by kernel_rfl) (d := 19) rfl rfl (rfl) ⟨H24, H25⟩ ?_
   refine aw_no 16 rfl (by kernel_rfl) (d := 19) rfl rfl (rfl) ⟨H24, H25⟩ ?_
   refine aw_no 17 rfl (by kernel_rfl) (d := 19) rfl rfl (rfl) ⟨H24, H25⟩ ?_
   refine aw_no 18 rfl (by kernel_rfl) (d := 19) rfl rfl (rfl) ⟨H24, H25⟩ ?_
   refine aw_pure 19 (.bool false) rfl (by kernel_rfl) .none ⟨H24, H25⟩ (fun _ => dv_pick_f (T rfl rfl) C) ?_
   refine aw_last 20 (.bool false) rfl (by kernel_rfl) .none (fun _ => dv_assign (T rfl rfl)) ?_
   refine aw_done (by kernel_rfl) ?_
   refine rk_ret Try.func95 (v := .bool false) (res1 Try.results95 (rv_tmp rfl rfl)) ⟨_, rfl, ?_⟩
   exact ⟨(vf (by intro hh; first | exact absurd hh.1 (by assumption) | exact absurd hh.2.1 (by assumption))), E23⟩
set_option maxHeartbeats 1000000 in
theorem l4On_ok {w : World}  {ax ay bx b_y : Int}  {na : Bool} {Aa : Option Addr} {la ca : Nat} {x : Int} {sx : Nat} (ha : Num 32 183 .u32 w na Aa la ca x sx) {nb : Bool} {Ab : Option Addr} {lb cb : Nat} {y : Int} {sy : Nat} (hb : Num 32 183 .u32 w nb Ab lb cb y sy) {nm : Bool} {Am : Option Addr} {lm cm : Nat} {u : Int} {su : Nat} (hm : Num 32 183 .u32 w nm Am lm cm u su) (hbsx : sx ≤ 10000) (hbsy : sy ≤ 10000) (hbsu : su ≤ 10000) (hs_ : (-1000000 ≤ ax ∧ ax ≤ 1000000) ∧ (-1000000 ≤ ay ∧ ay ≤ 1000000) ∧ (-1000000 ≤ bx ∧ bx ≤ 1000000) ∧ (-1000000 ≤ b_y ∧ b_y ≤ 1000000)) (hl_ : spotLt ax ay bx b_y) : Ct Try.prog 94 [.agg #[.int .i64 ax, .int .i64 ay, .int .i64 bx, .int .i64 b_y], .agg #[.bool na, .slice Aa la ca, .bool nb, .slice Ab lb cb, .bool nm, .slice Am lm cm]] w fun v w1 => v = .bool (decide (onV ax ay bx b_y x y u)) ∧ Ext w w1 := by
 refine ct_run (n := 13) Try.func94 rfl Try.ntmps94 rfl ?_
 have E0 : Below w.heap.size w w := Below.refl _ _
 have lha := Num.len (by decide) ha
 have lhb := Num.len (by decide) hb
 have lhm := Num.len (by decide) hm
 refine rk_seq ?_
 refine rk_reg ?_
 refine lw_e (oe_box (v := .agg #[.int .i64 ax, .int .i64 ay, .int .i64 bx, .int .i64 b_y]) (cs := #[.int .i64 ax, .int .i64 ay, .int .i64 bx, .int .i64 b_y]) (T rfl rfl) rfl ?_)
 intro b1 w2 n3
 have N4 : w.heap.size ≤ b1 := n3.eq ▸ E0.size
 have E5 := below_ext E0 E0.size n3.ext
 refine lw_e (oe_box (v := .agg #[.bool na, .slice Aa la ca, .bool nb, .slice Ab lb cb, .bool nm, .slice Am lm cm]) (cs := #[.bool na, .slice Aa la ca, .bool nb, .slice Ab lb cb, .bool nm, .slice Am lm cm]) (T rfl rfl) rfl ?_)
 intro b6 w7 n8
 have N9 : w.heap.size ≤ b6 := n8.eq ▸ E5.size
 have : b1 < b6 := n8.eq ▸ lt_of_blk n3.blk
 have E10 := below_ext E5 E5.size n8.ext
 refine lw_v (.bool false) (dv_assign C) ?_
 refine lw_nil ?_
 refine rk_seq ?_
 refine rk_any (fun w => w.heap[b1]? = some (.cells #[.int .i64 ax, .int .i64 ay, .int .i64 bx, .int .i64 b_y] 47) ∧ w.heap[b6]? = some (.cells #[.bool na, .slice Aa la ca, .bool nb, .slice Ab lb cb, .bool nm, .slice Am lm cm] 102)) [8] mo ?_
 intro w11 d12
 have E13 := below_ext E10 E10.size d12.ext
 have H14 := (d12.ext.blk (n8.ext.blk n3.blk))
 have H15 := (d12.ext.blk n8.blk)
 refine aw_pure 0 (.pointer (some ⟨b1, 0, none⟩)) rfl (by kernel_rfl) .none ⟨H14, H15⟩ (fun _ => dv_fieldAddr (a := ⟨b1, 0, none⟩) (a' := ⟨b1, 0, none⟩) fo47_0 (T rfl rfl) rfl) ?_
 refine aw_load 1 (.agg #[.int .i64 ax, .int .i64 ay]) rfl (by kernel_rfl) .none ⟨H14, H15⟩ (fun _ s => dv_loads (l := [.int .i64 ax, .int .i64 ay]) agt45 sz45 (T rfl rfl) s.1 rfl) ?_
 refine aw_pure 3 (.pointer (some ⟨b1, 2, none⟩)) rfl (by kernel_rfl) .none ⟨H14, H15⟩ (fun _ => dv_fieldAddr (a := ⟨b1, 0, none⟩) (a' := ⟨b1, 2, none⟩) fo47_1 (T rfl rfl) rfl) ?_
 refine aw_load 4 (.agg #[.int .i64 bx, .int .i64 b_y]) rfl (by kernel_rfl) .none ⟨H14, H15⟩ (fun _ s => dv_loads (l := [.int .i64 bx, .int .i64 b_y]) agt45 sz45 (T rfl rfl) s.1 rfl) ?_
 refine aw_load 6 (.agg #[.bool na, .slice Aa la ca, .bool nb, .slice Ab lb cb, .bool nm, .slice Am lm cm]) rfl (by kernel_rfl) .none ⟨H14, H15⟩ (fun _ s => dv_loads (l := [.bool na, .slice Aa la ca, .bool nb, .slice Ab lb cb, .bool nm, .slice Am lm cm]) agt102 sz102 (T rfl rfl) s.2 rfl) ?_
 refine aw_one 2 rfl (by kernel_rfl) .none (oe_callf (vs := [.agg #[.int .i64 ax, .int .i64 ay]]) co74 (ar1 (T rfl rfl)) (l3Spot_ok   (by omega) (by omega)) ?_)
 rintro _ w31 ⟨nr16, A17, n18, c19, nr20, A21, n22, c23, nr24, A25, n26, c27, rfl, e32, h28, h29, h30⟩
 have E33 := below_ext E13 E13.size e32
 have lh28 := Num.len (by decide) h28
 have lh29 := Num.len (by decide) h29
 have lh30 := Num.len (by decide) h30
 have H34 := (e32.blk H14)
 have H35 := (e32.blk H15)
 refine ⟨.inr ⟨H34, H35⟩, ?_⟩
 refine aw_one 5 rfl (by kernel_rfl) .none (oe_callf (vs := [.agg #[.int .i64 bx, .int .i64 b_y]]) co74 (ar1 (T rfl rfl)) (l3Spot_ok   (by omega) (by omega)) ?_)
 rintro _ w51 ⟨nr36, A37, n38, c39, nr40, A41, n42, c43, nr44, A45, n46, c47, rfl, e52, h48, h49, h50⟩
 have E53 := below_ext E33 E33.size e52
 have lh48 := Num.len (by decide) h48
 have lh49 := Num.len (by decide) h49
 have lh50 := Num.len (by decide) h50
 have H54 := (e52.blk H34)
 have H55 := (e52.blk H35)
 refine ⟨.inr ⟨H54, H55⟩, ?_⟩
 have h56 := (h28.ext e52)
 have h57 := (h29.ext e52)
 have h58 := (h30.ext e52)
 have h59 := (((((ha.ext n3.ext).ext n8.ext).ext d12.ext).ext e32).ext e52)
 have h60 := (((((hb.ext n3.ext).ext n8.ext).ext d12.ext).ext e32).ext e52)
 have h61 := (((((hm.ext n3.ext).ext n8.ext).ext d12.ext).ext e32).ext e52)
 refine aw_one 7 rfl (by kernel_rfl) .none (oe_callf (vs := [.agg #[.bool nr16, .slice A17 n18 c19, .bool nr20, .slice A21 n22 c23, .bool nr24, .slice A25 n26 c27], .agg #[.bool nr36, .slice A37 n38 c39, .bool nr40, .slice A41 n42 c43, .bool nr44, .slice A45 n46 c47], .agg #[.bool na, .slice Aa la ca, .bool nb, .slice Ab lb cb, .bool nm, .slice Am lm cm]]) co68 (ar3 (T rfl rfl) (T rfl rfl) (T rfl rfl)) (l3Between_ok h56 h57 h58 h48 h49 h50 h59 h60 h61 (by first | decide | omega) (by first | decide | omega) (by first | decide | omega) (by first | decide | omega) (by first | decide | omega) (by first | decide | omega) (by first | decide | omega) (by first | decide | omega) (by first | decide | omega) ) ?_)
 rintro _ w62 ⟨rfl, e63⟩
 have E64 := below_ext E53 E53.size e63
 have H65 := (e63.blk H54)
 have H66 := (e63.blk H55)
 refine ⟨.inr ⟨H65, H66⟩, ?_⟩
 refine aw_last 8 (.bool (decide (btw ax ay 1 bx b_y 1 x y u))) rfl (by kernel_rfl) .none (fun _ => dv_assign (T rfl rfl)) ?_
 refine aw_done (by kernel_rfl) ?_
 refine rk_ret Try.func94 (v := .bool (decide (btw ax ay 1 bx b_y 1 x y u))) (res1 Try.results94 (rv_tmp rfl rfl)) ⟨_, rfl, ?_⟩
 exact ⟨(vb (btw_on hl_)), E64⟩
end Go.Proofs.Ytdanhdbanfpghaa.W
set_option linter.unusedVariables false
set_option linter.unusedSimpArgs false
namespace Go.Proofs.Ytdanhdbanfpghaa.W
open Go Go.RowKit Go.Proofs.Ytdanhdbanfpghaa.Fw
attribute [local irreducible] RunK LW AW DV OE Ct
theorem co118 : callOk Try.prog 118 = true := by kernel_rfl
theorem co119 : callOk Try.prog 119 = true := by kernel_rfl
theorem co120 : callOk Try.prog 120 = true := by kernel_rfl
theorem co121 : callOk Try.prog 121 = true := by kernel_rfl
theorem co125 : callOk Try.prog 125 = true := by kernel_rfl
theorem co16 : callOk Try.prog 16 = true := by kernel_rfl
theorem co18 : callOk Try.prog 18 = true := by kernel_rfl
theorem co66 : callOk Try.prog 66 = true := by kernel_rfl
theorem in2 : (Try.prog.info? 2).map (fun i => (i.zero, i.size, i.bytes)) = some (some (.int .i64 0), 1, 8) := by kernel_rfl
theorem in47 : (Try.prog.info? 47).map (fun i => (i.zero, i.size, i.bytes)) = some (some (.agg #[.int .i64 0, .int .i64 0, .int .i64 0, .int .i64 0]), 4, 32) := by kernel_rfl
theorem us22 : Try.prog.underlying 22 = some (.slice 43) := by kernel_rfl
theorem us25 : Try.prog.underlying 25 = some (.slice 47) := by kernel_rfl
theorem us82 : Try.prog.underlying 82 = some (.slice 2) := by kernel_rfl
theorem zc2 : zcB Try.prog 2 = some [.int .i64 0] := by kernel_rfl
set_option maxHeartbeats 1000000 in
theorem eqSpot_ok {w : World} {ax ay bx b_y : Int}   : Ct Try.prog 125 [.agg #[.int .i64 ax, .int .i64 ay], .agg #[.int .i64 bx, .int .i64 b_y]] w fun v w1 => v = .bool (decide (ax = bx ∧ ay = b_y)) ∧ Ext w w1 := by
 refine ct_run (n := 15) Try.func125 rfl Try.ntmps125 rfl ?_
 have E0 : Below w.heap.size w w := Below.refl _ _
 refine rk_seq ?_
 refine rk_reg ?_
 refine lw_e (oe_box (v := .agg #[.int .i64 ax, .int .i64 ay]) (cs := #[.int .i64 ax, .int .i64 ay]) (T rfl rfl) rfl ?_)
 intro b1 w2 n3
 have N4 : w.heap.size ≤ b1 := n3.eq ▸ E0.size
 have E5 := below_ext E0 E0.size n3.ext
 refine lw_e (oe_box (v := .agg #[.int .i64 bx, .int .i64 b_y]) (cs := #[.int .i64 bx, .int .i64 b_y]) (T rfl rfl) rfl ?_)
 intro b6 w7 n8
 have N9 : w.heap.size ≤ b6 := n8.eq ▸ E5.size
 have : b1 < b6 := n8.eq ▸ lt_of_blk n3.blk
 have E10 := below_ext E5 E5.size n8.ext
 refine lw_v (.bool false) (dv_assign C) ?_
 refine lw_nil ?_
 refine rk_seq ?_
 refine rk_seq ?_
 refine rk_reg ?_
 refine lw_v (.pointer (some ⟨b1, 0, none⟩)) (dv_fieldAddr (a := ⟨b1, 0, none⟩) (a' := ⟨b1, 0, none⟩) fo45_0 (T rfl rfl) rfl) ?_
 have H11 := (n8.ext.blk n3.blk)
 refine lw_v (.int .i64 ax) (dv_load1 (b := b1) (o := 0) agt2 (T rfl rfl) H11 rfl) ?_
 refine lw_v (.pointer (some ⟨b6, 0, none⟩)) (dv_fieldAddr (a := ⟨b6, 0, none⟩) (a' := ⟨b6, 0, none⟩) fo45_0 (T rfl rfl) rfl) ?_
 refine lw_v (.int .i64 bx) (dv_load1 (b := b6) (o := 0) agt2 (T rfl rfl) n8.blk rfl) ?_
 refine lw_v (.bool (decide (ax ≠ bx))) (dv_neq (a := ax) (b := bx) (T rfl rfl) (T rfl rfl)) ?_
 refine lw_nil ?_
 by_cases hb12 : ax ≠ bx
 · refine rk_ct (T rfl (congrArg Value.bool (decide_eq_true hb12))) ?_
   refine rk_seq ?_
   refine rk_reg ?_
   refine lw_v (.bool false) (dv_assign C) ?_
   refine lw_nil ?_
   refine rk_ret Try.func125 (v := .bool false) (res1 Try.results125 (rv_tmp rfl rfl)) ⟨_, rfl, ?_⟩
   exact ⟨(vf (by grind)), E10⟩
 · refine rk_cf (T rfl (congrArg Value.bool (decide_eq_false hb12))) ?_
   refine rk_skip ?_
   refine rk_seq ?_
   refine rk_seq ?_
   refine rk_reg ?_
   refine lw_v (.pointer (some ⟨b1, 1, none⟩)) (dv_fieldAddr (a := ⟨b1, 0, none⟩) (a' := ⟨b1, 1, none⟩) fo45_1 (T rfl rfl) rfl) ?_
   refine lw_v (.int .i64 ay) (dv_load1 (b := b1) (o := 1) agt2 (T rfl rfl) H11 rfl) ?_
   refine lw_v (.pointer (some ⟨b6, 1, none⟩)) (dv_fieldAddr (a := ⟨b6, 0, none⟩) (a' := ⟨b6, 1, none⟩) fo45_1 (T rfl rfl) rfl) ?_
   refine lw_v (.int .i64 b_y) (dv_load1 (b := b6) (o := 1) agt2 (T rfl rfl) n8.blk rfl) ?_
   refine lw_v (.bool (decide (ay ≠ b_y))) (dv_neq (a := ay) (b := b_y) (T rfl rfl) (T rfl rfl)) ?_
   refine lw_nil ?_
   by_cases hb13 : ay ≠ b_y
   · refine rk_ct (T rfl (congrArg Value.bool (decide_eq_true hb13))) ?_
     refine rk_seq ?_
     refine rk_reg ?_
     refine lw_v (.bool false) (dv_assign C) ?_
     refine lw_nil ?_
     refine rk_ret Try.func125 (v := .bool false) (res1 Try.results125 (rv_tmp rfl rfl)) ⟨_, rfl, ?_⟩
     exact ⟨(vf (by grind)), E10⟩
   · refine rk_cf (T rfl (congrArg Value.bool (decide_eq_false hb13))) ?_
     refine rk_skip ?_
     refine rk_seq ?_
     refine rk_reg ?_
     refine lw_v (.bool true) (dv_assign C) ?_
     refine lw_nil ?_
     refine rk_ret Try.func125 (v := .bool true) (res1 Try.results125 (rv_tmp rfl rfl)) ⟨_, rfl, ?_⟩
     exact ⟨(vt (by grind)), E10⟩
set_option maxHeartbeats 1000000 in
theorem eqSeg_ok {w : World} {ax ay bx b_y cx cy ex ey : Int}   : Ct Try.prog 66 [.agg #[.int .i64 ax, .int .i64 ay, .int .i64 bx, .int .i64 b_y], .agg #[.int .i64 cx, .int .i64 cy, .int .i64 ex, .int .i64 ey]] w fun v w1 => v = .bool (decide ((ax = cx ∧ ay = cy) ∧ bx = ex ∧ b_y = ey)) ∧ Ext w w1 := by
 refine ct_run (n := 17) Try.func66 rfl Try.ntmps66 rfl ?_
 have E0 : Below w.heap.size w w := Below.refl _ _
 refine rk_seq ?_
 refine rk_reg ?_
 refine lw_e (oe_box (v := .agg #[.int .i64 ax, .int .i64 ay, .int .i64 bx, .int .i64 b_y]) (cs := #[.int .i64 ax, .int .i64 ay, .int .i64 bx, .int .i64 b_y]) (T rfl rfl) rfl ?_)
 intro b1 w2 n3
 have N4 : w.heap.size ≤ b1 := n3.eq ▸ E0.size
 have E5 := below_ext E0 E0.size n3.ext
 refine lw_e (oe_box (v := .agg #[.int .i64 cx, .int .i64 cy, .int .i64 ex, .int .i64 ey]) (cs := #[.int .i64 cx, .int .i64 cy, .int .i64 ex, .int .i64 ey]) (T rfl rfl) rfl ?_)
 intro b6 w7 n8
 have N9 : w.heap.size ≤ b6 := n8.eq ▸ E5.size
 have : b1 < b6 := n8.eq ▸ lt_of_blk n3.blk
 have E10 := below_ext E5 E5.size n8.ext
 refine lw_v (.bool false) (dv_assign C) ?_
 refine lw_nil ?_
 refine rk_seq ?_
 refine rk_seq ?_
 refine rk_reg ?_
 refine lw_v (.pointer (some ⟨b1, 0, none⟩)) (dv_fieldAddr (a := ⟨b1, 0, none⟩) (a' := ⟨b1, 0, none⟩) fo47_0 (T rfl rfl) rfl) ?_
 have H11 := (n8.ext.blk n3.blk)
 refine lw_v (.agg #[.int .i64 ax, .int .i64 ay]) (dv_loads (l := [.int .i64 ax, .int .i64 ay]) agt45 sz45 (T rfl rfl) H11 rfl) ?_
 refine lw_v (.pointer (some ⟨b6, 0, none⟩)) (dv_fieldAddr (a := ⟨b6, 0, none⟩) (a' := ⟨b6, 0, none⟩) fo47_0 (T rfl rfl) rfl) ?_
 refine lw_v (.agg #[.int .i64 cx, .int .i64 cy]) (dv_loads (l := [.int .i64 cx, .int .i64 cy]) agt45 sz45 (T rfl rfl) n8.blk rfl) ?_
 refine lw_e (oe_callf (vs := [.agg #[.int .i64 ax, .int .i64 ay], .agg #[.int .i64 cx, .int .i64 cy]]) co125 (ar2 (T rfl rfl) (T rfl rfl)) (eqSpot_ok (ax := ax) (ay := ay) (bx := cx) (b_y := cy)  ) ?_)
 rintro _ w12 ⟨rfl, e13⟩
 have E14 := below_ext E10 E10.size e13
 refine lw_v (.bool (decide (¬ (ax = cx ∧ ay = cy)))) (dv_notd (p := ax = cx ∧ ay = cy) (T rfl rfl)) ?_
 refine lw_nil ?_
 by_cases hb15 : ax = cx ∧ ay = cy
 · refine rk_cf (T rfl (congrArg Value.bool (decide_eq_false (not_not_intro hb15)))) ?_
   refine rk_skip ?_
   refine rk_seq ?_
   refine rk_seq ?_
   refine rk_reg ?_
   refine lw_v (.pointer (some ⟨b1, 2, none⟩)) (dv_fieldAddr (a := ⟨b1, 0, none⟩) (a' := ⟨b1, 2, none⟩) fo47_1 (T rfl rfl) rfl) ?_
   have H16 := (e13.blk H11)
   refine lw_v (.agg #[.int .i64 bx, .int .i64 b_y]) (dv_loads (l := [.int .i64 bx, .int .i64 b_y]) agt45 sz45 (T rfl rfl) H16 rfl) ?_
   refine lw_v (.pointer (some ⟨b6, 2, none⟩)) (dv_fieldAddr (a := ⟨b6, 0, none⟩) (a' := ⟨b6, 2, none⟩) fo47_1 (T rfl rfl) rfl) ?_
   have H17 := (e13.blk n8.blk)
   refine lw_v (.agg #[.int .i64 ex, .int .i64 ey]) (dv_loads (l := [.int .i64 ex, .int .i64 ey]) agt45 sz45 (T rfl rfl) H17 rfl) ?_
   refine lw_e (oe_callf (vs := [.agg #[.int .i64 bx, .int .i64 b_y], .agg #[.int .i64 ex, .int .i64 ey]]) co125 (ar2 (T rfl rfl) (T rfl rfl)) (eqSpot_ok (ax := bx) (ay := b_y) (bx := ex) (b_y := ey)  ) ?_)
   rintro _ w18 ⟨rfl, e19⟩
   have E20 := below_ext E14 E14.size e19
   refine lw_v (.bool (decide (¬ (bx = ex ∧ b_y = ey)))) (dv_notd (p := bx = ex ∧ b_y = ey) (T rfl rfl)) ?_
   refine lw_nil ?_
   by_cases hb21 : bx = ex ∧ b_y = ey
   · refine rk_cf (T rfl (congrArg Value.bool (decide_eq_false (not_not_intro hb21)))) ?_
     refine rk_skip ?_
     refine rk_seq ?_
     refine rk_reg ?_
     refine lw_v (.bool true) (dv_assign C) ?_
     refine lw_nil ?_
     refine rk_ret Try.func66 (v := .bool true) (res1 Try.results66 (rv_tmp rfl rfl)) ⟨_, rfl, ?_⟩
     exact ⟨(vt (by grind)), E20⟩
   · refine rk_ct (T rfl (congrArg Value.bool (decide_eq_true hb21))) ?_
     refine rk_seq ?_
     refine rk_reg ?_
     refine lw_v (.bool false) (dv_assign C) ?_
     refine lw_nil ?_
     refine rk_ret Try.func66 (v := .bool false) (res1 Try.results66 (rv_tmp rfl rfl)) ⟨_, rfl, ?_⟩
     exact ⟨(vf (by grind)), E20⟩
 · refine rk_ct (T rfl (congrArg Value.bool (decide_eq_true hb15))) ?_
   refine rk_seq ?_
   refine rk_reg ?_
   refine lw_v (.bool false) (dv_assign C) ?_
   refine lw_nil ?_
   refine rk_ret Try.func66 (v := .bool false) (res1 Try.results66 (rv_tmp rfl rfl)) ⟨_, rfl, ?_⟩
   exact ⟨(vf (by grind)), E14⟩
set_option maxHeartbeats 1000000 in
theorem szSegS_ok {w : World} {A : Option Addr} {l c : Nat} {n : Int} (hl : l ≤ 9223372036854775807) (hn : 0 ≤ n ∧ n ≤ 1048576) : Ct Try.prog 15 [.slice A l c, .int .i64 n] w fun v w1 => v = .int .i64 (szV l n) ∧ Ext w w1 := by
 refine ct_run (n := 12) Try.func15 rfl Try.ntmps15 rfl ?_
 have E0 : Below w.heap.size w w := Below.refl _ _
 refine rk_seq ?_
 refine rk_reg ?_
 refine lw_v (.int .i64 0) (dv_assign C) ?_
 refine lw_nil ?_
 refine rk_seq ?_
 refine rk_reg ?_
 refine lw_v (.int .i64 n) (dv_move (T rfl rfl)) ?_
 refine lw_v (.slice A l c) (dv_move (T rfl rfl)) ?_
 refine lw_v (.int .i64 ((l : Int))) (dv_len (ad := A) (l := l) (c := c) us22 (T rfl rfl)) ?_
 refine lw_v (.int .i64 (n - ((l : Int)))) (dv_sub (a := n) (b := (l : Int)) (z := n - ((l : Int))) (T rfl rfl) (T rfl rfl) (wr_i64 (by omega) (by omega))) ?_
 refine lw_v (.int .i64 (n - ((l : Int)))) (dv_assign (T rfl rfl)) ?_
 refine lw_nil ?_
 refine rk_seq ?_
 refine rk_seq ?_
 refine rk_reg ?_
 refine lw_v (.int .i64 (n - ((l : Int)))) (dv_move (T rfl rfl)) ?_
 refine lw_v (.bool (decide ((n - ((l : Int))) < 0))) (dv_lss (a := n - ((l : Int))) (b := 0) (T rfl rfl) C) ?_
 refine lw_nil ?_
 by_cases hb1 : (n - ((l : Int))) < 0
 · refine rk_ct (T rfl (congrArg Value.bool (decide_eq_true hb1))) ?_
   refine rk_seq ?_
   refine rk_reg ?_
   refine lw_v (.int .i64 (-1)) (dv_assign C) ?_
   refine lw_nil ?_
   refine rk_ret Try.func15 (v := .int .i64 (-1)) (res1 Try.results15 (rv_tmp rfl rfl)) ⟨_, rfl, ?_⟩
   exact ⟨(vi (by unfold szV; first | rw [if_pos (by omega)] | rw [if_neg (by omega)])), E0⟩
 · refine rk_cf (T rfl (congrArg Value.bool (decide_eq_false hb1))) ?_
   refine rk_skip ?_
   refine rk_seq ?_
   refine rk_reg ?_
   refine lw_v (.int .i64 (n - ((l : Int)))) (dv_move (T rfl rfl)) ?_
   refine lw_v (.int .i64 (n - ((l : Int)))) (dv_assign (T rfl rfl)) ?_
   refine lw_nil ?_
   refine rk_ret Try.func15 (v := .int .i64 (n - ((l : Int)))) (res1 Try.results15 (rv_tmp rfl rfl)) ⟨_, rfl, ?_⟩
   exact ⟨(vi (by unfold szV; first | rw [if_pos (by omega)] | rw [if_neg (by omega)])), E0⟩
set_option maxHeartbeats 1000000 in
theorem toSegS_ok {w : World} {A : Option Addr} {l c : Nat} {xs : List Int} (hx : RdI w .i64 A xs) (hxl : xs.length = l * 4) (hxb : l ≤ 1048576) : Ct Try.prog 17 [.slice A l c] w fun v w1 => ∃ b, v = .slice (some ⟨b, 0, none⟩) l l ∧ Ext w w1 ∧ w1.heap[b]? = some (.cells (xs.map (Value.int .i64)).toArray 47) ∧ w.heap.size ≤ b := by
 refine ct_run (n := 23) Try.func17 rfl Try.ntmps17 rfl ?_
 have E0 : Below w.heap.size w w := Below.refl _ _
 refine rk_seq ?_
 refine rk_reg ?_
 refine lw_v (.slice none 0 0) (dv_assign C) ?_
 refine lw_nil ?_
 refine rk_seq ?_
 refine rk_reg ?_
 refine lw_v (.slice A l c) (dv_move (T rfl rfl)) ?_
 refine lw_v (.int .i64 ((l : Int))) (dv_len (ad := A) (l := l) (c := c) us22 (T rfl rfl)) ?_
 refine lw_e (oe_makeM (l := l) (j := (l : Int)) (m := 4) (k := .i64) us25 in47 rfl (by decide) (T rfl rfl) (T rfl rfl) (by omega) (by first | omega | (simp; done) | (simp; omega)) (by first | omega | (simp; done) | (simp; omega)) ?_)
 intro b1 w2 n3
 have N4 : w.heap.size ≤ b1 := n3.eq ▸ E0.size
 have E5 := below_ext E0 E0.size n3.ext
 refine lw_v (.slice (some ⟨b1, 0, none⟩) l l) (dv_assign (T rfl rfl)) ?_
 refine lw_nil ?_
 refine rk_seq ?_
 refine rk_seq ?_
 refine rk_reg ?_
 refine lw_v (.int .i64 0) (dv_assign C) ?_
 refine lw_nil ?_
 refine rk_block ?_
 refine rk_loop (fun dm_ fr wl => ∃ (i : Nat) (M : List Int), dm_ = l - i ∧ fr 0 = .slice A l c ∧ fr 2 = .slice none 0 0 ∧ fr 3 = .slice (some ⟨b1, 0, none⟩) l l ∧ fr 4 = .int .i64 ((i : Int)) ∧ Below w.heap.size w wl ∧ wl.heap[b1]? = some (.cells (M.map (Value.int .i64)).toArray 47) ∧ (i ≤ l) ∧ (M.length = l * 4) ∧ (M.take (i * 4) = xs.take (i * 4))) (l - 0) ⟨0, (List.replicate (l * 4) (0 : Int)), rfl, rfl, rfl, rfl, (vi (by omega)), E5, n3.blk, (Nat.zero_le _), (by simp), (by simp)⟩ ?_
 intro d10 fr9 w6 hI7 ih8
 obtain ⟨i, M, hd17, f11, f12, f13, f14, E15, H16, hi, hMl, hMt⟩ := hI7
 refine rk_seq ?_
 refine rk_seq ?_
 refine rk_reg ?_
 refine lw_v (.int .i64 ((i : Int))) (dv_move (T rfl f14)) ?_
 refine lw_v (.slice A l c) (dv_move (T rfl f11)) ?_
 refine lw_v (.int .i64 ((l : Int))) (dv_len (ad := A) (l := l) (c := c) us22 (T rfl rfl)) ?_
 refine lw_v (.bool (decide (((i : Int)) < ((l : Int))))) (dv_lss (a := (i : Int)) (b := (l : Int)) (T rfl rfl) (T rfl rfl)) ?_
 refine lw_nil ?_
 by_cases hb18 : ((i : Int)) < ((l : Int))
 · refine rk_ct (T rfl (congrArg Value.bool (decide_eq_true hb18))) ?_
   refine rk_skip ?_
   refine rk_seq ?_
   refine rk_block ?_
   refine rk_reg ?_
   refine lw_v (.slice (some ⟨b1, 0, none⟩) l l) (dv_move (T rfl f13)) ?_
   refine lw_v (.int .i64 ((i : Int))) (dv_move (T rfl f14)) ?_
   refine lw_v (.slice A l c) (dv_move (T rfl f11)) ?_
   refine lw_v (.int .i64 ((i : Int))) (dv_move (T rfl f14)) ?_
   have h19 := (hx.ext E15)
   obtain ⟨g20, o21, rfl⟩ := RdI.at h19 (by first | omega | (simp; done) | (simp; omega))
   refine lw_v (.pointer (some ⟨g20, o21 + i * 4, none⟩)) (dv_indexM (g := g20) (o := o21) (l := l) (c := c) (i := i) (j := (i : Int)) (m := 4) us22 sz43 (T rfl rfl) (T rfl rfl) (by omega) (by first | omega | (simp; done) | (simp; omega))) ?_
   refine lw_v (.agg #[.int .i64 (xs.getD (i * 4) 0), .int .i64 (xs.getD (i * 4 + 1) 0), .int .i64 (xs.getD (i * 4 + 2) 0), .int .i64 (xs.getD (i * 4 + 3) 0)]) (dv_loadsI (i := i * 4) (m := 4) (k := .i64) (L := xs) (l := [.int .i64 (xs.getD (i * 4) 0), .int .i64 (xs.getD (i * 4 + 1) 0), .int .i64 (xs.getD (i * 4 + 2) 0), .int .i64 (xs.getD (i * 4 + 3) 0)]) agt43 sz43 (T rfl rfl) h19 (by first | omega | (simp; done) | (simp; omega)) rfl) ?_
   refine lw_e (oe_callf (vs := [.agg #[.int .i64 (xs.getD (i * 4) 0), .int .i64 (xs.getD (i * 4 + 1) 0), .int .i64 (xs.getD (i * 4 + 2) 0), .int .i64 (xs.getD (i * 4 + 3) 0)]]) co24 (ar1 (T rfl rfl)) (toSeg_ok (ax := xs.getD (i * 4) 0) (ay := xs.getD (i * 4 + 1) 0) (bx := xs.getD (i * 4 + 2) 0) (b_y := xs.getD (i * 4 + 3) 0)  ) ?_)
   rintro _ w22 ⟨rfl, e23⟩
   have E24 := below_ext E15 E15.size e23
   refine lw_v (.pointer (some ⟨b1, (i * 4), none⟩)) (dv_indexOM (g := b1) (l := l) (c := l) (i := i) (j := (i : Int)) (m := 4) us25 sz47 (T rfl rfl) (T rfl rfl) (by omega) (by first | omega | (simp; done) | (simp; omega))) ?_
   have H25 := (e23.blk H16)
   refine lw_e (oe_storeM (L := M) (i := i * 4) (m := 4) (k := .i64) (zs := [(xs.getD (i * 4) 0), (xs.getD (i * 4 + 1) 0), (xs.getD (i * 4 + 2) 0), (xs.getD (i * 4 + 3) 0)]) sz47 (T rfl rfl) (T rfl rfl) rfl rfl H25 (by first | omega | (simp; done) | (simp; omega)) ?_)
   intro w26 s27 H28
   have E29 := below_st E24 N4 s27
   refine lw_nil ?_
   refine rk_inBlock ?_
   refine rk_reg ?_
   refine lw_v (.int .i64 ((i : Int))) (dv_move (T rfl f14)) ?_
   refine lw_v (.int .i64 (((i : Int)) + 1)) (dv_add (a := (i : Int)) (b := 1) (z := ((i : Int)) + 1) (T rfl rfl) C (wr_i64 (by omega) (by omega))) ?_
   refine lw_v (.int .i64 (((i : Int)) + 1)) (dv_assign (T rfl rfl)) ?_
   refine lw_nil ?_
   exact ih8 (l - ((i + 1))) _ _ (by rw [hd17]; omega) ⟨(i + 1), (setM M (i * 4) [(xs.getD (i * 4) 0), (xs.getD (i * 4 + 1) 0), (xs.getD (i * 4 + 2) 0), (xs.getD (i * 4 + 3) 0)]), rfl, f11, f12, f13, (vi (by omega)), E29, H28, (by omega), (by simp [setM_len, hMl]), (by rw [Nat.add_mul, Nat.one_mul]; exact set_inv hMt (by omega) (by omega) rfl)⟩
 · refine rk_cf (T rfl (congrArg Value.bool (decide_eq_false hb18))) ?_
   refine rk_exit rfl ?_
   refine rk_seq ?_
   refine rk_reg ?_
   refine lw_v (.slice (some ⟨b1, 0, none⟩) l l) (dv_move (T rfl f13)) ?_
   refine lw_v (.slice (some ⟨b1, 0, none⟩) l l) (dv_assign (T rfl rfl)) ?_
   refine lw_nil ?_
   refine rk_ret Try.func17 (v := .slice (some ⟨b1, 0, none⟩) l l) (res1 Try.results17 (rv_tmp rfl rfl)) ⟨_, rfl, ?_⟩
   have hM : M = xs := take_all hMt (by omega) (by omega)
   exact ⟨_, rfl, E15, by rw [← hM]; exact H16, N4⟩
set_option maxHeartbeats 1000000 in
theorem eqSegS_ok {w : World} {A : Option Addr} {l c : Nat} {xs : List Int} (hx : RdI w .i64 A xs) (hxl : xs.length = l * 4) (hxb : l ≤ 1048576) {D : Option Addr} {m d : Nat} {ys : List Int} (hy : RdI w .i64 D ys) (hyl : ys.length = m * 4) (hyb : m ≤ 1048576) : Ct Try.prog 19 [.slice A l c, .slice D m d] w fun v w1 => v = .bool (decide ((xs : List Int) = ys)) ∧ Ext w w1 := by
 refine ct_run (n := 27) Try.func19 rfl Try.ntmps19 rfl ?_
 have E0 : Below w.heap.size w w := Below.refl _ _
 refine rk_seq ?_
 refine rk_reg ?_
 refine lw_v (.bool false) (dv_assign C) ?_
 refine lw_nil ?_
 refine rk_seq ?_
 refine rk_seq ?_
 refine rk_reg ?_
 refine lw_v (.slice A l c) (dv_move (T rfl rfl)) ?_
 refine lw_v (.int .i64 ((l : Int))) (dv_len (ad := A) (l := l) (c := c) us25 (T rfl rfl)) ?_
 refine lw_v (.slice D m d) (dv_move (T rfl rfl)) ?_
 refine lw_v (.int .i64 ((m : Int))) (dv_len (ad := D) (l := m) (c := d) us25 (T rfl rfl)) ?_
 refine lw_v (.bool (decide (((l : Int)) ≠ ((m : Int))))) (dv_neq (a := (l : Int)) (b := (m : Int)) (T rfl rfl) (T rfl rfl)) ?_
 refine lw_nil ?_
 by_cases hb1 : ((l : Int)) ≠ ((m : Int))
 · refine rk_ct (T rfl (congrArg Value.bool (decide_eq_true hb1))) ?_
   refine rk_seq ?_
   refine rk_reg ?_
   refine lw_v (.bool false) (dv_assign C) ?_
   refine lw_nil ?_
   refine rk_ret Try.func19 (v := .bool false) (res1 Try.results19 (rv_tmp rfl rfl)) ⟨_, rfl, ?_⟩
   exact ⟨(vf (by intro hh; have := congrArg List.length hh; omega)), E0⟩
 · refine rk_cf (T rfl (congrArg Value.bool (decide_eq_false hb1))) ?_
   refine rk_skip ?_
   refine rk_seq ?_
   refine rk_seq ?_
   refine rk_reg ?_
   refine lw_v (.int .i64 0) (dv_assign C) ?_
   refine lw_nil ?_
   refine rk_block ?_
   refine rk_loop (fun dm_ fr wl => ∃ (i : Nat), dm_ = l - i ∧ fr 0 = .slice A l c ∧ fr 1 = .slice D m d ∧ fr 5 = .int .i64 ((i : Int)) ∧ Below w.heap.size w wl ∧ (i ≤ l) ∧ (xs.take (i * 4) = ys.take (i * 4))) (l - 0) ⟨0, rfl, rfl, rfl, (vi (by omega)), E0, (Nat.zero_le _), (by simp)⟩ ?_
   intro d6 fr5 w2 hI3 ih4
   obtain ⟨i, hd11, f7, f8, f9, E10, hi, hqt⟩ := hI3
   refine rk_seq ?_
   refine rk_seq ?_
   refine rk_reg ?_
   refine lw_v (.int .i64 ((i : Int))) (dv_move (T rfl f9)) ?_
   refine lw_v (.slice A l c) (dv_move (T rfl f7)) ?_
   refine lw_v (.int .i64 ((l : Int))) (dv_len (ad := A) (l := l) (c := c) us25 (T rfl rfl)) ?_
   refine lw_v (.bool (decide (((i : Int)) < ((l : Int))))) (dv_lss (a := (i : Int)) (b := (l : Int)) (T rfl rfl) (T rfl rfl)) ?_
   refine lw_nil ?_
   by_cases hb12 : ((i : Int)) < ((l : Int))
   · refine rk_ct (T rfl (congrArg Value.bool (decide_eq_true hb12))) ?_
     refine rk_skip ?_
     refine rk_seq ?_
     refine rk_block ?_
     refine rk_seq ?_
     have h13 := (hx.ext E10)
     have h14 := (hy.ext E10)
     refine rk_any (fun w => RdI w .i64 A xs ∧ RdI w .i64 D ys) [] mo ?_
     intro w15 d16
     have E17 := below_ext E10 E10.size d16.ext
     have h18 := (h13.ext d16.ext)
     have h19 := (h14.ext d16.ext)
     refine aw_pure 0 (.slice A l c) rfl (by kernel_rfl) .none ⟨h18, h19⟩ (fun _ => dv_move (T rfl f7)) ?_
     refine aw_pure 1 (.int .i64 ((i : Int))) rfl (by kernel_rfl) .none ⟨h18, h19⟩ (fun _ => dv_move (T rfl f9)) ?_
     obtain ⟨g20, o21, rfl⟩ := RdI.at h18 (by first | omega | (simp; done) | (simp; omega))
     refine aw_pure 2 (.pointer (some ⟨g20, o21 + i * 4, none⟩)) rfl (by kernel_rfl) .none ⟨h18, h19⟩ (fun _ => dv_indexM (g := g20) (o := o21) (l := l) (c := c) (i := i) (j := (i : Int)) (m := 4) us25 sz47 (T rfl rfl) (T rfl rfl) (by omega) (by first | omega | (simp; done) | (simp; omega))) ?_
     refine aw_load 3 (.agg #[.int .i64 (xs.getD (i * 4) 0), .int .i64 (xs.getD (i * 4 + 1) 0), .int .i64 (xs.getD (i * 4 + 2) 0), .int .i64 (xs.getD (i * 4 + 3) 0)]) rfl (by kernel_rfl) .none ⟨h18, h19⟩ (fun _ s => dv_loadsI (i := i * 4) (m := 4) (k := .i64) (L := xs) (l := [.int .i64 (xs.getD (i * 4) 0), .int .i64 (xs.getD (i * 4 + 1) 0), .int .i64 (xs.getD (i * 4 + 2) 0), .int .i64 (xs.getD (i * 4 + 3) 0)]) agt47 sz47 (T rfl rfl) s.1 (by first | omega | (simp; done) | (simp; omega)) rfl) ?_
     refine aw_pure 4 (.slice D m d) rfl (by kernel_rfl) .none ⟨h18, h19⟩ (fun _ => dv_move (T rfl f8)) ?_
     refine aw_pure 5 (.int .i64 ((i : Int))) rfl (by kernel_rfl) .none ⟨h18, h19⟩ (fun _ => dv_move (T rfl f9)) ?_
     obtain ⟨g22, o23, rfl⟩ := RdI.at h19 (by first | omega | (simp; done) | (simp; omega))
     refine aw_pure 6 (.pointer (some ⟨g22, o23 + i * 4, none⟩)) rfl (by kernel_rfl) .none ⟨h18, h19⟩ (fun _ => dv_indexM (g := g22) (o := o23) (l := m) (c := d) (i := i) (j := (i : Int)) (m := 4) us25 sz47 (T rfl rfl) (T rfl rfl) (by omega) (by first | omega | (simp; done) | (simp; omega))) ?_
     refine aw_load 7 (.agg #[.int .i64 (ys.getD (i * 4) 0), .int .i64 (ys.getD (i * 4 + 1) 0), .int .i64 (ys.getD (i * 4 + 2) 0), .int .i64 (ys.getD (i * 4 + 3) 0)]) rfl (by kernel_rfl) .none ⟨h18, h19⟩ (fun _ s => dv_loadsI (i := i * 4) (m := 4) (k := .i64) (L := ys) (l := [.int .i64 (ys.getD (i * 4) 0), .int .i64 (ys.getD (i * 4 + 1) 0), .int .i64 (ys.getD (i * 4 + 2) 0), .int .i64 (ys.getD (i * 4 + 3) 0)]) agt47 sz47 (T rfl rfl) s.2 (by first | omega | (simp; done) | (simp; omega)) rfl) ?_
     refine aw_one 8 rfl (by kernel_rfl) .none (oe_callf (vs := [.agg #[.int .i64 (xs.getD (i * 4) 0), .int .i64 (xs.getD (i * 4 + 1) 0), .int .i64 (xs.getD (i * 4 + 2) 0), .int .i64 (xs.getD (i * 4 + 3) 0)], .agg #[.int .i64 (ys.getD (i * 4) 0), .int .i64 (ys.getD (i * 4 + 1) 0), .int .i64 (ys.getD (i * 4 + 2) 0), .int .i64 (ys.getD (i * 4 + 3) 0)]]) co66 (ar2 (T rfl rfl) (T rfl rfl)) (eqSeg_ok (ax := xs.getD (i * 4) 0) (ay := xs.getD (i * 4 + 1) 0) (bx := xs.getD (i * 4 + 2) 0) (b_y := xs.getD (i * 4 + 3) 0) (cx := ys.getD (i * 4) 0) (cy := ys.getD (i * 4 + 1) 0) (ex := ys.getD (i * 4 + 2) 0) (ey := ys.getD (i * 4 + 3) 0)  ) ?_)
     rintro _ w24 ⟨rfl, e25⟩
     have E26 := below_ext E17 E17.size e25
     have h27 := (h18.ext e25)
     have h28 := (h19.ext e25)
     refine ⟨.inr ⟨h27, h28⟩, ?_⟩
     refine aw_pure 9 (.bool (decide (¬ (((xs.getD (i * 4) 0) = (ys.getD (i * 4) 0) ∧ (xs.getD (i * 4 + 1) 0) = (ys.getD (i * 4 + 1) 0)) ∧ (xs.getD (i * 4 + 2) 0) = (ys.getD (i * 4 + 2) 0) ∧ (xs.getD (i * 4 + 3) 0) = (ys.getD (i * 4 + 3) 0))))) rfl (by kernel_rfl) .none ⟨h27, h28⟩ (fun _ => dv_notd (p := ((xs.getD (i * 4) 0) = (ys.getD (i * 4) 0) ∧ (xs.getD (i * 4 + 1) 0) = (ys.getD (i * 4 + 1) 0)) ∧ (xs.getD (i * 4 + 2) 0) = (ys.getD (i * 4 + 2) 0) ∧ (xs.getD (i * 4 + 3) 0) = (ys.getD (i * 4 + 3) 0)) (T rfl rfl)) ?_
     refine aw_done (by kernel_rfl) ?_
     by_cases hb29 : ((xs.getD (i * 4) 0) = (ys.getD (i * 4) 0) ∧ (xs.getD (i * 4 + 1) 0) = (ys.getD (i * 4 + 1) 0)) ∧ (xs.getD (i * 4 + 2) 0) = (ys.getD (i * 4 + 2) 0) ∧ (xs.getD (i * 4 + 3) 0) = (ys.getD (i * 4 + 3) 0)
     · refine rk_cf (T rfl (congrArg Value.bool (decide_eq_false (not_not_intro hb29)))) ?_
       refine rk_skip ?_
       refine rk_inBlock ?_
       refine rk_reg ?_
       refine lw_v (.int .i64 ((i : Int))) (dv_move (T rfl f9)) ?_
       refine lw_v (.int .i64 (((i : Int)) + 1)) (dv_add (a := (i : Int)) (b := 1) (z := ((i : Int)) + 1) (T rfl rfl) C (wr_i64 (by omega) (by omega))) ?_
       refine lw_v (.int .i64 (((i : Int)) + 1)) (dv_assign (T rfl rfl)) ?_
       refine lw_nil ?_
       exact ih4 (l - ((i + 1))) _ _ (by rw [hd11]; omega) ⟨(i + 1), rfl, f7, f8, (vi (by omega)), E26, (by omega), (by have hq := ‹_ ∧ _›; rw [Nat.add_mul, Nat.one_mul]; exact take_eq4 hqt (by omega) (by omega) hq.1.1 hq.1.2 hq.2.1 hq.2.2)⟩
     · refine rk_ct (T rfl (congrArg Value.bool (decide_eq_true hb29))) ?_
       refine rk_seq ?_
       refine rk_reg ?_
       refine lw_v (.bool false) (dv_assign C) ?_
       refine lw_nil ?_
       refine rk_ret Try.func19 (v := .bool false) (res1 Try.results19 (rv_tmp rfl rfl)) ⟨_, rfl, ?_⟩
       exact ⟨(vf (by intro hh; subst hh; exact hb29 ⟨⟨rfl, rfl⟩, rfl, rfl⟩)), E26⟩
   · refine rk_cf (T rfl (congrArg Value.bool (decide_eq_false hb12))) ?_
     refine rk_exit rfl ?_
     refine rk_seq ?_
     refine rk_reg ?_
     refine lw_v (.bool true) (dv_assign C) ?_
     refine lw_nil ?_
     refine rk_ret Try.func19 (v := .bool true) (res1 Try.results19 (rv_tmp rfl rfl)) ⟨_, rfl, ?_⟩
     exact ⟨(vt (take_all hqt (by omega) (by omega))), E10⟩
set_option maxHeartbeats 1000000 in
theorem sSegsFault_ok {w : World} {A : Option Addr} {l c : Nat} {xs : List Int} (hx : RdI w .i64 A xs) (hxl : xs.length = l * 4) (hxb : l ≤ 1048576) : Ct Try.prog 16 [.slice A l c] w fun v w1 => v = .int .i64 (sgF l xs) ∧ Ext w w1 := by
 refine ct_run (n := 19) Try.func16 rfl Try.ntmps16 rfl ?_
 have E0 : Below w.heap.size w w := Below.refl _ _
 refine rk_seq ?_
 refine rk_reg ?_
 refine lw_v (.int .i64 0) (dv_assign C) ?_
 refine lw_nil ?_
 refine rk_seq ?_
 refine rk_seq ?_
 refine rk_reg ?_
 refine lw_v (.slice A l c) (dv_move (T rfl rfl)) ?_
 refine lw_v (.int .i64 ((l : Int))) (dv_len (ad := A) (l := l) (c := c) us25 (T rfl rfl)) ?_
 refine lw_v (.bool (decide (40 < ((l : Int))))) (dv_gtr (a := (l : Int)) (b := 40) (T rfl rfl) C) ?_
 refine lw_nil ?_
 by_cases hb1 : 40 < ((l : Int))
 · refine rk_ct (T rfl (congrArg Value.bool (decide_eq_true hb1))) ?_
   refine rk_seq ?_
   refine rk_reg ?_
   refine lw_v (.int .i64 1) (dv_assign C) ?_
   refine lw_nil ?_
   refine rk_ret Try.func16 (v := .int .i64 1) (res1 Try.results16 (rv_tmp rfl rfl)) ⟨_, rfl, ?_⟩
   exact ⟨vi (by unfold sgF; rw [if_pos (by omega)]), E0⟩
 · refine rk_cf (T rfl (congrArg Value.bool (decide_eq_false hb1))) ?_
   refine rk_skip ?_
   refine rk_seq ?_
   refine rk_seq ?_
   refine rk_reg ?_
   refine lw_v (.int .i64 0) (dv_assign C) ?_
   refine lw_nil ?_
   refine rk_block ?_
   refine rk_loop (fun dm_ fr wl => ∃ (i : Nat), dm_ = l - i ∧ fr 0 = .slice A l c ∧ fr 3 = .int .i64 ((i : Int)) ∧ Below w.heap.size w wl ∧ (i ≤ l) ∧ (∀ k, k < i → segAt xs k)) (l - 0) ⟨0, rfl, rfl, (vi (by omega)), E0, (Nat.zero_le _), (fun k hk => absurd hk (by omega))⟩ ?_
   intro d6 fr5 w2 hI3 ih4
   obtain ⟨i, hd10, f7, f8, E9, hi, hall⟩ := hI3
   refine rk_seq ?_
   refine rk_seq ?_
   refine rk_reg ?_
   refine lw_v (.int .i64 ((i : Int))) (dv_move (T rfl f8)) ?_
   refine lw_v (.slice A l c) (dv_move (T rfl f7)) ?_
   refine lw_v (.int .i64 ((l : Int))) (dv_len (ad := A) (l := l) (c := c) us25 (T rfl rfl)) ?_
   refine lw_v (.bool (decide (((i : Int)) < ((l : Int))))) (dv_lss (a := (i : Int)) (b := (l : Int)) (T rfl rfl) (T rfl rfl)) ?_
   refine lw_nil ?_
   by_cases hb11 : ((i : Int)) < ((l : Int))
   · refine rk_ct (T rfl (congrArg Value.bool (decide_eq_true hb11))) ?_
     refine rk_skip ?_
     refine rk_seq ?_
     refine rk_block ?_
     refine rk_seq ?_
     refine rk_reg ?_
     refine lw_v (.slice A l c) (dv_move (T rfl f7)) ?_
     refine lw_v (.int .i64 ((i : Int))) (dv_move (T rfl f8)) ?_
     have h12 := (hx.ext E9)
     obtain ⟨g13, o14, rfl⟩ := RdI.at h12 (by first | omega | (simp; done) | (simp; omega))
     refine lw_v (.pointer (some ⟨g13, o14 + i * 4, none⟩)) (dv_indexM (g := g13) (o := o14) (l := l) (c := c) (i := i) (j := (i : Int)) (m := 4) us25 sz47 (T rfl rfl) (T rfl rfl) (by omega) (by first | omega | (simp; done) | (simp; omega))) ?_
     refine lw_v (.agg #[.int .i64 (xs.getD (i * 4) 0), .int .i64 (xs.getD (i * 4 + 1) 0), .int .i64 (xs.getD (i * 4 + 2) 0), .int .i64 (xs.getD (i * 4 + 3) 0)]) (dv_loadsI (i := i * 4) (m := 4) (k := .i64) (L := xs) (l := [.int .i64 (xs.getD (i * 4) 0), .int .i64 (xs.getD (i * 4 + 1) 0), .int .i64 (xs.getD (i * 4 + 2) 0), .int .i64 (xs.getD (i * 4 + 3) 0)]) agt47 sz47 (T rfl rfl) h12 (by first | omega | (simp; done) | (simp; omega)) rfl) ?_
     refine lw_e (oe_callf (vs := [.agg #[.int .i64 (xs.getD (i * 4) 0), .int .i64 (xs.getD (i * 4 + 1) 0), .int .i64 (xs.getD (i * 4 + 2) 0), .int .i64 (xs.getD (i * 4 + 3) 0)]]) co65 (ar1 (T rfl rfl)) (sSegOk_ok (ax := xs.getD (i * 4) 0) (ay := xs.getD (i * 4 + 1) 0) (bx := xs.getD (i * 4 + 2) 0) (b_y := xs.getD (i * 4 + 3) 0)  ) ?_)
     rintro _ w15 ⟨rfl, e16⟩
     have E17 := below_ext E9 E9.size e16
     refine lw_v (.bool (decide (¬ (segOk (xs.getD (i * 4) 0) (xs.getD (i * 4 + 1) 0) (xs.getD (i * 4 + 2) 0) (xs.getD (i * 4 + 3) 0))))) (dv_notd (p := segOk (xs.getD (i * 4) 0) (xs.getD (i * 4 + 1) 0) (xs.getD (i * 4 + 2) 0) (xs.getD (i * 4 + 3) 0)) (T rfl rfl)) ?_
     refine lw_nil ?_
     by_cases hb18 : segOk (xs.getD (i * 4) 0) (xs.getD (i * 4 + 1) 0) (xs.getD (i * 4 + 2) 0) (xs.getD (i * 4 + 3) 0)
     · refine rk_cf (T rfl (congrArg Value.bool (decide_eq_false (not_not_intro hb18)))) ?_
       refine rk_skip ?_
       refine rk_inBlock ?_
       refine rk_reg ?_
       refine lw_v (.int .i64 ((i : Int))) (dv_move (T rfl f8)) ?_
       refine lw_v (.int .i64 (((i : Int)) + 1)) (dv_add (a := (i : Int)) (b := 1) (z := ((i : Int)) + 1) (T rfl rfl) C (wr_i64 (by omega) (by omega))) ?_
       refine lw_v (.int .i64 (((i : Int)) + 1)) (dv_assign (T rfl rfl)) ?_
       refine lw_nil ?_
       exact ih4 (l - ((i + 1))) _ _ (by rw [hd10]; omega) ⟨(i + 1), rfl, f7, (vi (by omega)), E17, (by omega), (all_step hall (by assumption))⟩
     · refine rk_ct (T rfl (congrArg Value.bool (decide_eq_true hb18))) ?_
       refine rk_seq ?_
       refine rk_reg ?_
       refine lw_v (.int .i64 2) (dv_assign C) ?_
       refine lw_nil ?_
       refine rk_ret Try.func16 (v := .int .i64 2) (res1 Try.results16 (rv_tmp rfl rfl)) ⟨_, rfl, ?_⟩
       exact ⟨vi (by unfold sgF; rw [if_neg (by omega), if_neg (fun hh => absurd (hh i (by omega)) (by assumption))]), E17⟩
   · refine rk_cf (T rfl (congrArg Value.bool (decide_eq_false hb11))) ?_
     refine rk_exit rfl ?_
     refine rk_seq ?_
     refine rk_reg ?_
     refine lw_v (.int .i64 0) (dv_assign C) ?_
     refine lw_nil ?_
     refine rk_ret Try.func16 (v := .int .i64 0) (res1 Try.results16 (rv_tmp rfl rfl)) ⟨_, rfl, ?_⟩
     exact ⟨vi (by unfold sgF; rw [if_neg (by omega), if_pos (show segsOk l xs from fun k hk => hall k (by omega))]), E9⟩
set_option maxHeartbeats 1000000 in
theorem iSegsFault_ok {w : World} {A : Option Addr} {l c : Nat} {xs : List Int} (hx : RdI w .i64 A xs) (hxl : xs.length = l * 4) (hxb : l ≤ 1048576) : Ct Try.prog 18 [.slice A l c] w fun v w1 => v = .int .i64 (sgF l xs) ∧ Ext w w1 := by
 refine ct_run (n := 18) Try.func18 rfl Try.ntmps18 rfl ?_
 have E0 : Below w.heap.size w w := Below.refl _ _
 refine rk_seq ?_
 refine rk_reg ?_
 refine lw_v (.int .i64 0) (dv_assign C) ?_
 refine lw_nil ?_
 refine rk_seq ?_
 refine rk_seq ?_
 refine rk_reg ?_
 refine lw_v (.slice A l c) (dv_move (T rfl rfl)) ?_
 refine lw_v (.int .i64 ((l : Int))) (dv_len (ad := A) (l := l) (c := c) us25 (T rfl rfl)) ?_
 refine lw_v (.bool (decide (40 < ((l : Int))))) (dv_gtr (a := (l : Int)) (b := 40) (T rfl rfl) C) ?_
 refine lw_nil ?_
 by_cases hb1 : 40 < ((l : Int))
 · refine rk_ct (T rfl (congrArg Value.bool (decide_eq_true hb1))) ?_
   refine rk_seq ?_
   refine rk_reg ?_
   refine lw_v (.int .i64 1) (dv_assign C) ?_
   refine lw_nil ?_
   refine rk_ret Try.func18 (v := .int .i64 1) (res1 Try.results18 (rv_tmp rfl rfl)) ⟨_, rfl, ?_⟩
   exact ⟨vi (by unfold sgF; rw [if_pos (by omega)]), E0⟩
 · refine rk_cf (T rfl (congrArg Value.bool (decide_eq_false hb1))) ?_
   refine rk_skip ?_
   refine rk_seq ?_
   refine rk_seq ?_
   refine rk_reg ?_
   refine lw_v (.slice A l c) (dv_move (T rfl rfl)) ?_
   refine lw_v (.int .i64 ((l : Int))) (dv_len (ad := A) (l := l) (c := c) us25 (T rfl rfl)) ?_
   refine lw_v (.int .i64 0) (dv_move C) ?_
   refine lw_nil ?_
   refine rk_block ?_
   refine rk_loop (fun dm_ fr wl => ∃ (i : Nat), dm_ = l - i ∧ fr 8 = .slice A l c ∧ fr 9 = .int .i64 ((l : Int)) ∧ fr 10 = .int .i64 ((i : Int)) ∧ Below w.heap.size w wl ∧ (i ≤ l) ∧ (∀ k, k < i → segAt xs k)) (l - 0) ⟨0, rfl, rfl, rfl, (vi (by omega)), E0, (Nat.zero_le _), (fun k hk => absurd hk (by omega))⟩ ?_
   intro d6 fr5 w2 hI3 ih4
   obtain ⟨i, hd11, f7, f8, f9, E10, hi, hall⟩ := hI3
   refine rk_seq ?_
   refine rk_reg ?_
   refine lw_v (.bool (decide (((i : Int)) < ((l : Int))))) (dv_lss (a := (i : Int)) (b := (l : Int)) (T rfl f9) (T rfl f8)) ?_
   refine lw_nil ?_
   refine rk_seq ?_
   by_cases hb12 : ((i : Int)) < ((l : Int))
   · refine rk_ct (T rfl (congrArg Value.bool (decide_eq_true hb12))) ?_
     refine rk_skip ?_
     refine rk_seq ?_
     refine rk_block ?_
     refine rk_seq ?_
     refine rk_reg ?_
     have h13 := (hx.ext E10)
     obtain ⟨g14, o15, rfl⟩ := RdI.at h13 (by first | omega | (simp; done) | (simp; omega))
     refine lw_v (.pointer (some ⟨g14, o15 + i * 4, none⟩)) (dv_indexM (g := g14) (o := o15) (l := l) (c := c) (i := i) (j := (i : Int)) (m := 4) us25 sz47 (T rfl f7) (T rfl f9) (by omega) (by first | omega | (simp; done) | (simp; omega))) ?_
     refine lw_v (.agg #[.int .i64 (xs.getD (i * 4) 0), .int .i64 (xs.getD (i * 4 + 1) 0), .int .i64 (xs.getD (i * 4 + 2) 0), .int .i64 (xs.getD (i * 4 + 3) 0)]) (dv_loadsI (i := i * 4) (m := 4) (k := .i64) (L := xs) (l := [.int .i64 (xs.getD (i * 4) 0), .int .i64 (xs.getD (i * 4 + 1) 0), .int .i64 (xs.getD (i * 4 + 2) 0), .int .i64 (xs.getD (i * 4 + 3) 0)]) agt47 sz47 (T rfl rfl) h13 (by first | omega | (simp; done) | (simp; omega)) rfl) ?_
     refine lw_e (oe_alloc ze47 ?_)
     intro b16 w17 n18
     have N19 : w.heap.size ≤ b16 := n18.eq ▸ E10.size
     have E20 := below_ext E10 E10.size n18.ext
     refine lw_e (oe_store (v := .agg #[.int .i64 (xs.getD (i * 4) 0), .int .i64 (xs.getD (i * 4 + 1) 0), .int .i64 (xs.getD (i * 4 + 2) 0), .int .i64 (xs.getD (i * 4 + 3) 0)]) (vs := [.int .i64 (xs.getD (i * 4) 0), .int .i64 (xs.getD (i * 4 + 1) 0), .int .i64 (xs.getD (i * 4 + 2) 0), .int .i64 (xs.getD (i * 4 + 3) 0)]) (l := [.int .i64 (xs.getD (i * 4) 0), .int .i64 (xs.getD (i * 4 + 1) 0), .int .i64 (xs.getD (i * 4 + 2) 0), .int .i64 (xs.getD (i * 4 + 3) 0)]) (T rfl rfl) (T rfl rfl) sz47 rfl rfl rfl n18.blk rfl ?_)
     intro w21 s22 H23
     have E24 := below_st E20 N19 s22
     refine lw_nil ?_
     refine rk_seq ?_
     refine rk_reg ?_
     refine lw_v (.agg #[.int .i64 (xs.getD (i * 4) 0), .int .i64 (xs.getD (i * 4 + 1) 0), .int .i64 (xs.getD (i * 4 + 2) 0), .int .i64 (xs.getD (i * 4 + 3) 0)]) (dv_loads (l := [.int .i64 (xs.getD (i * 4) 0), .int .i64 (xs.getD (i * 4 + 1) 0), .int .i64 (xs.getD (i * 4 + 2) 0), .int .i64 (xs.getD (i * 4 + 3) 0)]) agt47 sz47 (T rfl rfl) H23 rfl) ?_
     refine lw_e (oe_callf (vs := [.agg #[.int .i64 (xs.getD (i * 4) 0), .int .i64 (xs.getD (i * 4 + 1) 0), .int .i64 (xs.getD (i * 4 + 2) 0), .int .i64 (xs.getD (i * 4 + 3) 0)]]) co30 (ar1 (T rfl rfl)) (iSegOk_ok (ax := xs.getD (i * 4) 0) (ay := xs.getD (i * 4 + 1) 0) (bx := xs.getD (i * 4 + 2) 0) (b_y := xs.getD (i * 4 + 3) 0)  ) ?_)
     rintro _ w25 ⟨rfl, e26⟩
     have E27 := below_ext E24 E24.size e26
     refine lw_v (.bool (decide (¬ (segOk (xs.getD (i * 4) 0) (xs.getD (i * 4 + 1) 0) (xs.getD (i * 4 + 2) 0) (xs.getD (i * 4 + 3) 0))))) (dv_notd (p := segOk (xs.getD (i * 4) 0) (xs.getD (i * 4 + 1) 0) (xs.getD (i * 4 + 2) 0) (xs.getD (i * 4 + 3) 0)) (T rfl rfl)) ?_
     refine lw_nil ?_
     by_cases hb28 : segOk (xs.getD (i * 4) 0) (xs.getD (i * 4 + 1) 0) (xs.getD (i * 4 + 2) 0) (xs.getD (i * 4 + 3) 0)
     · refine rk_cf (T rfl (congrArg Value.bool (decide_eq_false (not_not_intro hb28)))) ?_
       refine rk_skip ?_
       refine rk_inBlock ?_
       refine rk_reg ?_
       refine lw_v (.int .i64 (((i : Int)) + 1)) (dv_add (a := (i : Int)) (b := 1) (z := ((i : Int)) + 1) (T rfl f9) C (wr_i64 (by omega) (by omega))) ?_
       refine lw_v (.int .i64 (((i : Int)) + 1)) (dv_move (T rfl rfl)) ?_
       refine lw_nil ?_
       exact ih4 (l - ((i + 1))) _ _ (by rw [hd11]; omega) ⟨(i + 1), rfl, f7, f8, (vi (by omega)), E27, (by omega), (all_step hall (by assumption))⟩
     · refine rk_ct (T rfl (congrArg Value.bool (decide_eq_true hb28))) ?_
       refine rk_seq ?_
       refine rk_reg ?_
       refine lw_v (.int .i64 2) (dv_assign C) ?_
       refine lw_nil ?_
       refine rk_ret Try.func18 (v := .int .i64 2) (res1 Try.results18 (rv_tmp rfl rfl)) ⟨_, rfl, ?_⟩
       exact ⟨vi (by unfold sgF; rw [if_neg (by omega), if_neg (fun hh => absurd (hh i (by omega)) (by assumption))]), E27⟩
   · refine rk_cf (T rfl (congrArg Value.bool (decide_eq_false hb12))) ?_
     refine rk_exit rfl ?_
     refine rk_seq ?_
     refine rk_reg ?_
     refine lw_v (.int .i64 0) (dv_assign C) ?_
     refine lw_nil ?_
     refine rk_ret Try.func18 (v := .int .i64 0) (res1 Try.results18 (rv_tmp rfl rfl)) ⟨_, rfl, ?_⟩
     exact ⟨vi (by unfold sgF; rw [if_neg (by omega), if_pos (show segsOk l xs from fun k hk => hall k (by omega))]), E10⟩
set_option maxHeartbeats 1000000 in
theorem markSegS_ok {w : World} {bl l c : Nat} {xs : List Int} {k : Int} (hL : w.heap[bl]? = some (.cells (xs.map (Value.int .i64)).toArray 47)) (hxl : xs.length = l * 4) (hl : l ≤ 1048576) (hk : 0 ≤ k ∧ k ≤ 1073741824) : Ct Try.prog 55 [.slice (some ⟨bl, 0, none⟩) l c, .int .i64 k] w fun v w1 => v = .int .i64 (k + (l : Int) * 4) ∧ St bl w w1 ∧ ∃ M : List Int, M.length = l * 4 ∧ w1.heap[bl]? = some (.cells (M.map (Value.int .i64)).toArray 47) := by
 refine ct_run (n := 45) Try.func55 rfl Try.ntmps55 rfl ?_
 have E0 : Below bl w w := Below.refl _ _
 refine rk_seq ?_
 refine rk_reg ?_
 refine lw_v (.int .i64 0) (dv_assign C) ?_
 refine lw_nil ?_
 refine rk_seq ?_
 refine rk_seq ?_
 refine rk_reg ?_
 refine lw_v (.int .i64 0) (dv_assign C) ?_
 refine lw_nil ?_
 refine rk_block ?_
 refine rk_loop (fun dm_ fr wl => ∃ (i : Nat) (M : List Int), dm_ = l - i ∧ fr 0 = .slice (some ⟨bl, 0, none⟩) l c ∧ fr 1 = .int .i64 (k + (i : Int) * 4) ∧ fr 4 = .int .i64 0 ∧ fr 5 = .int .i64 ((i : Int)) ∧ Below bl w wl ∧ wl.heap[bl]? = some (.cells (M.map (Value.int .i64)).toArray 47) ∧ (i ≤ l) ∧ (M.length = l * 4) ∧ (St bl w wl)) (l - 0) ⟨0, xs, rfl, rfl, (vi (by omega)), rfl, (vi (by omega)), E0, hL, (Nat.zero_le _), hxl, (St.refl _ _)⟩ ?_
 intro d5 fr4 w1 hI2 ih3
 obtain ⟨i, M, hd12, f6, f7, f8, f9, E10, H11, hi, hMl, hSt⟩ := hI2
 refine rk_seq ?_
 refine rk_seq ?_
 refine rk_reg ?_
 refine lw_v (.int .i64 ((i : Int))) (dv_move (T rfl f9)) ?_
 refine lw_v (.slice (some ⟨bl, 0, none⟩) l c) (dv_move (T rfl f6)) ?_
 refine lw_v (.int .i64 ((l : Int))) (dv_len (ad := some ⟨bl, 0, none⟩) (l := l) (c := c) us25 (T rfl rfl)) ?_
 refine lw_v (.bool (decide (((i : Int)) < ((l : Int))))) (dv_lss (a := (i : Int)) (b := (l : Int)) (T rfl rfl) (T rfl rfl)) ?_
 refine lw_nil ?_
 by_cases hb13 : ((i : Int)) < ((l : Int))
 · refine rk_ct (T rfl (congrArg Value.bool (decide_eq_true hb13))) ?_
   refine rk_skip ?_
   refine rk_seq ?_
   refine rk_block ?_
   refine rk_seq ?_
   refine rk_reg ?_
   refine lw_v (.slice (some ⟨bl, 0, none⟩) l c) (dv_move (T rfl f6)) ?_
   refine lw_v (.int .i64 ((i : Int))) (dv_move (T rfl f9)) ?_
   refine lw_v (.int .i64 (k + (i : Int) * 4)) (dv_move (T rfl f7)) ?_
   refine lw_v (.pointer (some ⟨bl, (i * 4), none⟩)) (dv_indexOM (g := bl) (l := l) (c := c) (i := i) (j := (i : Int)) (m := 4) us25 sz47 (T rfl rfl) (T rfl rfl) (by omega) (by first | omega | (simp; done) | (simp; omega))) ?_
   refine lw_v (.pointer (some ⟨bl, (i * 4), none⟩)) (dv_fieldO (g := bl) (i := i * 4) fo47_0 (T rfl rfl)) ?_
   refine lw_v (.pointer (some ⟨bl, (i * 4), none⟩)) (dv_fieldO (g := bl) (i := i * 4) fo45_0 (T rfl rfl)) ?_
   refine lw_e (oe_storeW (L := M) (i := i * 4) (z := k + (i : Int) * 4) sz2 (T rfl rfl) (T rfl rfl) H11 (by first | omega | (simp; done) | (simp; omega)) ?_)
   intro w14 s15 H16
   have E17 := below_st E10 (Nat.le_refl _) s15
   refine lw_nil ?_
   refine rk_seq ?_
   refine rk_reg ?_
   refine lw_v (.int .i64 (k + (i : Int) * 4)) (dv_move (T rfl f7)) ?_
   refine lw_v (.int .i64 ((k + (i : Int) * 4) + 1)) (dv_add (a := k + (i : Int) * 4) (b := 1) (z := (k + (i : Int) * 4) + 1) (T rfl rfl) C (wr_i64 (by omega) (by omega))) ?_
   refine lw_v (.int .i64 ((k + (i : Int) * 4) + 1)) (dv_assign (T rfl rfl)) ?_
   refine lw_nil ?_
   refine rk_seq ?_
   refine rk_reg ?_
   refine lw_v (.slice (some ⟨bl, 0, none⟩) l c) (dv_move (T rfl f6)) ?_
   refine lw_v (.int .i64 ((i : Int))) (dv_move (T rfl f9)) ?_
   refine lw_v (.int .i64 ((k + (i : Int) * 4) + 1)) (dv_move (T rfl rfl)) ?_
   refine lw_v (.pointer (some ⟨bl, (i * 4), none⟩)) (dv_indexOM (g := bl) (l := l) (c := c) (i := i) (j := (i : Int)) (m := 4) us25 sz47 (T rfl rfl) (T rfl rfl) (by omega) (by first | omega | (simp; done) | (simp; omega))) ?_
   refine lw_v (.pointer (some ⟨bl, (i * 4), none⟩)) (dv_fieldO (g := bl) (i := i * 4) fo47_0 (T rfl rfl)) ?_
   refine lw_v (.pointer (some ⟨bl, (i * 4 + 1), none⟩)) (dv_fieldO (g := bl) (i := i * 4) fo45_1 (T rfl rfl)) ?_
   refine lw_e (oe_storeW (L := (M.set (i * 4) (k + (i : Int) * 4))) (i := i * 4 + 1) (z := (k + (i : Int) * 4) + 1) sz2 (T rfl rfl) (T rfl rfl) H16 (by first | omega | (simp; done) | (simp; omega)) ?_)
   intro w18 s19 H20
   have E21 := below_st E17 (Nat.le_refl _) s19
   refine lw_nil ?_
   refine rk_seq ?_
   refine rk_reg ?_
   refine lw_v (.int .i64 ((k + (i : Int) * 4) + 1)) (dv_move (T rfl rfl)) ?_
   refine lw_v (.int .i64 (((k + (i : Int) * 4) + 1) + 1)) (dv_add (a := (k + (i : Int) * 4) + 1) (b := 1) (z := ((k + (i : Int) * 4) + 1) + 1) (T rfl rfl) C (wr_i64 (by omega) (by omega))) ?_
   refine lw_v (.int .i64 (((k + (i : Int) * 4) + 1) + 1)) (dv_assign (T rfl rfl)) ?_
   refine lw_nil ?_
   refine rk_seq ?_
   refine rk_reg ?_
   refine lw_v (.slice (some ⟨bl, 0, none⟩) l c) (dv_move (T rfl f6)) ?_
   refine lw_v (.int .i64 ((i : Int))) (dv_move (T rfl f9)) ?_
   refine lw_v (.int .i64 (((k + (i : Int) * 4) + 1) + 1)) (dv_move (T rfl rfl)) ?_
   refine lw_v (.pointer (some ⟨bl, (i * 4), none⟩)) (dv_indexOM (g := bl) (l := l) (c := c) (i := i) (j := (i : Int)) (m := 4) us25 sz47 (T rfl rfl) (T rfl rfl) (by omega) (by first | omega | (simp; done) | (simp; omega))) ?_
   refine lw_v (.pointer (some ⟨bl, (i * 4 + 2), none⟩)) (dv_fieldO (g := bl) (i := i * 4) fo47_1 (T rfl rfl)) ?_
   refine lw_v (.pointer (some ⟨bl, (i * 4 + 2), none⟩)) (dv_fieldO (g := bl) (i := i * 4 + 2) fo45_0 (T rfl rfl)) ?_
   refine lw_e (oe_storeW (L := (((M.set (i * 4) (k + (i : Int) * 4))).set (i * 4 + 1) ((k + (i : Int) * 4) + 1))) (i := i * 4 + 2) (z := ((k + (i : Int) * 4) + 1) + 1) sz2 (T rfl rfl) (T rfl rfl) H20 (by first | omega | (simp; done) | (simp; omega)) ?_)
   intro w22 s23 H24
   have E25 := below_st E21 (Nat.le_refl _) s23
   refine lw_nil ?_
   refine rk_seq ?_
   refine rk_reg ?_
   refine lw_v (.int .i64 (((k + (i : Int) * 4) + 1) + 1)) (dv_move (T rfl rfl)) ?_
   refine lw_v (.int .i64 ((((k + (i : Int) * 4) + 1) + 1) + 1)) (dv_add (a := ((k + (i : Int) * 4) + 1) + 1) (b := 1) (z := (((k + (i : Int) * 4) + 1) + 1) + 1) (T rfl rfl) C (wr_i64 (by omega) (by omega))) ?_
   refine lw_v (.int .i64 ((((k + (i : Int) * 4) + 1) + 1) + 1)) (dv_assign (T rfl rfl)) ?_
   refine lw_nil ?_
   refine rk_seq ?_
   refine rk_reg ?_
   refine lw_v (.slice (some ⟨bl, 0, none⟩) l c) (dv_move (T rfl f6)) ?_
   refine lw_v (.int .i64 ((i : Int))) (dv_move (T rfl f9)) ?_
   refine lw_v (.int .i64 ((((k + (i : Int) * 4) + 1) + 1) + 1)) (dv_move (T rfl rfl)) ?_
   refine lw_v (.pointer (some ⟨bl, (i * 4), none⟩)) (dv_indexOM (g := bl) (l := l) (c := c) (i := i) (j := (i : Int)) (m := 4) us25 sz47 (T rfl rfl) (T rfl rfl) (by omega) (by first | omega | (simp; done) | (simp; omega))) ?_
   refine lw_v (.pointer (some ⟨bl, (i * 4 + 2), none⟩)) (dv_fieldO (g := bl) (i := i * 4) fo47_1 (T rfl rfl)) ?_
   refine lw_v (.pointer (some ⟨bl, (i * 4 + 3), none⟩)) (dv_fieldO (g := bl) (i := i * 4 + 2) fo45_1 (T rfl rfl)) ?_
   refine lw_e (oe_storeW (L := (((((M.set (i * 4) (k + (i : Int) * 4))).set (i * 4 + 1) ((k + (i : Int) * 4) + 1))).set (i * 4 + 2) (((k + (i : Int) * 4) + 1) + 1))) (i := i * 4 + 3) (z := (((k + (i : Int) * 4) + 1) + 1) + 1) sz2 (T rfl rfl) (T rfl rfl) H24 (by first | omega | (simp; done) | (simp; omega)) ?_)
   intro w26 s27 H28
   have E29 := below_st E25 (Nat.le_refl _) s27
   refine lw_nil ?_
   refine rk_reg ?_
   refine lw_v (.int .i64 ((((k + (i : Int) * 4) + 1) + 1) + 1)) (dv_move (T rfl rfl)) ?_
   refine lw_v (.int .i64 (((((k + (i : Int) * 4) + 1) + 1) + 1) + 1)) (dv_add (a := (((k + (i : Int) * 4) + 1) + 1) + 1) (b := 1) (z := ((((k + (i : Int) * 4) + 1) + 1) + 1) + 1) (T rfl rfl) C (wr_i64 (by omega) (by omega))) ?_
   refine lw_v (.int .i64 (((((k + (i : Int) * 4) + 1) + 1) + 1) + 1)) (dv_assign (T rfl rfl)) ?_
   refine lw_nil ?_
   refine rk_inBlock ?_
   refine rk_reg ?_
   refine lw_v (.int .i64 ((i : Int))) (dv_move (T rfl f9)) ?_
   refine lw_v (.int .i64 (((i : Int)) + 1)) (dv_add (a := (i : Int)) (b := 1) (z := ((i : Int)) + 1) (T rfl rfl) C (wr_i64 (by omega) (by omega))) ?_
   refine lw_v (.int .i64 (((i : Int)) + 1)) (dv_assign (T rfl rfl)) ?_
   refine lw_nil ?_
   exact ih3 (l - ((i + 1))) _ _ (by rw [hd12]; omega) ⟨(i + 1), (((((((M.set (i * 4) (k + (i : Int) * 4))).set (i * 4 + 1) ((k + (i : Int) * 4) + 1))).set (i * 4 + 2) (((k + (i : Int) * 4) + 1) + 1))).set (i * 4 + 3) ((((k + (i : Int) * 4) + 1) + 1) + 1)), rfl, f6, (vi (by omega)), f8, (vi (by omega)), E29, H28, (by omega), (by simp [hMl]), ((((hSt.trans s15).trans s19).trans s23).trans s27)⟩
 · refine rk_cf (T rfl (congrArg Value.bool (decide_eq_false hb13))) ?_
   refine rk_exit rfl ?_
   refine rk_seq ?_
   refine rk_reg ?_
   refine lw_v (.int .i64 (k + (i : Int) * 4)) (dv_move (T rfl f7)) ?_
   refine lw_v (.int .i64 (k + (i : Int) * 4)) (dv_assign (T rfl rfl)) ?_
   refine lw_nil ?_
   refine rk_ret Try.func55 (v := .int .i64 (k + (i : Int) * 4)) (res1 Try.results55 (rv_tmp rfl rfl)) ⟨_, rfl, ?_⟩
   exact ⟨vi (by omega), hSt, M, hMl, H11⟩
set_option maxHeartbeats 1000000 in
theorem eqInt64S_ok {w : World} {A : Option Addr} {l c : Nat} {xs : List Int} (hx : RdI w .i64 A xs) (hxl : xs.length = l) (hxb : l ≤ 1048576) {D : Option Addr} {m d : Nat} {ys : List Int} (hy : RdI w .i64 D ys) (hyl : ys.length = m) (hyb : m ≤ 1048576) : Ct Try.prog 54 [.slice A l c, .slice D m d] w fun v w1 => v = .bool (decide ((xs : List Int) = ys)) ∧ Ext w w1 := by
 refine ct_run (n := 26) Try.func54 rfl Try.ntmps54 rfl ?_
 have E0 : Below w.heap.size w w := Below.refl _ _
 refine rk_seq ?_
 refine rk_reg ?_
 refine lw_v (.bool false) (dv_assign C) ?_
 refine lw_nil ?_
 refine rk_seq ?_
 refine rk_seq ?_
 refine rk_reg ?_
 refine lw_v (.slice A l c) (dv_move (T rfl rfl)) ?_
 refine lw_v (.int .i64 ((l : Int))) (dv_len (ad := A) (l := l) (c := c) us82 (T rfl rfl)) ?_
 refine lw_v (.slice D m d) (dv_move (T rfl rfl)) ?_
 refine lw_v (.int .i64 ((m : Int))) (dv_len (ad := D) (l := m) (c := d) us82 (T rfl rfl)) ?_
 refine lw_v (.bool (decide (((l : Int)) ≠ ((m : Int))))) (dv_neq (a := (l : Int)) (b := (m : Int)) (T rfl rfl) (T rfl rfl)) ?_
 refine lw_nil ?_
 by_cases hb1 : ((l : Int)) ≠ ((m : Int))
 · refine rk_ct (T rfl (congrArg Value.bool (decide_eq_true hb1))) ?_
   refine rk_seq ?_
   refine rk_reg ?_
   refine lw_v (.bool false) (dv_assign C) ?_
   refine lw_nil ?_
   refine rk_ret Try.func54 (v := .bool false) (res1 Try.results54 (rv_tmp rfl rfl)) ⟨_, rfl, ?_⟩
   exact ⟨(vf (by intro hh; have := congrArg List.length hh; omega)), E0⟩
 · refine rk_cf (T rfl (congrArg Value.bool (decide_eq_false hb1))) ?_
   refine rk_skip ?_
   refine rk_seq ?_
   refine rk_seq ?_
   refine rk_reg ?_
   refine lw_v (.int .i64 0) (dv_assign C) ?_
   refine lw_nil ?_
   refine rk_block ?_
   refine rk_loop (fun dm_ fr wl => ∃ (i : Nat), dm_ = l - i ∧ fr 0 = .slice A l c ∧ fr 1 = .slice D m d ∧ fr 5 = .int .i64 ((i : Int)) ∧ Below w.heap.size w wl ∧ (i ≤ l) ∧ (xs.take (i) = ys.take (i))) (l - 0) ⟨0, rfl, rfl, rfl, (vi (by omega)), E0, (Nat.zero_le _), (by simp)⟩ ?_
   intro d6 fr5 w2 hI3 ih4
   obtain ⟨i, hd11, f7, f8, f9, E10, hi, hqt⟩ := hI3
   refine rk_seq ?_
   refine rk_seq ?_
   refine rk_reg ?_
   refine lw_v (.int .i64 ((i : Int))) (dv_move (T rfl f9)) ?_
   refine lw_v (.slice A l c) (dv_move (T rfl f7)) ?_
   refine lw_v (.int .i64 ((l : Int))) (dv_len (ad := A) (l := l) (c := c) us82 (T rfl rfl)) ?_
   refine lw_v (.bool (decide (((i : Int)) < ((l : Int))))) (dv_lss (a := (i : Int)) (b := (l : Int)) (T rfl rfl) (T rfl rfl)) ?_
   refine lw_nil ?_
   by_cases hb12 : ((i : Int)) < ((l : Int))
   · refine rk_ct (T rfl (congrArg Value.bool (decide_eq_true hb12))) ?_
     refine rk_skip ?_
     refine rk_seq ?_
     refine rk_block ?_
     refine rk_seq ?_
     have h13 := (hx.ext E10)
     have h14 := (hy.ext E10)
     refine rk_any (fun w => RdI w .i64 A xs ∧ RdI w .i64 D ys) [] mo ?_
     intro w15 d16
     have E17 := below_ext E10 E10.size d16.ext
     have h18 := (h13.ext d16.ext)
     have h19 := (h14.ext d16.ext)
     refine aw_pure 0 (.slice A l c) rfl (by kernel_rfl) .none ⟨h18, h19⟩ (fun _ => dv_move (T rfl f7)) ?_
     refine aw_pure 1 (.int .i64 ((i : Int))) rfl (by kernel_rfl) .none ⟨h18, h19⟩ (fun _ => dv_move (T rfl f9)) ?_
     obtain ⟨g20, o21, rfl⟩ := RdI.at h18 (by first | omega | (simp; done) | (simp; omega))
     refine aw_pure 2 (.pointer (some ⟨g20, o21 + i, none⟩)) rfl (by kernel_rfl) .none ⟨h18, h19⟩ (fun _ => dv_indexW (g := g20) (o := o21) (l := l) (c := c) (i := i) (j := (i : Int)) us82 sz2 (T rfl rfl) (T rfl rfl) (by omega) (by first | omega | (simp; done) | (simp; omega))) ?_
     refine aw_load 3 (.int .i64 (xs.getD i 0)) rfl (by kernel_rfl) .none ⟨h18, h19⟩ (fun _ s => dv_load agt2 (T rfl rfl) (RdI.cell s.1 (by first | omega | (simp; done) | (simp; omega)))) ?_
     refine aw_pure 4 (.slice D m d) rfl (by kernel_rfl) .none ⟨h18, h19⟩ (fun _ => dv_move (T rfl f8)) ?_
     refine aw_pure 5 (.int .i64 ((i : Int))) rfl (by kernel_rfl) .none ⟨h18, h19⟩ (fun _ => dv_move (T rfl f9)) ?_
     obtain ⟨g22, o23, rfl⟩ := RdI.at h19 (by first | omega | (simp; done) | (simp; omega))
     refine aw_pure 6 (.pointer (some ⟨g22, o23 + i, none⟩)) rfl (by kernel_rfl) .none ⟨h18, h19⟩ (fun _ => dv_indexW (g := g22) (o := o23) (l := m) (c := d) (i := i) (j := (i : Int)) us82 sz2 (T rfl rfl) (T rfl rfl) (by omega) (by first | omega | (simp; done) | (simp; omega))) ?_
     refine aw_load 7 (.int .i64 (ys.getD i 0)) rfl (by kernel_rfl) .none ⟨h18, h19⟩ (fun _ s => dv_load agt2 (T rfl rfl) (RdI.cell s.2 (by first | omega | (simp; done) | (simp; omega)))) ?_
     refine aw_pure 8 (.bool (decide ((xs.getD i 0) ≠ (ys.getD i 0)))) rfl (by kernel_rfl) .none ⟨h18, h19⟩ (fun _ => dv_neq (a := xs.getD i 0) (b := ys.getD i 0) (T rfl rfl) (T rfl rfl)) ?_
     refine aw_done (by kernel_rfl) ?_
     by_cases hb24 : (xs.getD i 0) ≠ (ys.getD i 0)
     · refine rk_ct (T rfl (congrArg Value.bool (decide_eq_true hb24))) ?_
       refine rk_seq ?_
       refine rk_reg ?_
       refine lw_v (.bool false) (dv_assign C) ?_
       refine lw_nil ?_
       refine rk_ret Try.func54 (v := .bool false) (res1 Try.results54 (rv_tmp rfl rfl)) ⟨_, rfl, ?_⟩
       exact ⟨(vf (by intro hh; subst hh; exact absurd rfl (by assumption))), E17⟩
     · refine rk_cf (T rfl (congrArg Value.bool (decide_eq_false hb24))) ?_
       refine rk_skip ?_
       refine rk_inBlock ?_
       refine rk_reg ?_
       refine lw_v (.int .i64 ((i : Int))) (dv_move (T rfl f9)) ?_
       refine lw_v (.int .i64 (((i : Int)) + 1)) (dv_add (a := (i : Int)) (b := 1) (z := ((i : Int)) + 1) (T rfl rfl) C (wr_i64 (by omega) (by omega))) ?_
       refine lw_v (.int .i64 (((i : Int)) + 1)) (dv_assign (T rfl rfl)) ?_
       refine lw_nil ?_
       exact ih4 (l - ((i + 1))) _ _ (by rw [hd11]; omega) ⟨(i + 1), rfl, f7, f8, (vi (by omega)), E17, (by omega), (take_eq1 hqt (by omega) (by omega) (by first | assumption | exact Decidable.not_not.1 (by assumption)))⟩
   · refine rk_cf (T rfl (congrArg Value.bool (decide_eq_false hb12))) ?_
     refine rk_exit rfl ?_
     refine rk_seq ?_
     refine rk_reg ?_
     refine lw_v (.bool true) (dv_assign C) ?_
     refine lw_nil ?_
     refine rk_ret Try.func54 (v := .bool true) (res1 Try.results54 (rv_tmp rfl rfl)) ⟨_, rfl, ?_⟩
     exact ⟨(vt (take_all hqt (by omega) (by omega))), E10⟩
set_option maxHeartbeats 1000000 in
theorem markInt64S_ok {w : World} {A : Option Addr} {n c base : Nat} {L : List Int} {k : Int} (hO : Ow w base 2 .i64 A c L) (hl : L.length = n) (hN : n ≤ 1048576) (hk : 0 ≤ k ∧ k ≤ 1073741824) : Ct Try.prog 56 [.slice A n c, .int .i64 k] w fun v w1 => v = .int .i64 (k + (n : Int)) ∧ Below base w w1 ∧ Ow w1 base 2 .i64 A c (mkL k n) := by
 refine ct_run (n := 19) Try.func56 rfl Try.ntmps56 rfl ?_
 have E0 : Below base w w := Below.refl _ _
 have hb0 := hO.2
 refine rk_seq ?_
 refine rk_reg ?_
 refine lw_v (.int .i64 0) (dv_assign C) ?_
 refine lw_nil ?_
 refine rk_seq ?_
 refine rk_seq ?_
 refine rk_reg ?_
 refine lw_v (.int .i64 0) (dv_assign C) ?_
 refine lw_nil ?_
 refine rk_block ?_
 refine rk_loop (fun dm_ fr wl => ∃ (i : Nat) (M : List Int), dm_ = n - i ∧ fr 0 = .slice A n c ∧ fr 1 = .int .i64 (k + (i : Int)) ∧ fr 4 = .int .i64 0 ∧ fr 5 = .int .i64 ((i : Int)) ∧ Below base w wl ∧ Ow wl base 2 .i64 A c M ∧ (i ≤ n) ∧ (M.length = n) ∧ (M.take i = (mkL k n).take i)) (n - 0) ⟨0, L, rfl, rfl, (vi (by omega)), rfl, (vi (by omega)), E0, hO, (Nat.zero_le _), hl, (by simp)⟩ ?_
 intro d5 fr4 w1 hI2 ih3
 obtain ⟨i, M, hd12, f6, f7, f8, f9, E10, h11, hi, hM, hmk⟩ := hI2
 refine rk_seq ?_
 refine rk_seq ?_
 refine rk_reg ?_
 refine lw_v (.int .i64 ((i : Int))) (dv_move (T rfl f9)) ?_
 refine lw_v (.slice A n c) (dv_move (T rfl f6)) ?_
 refine lw_v (.int .i64 ((n : Int))) (dv_len (ad := A) (l := n) (c := c) us82 (T rfl rfl)) ?_
 refine lw_v (.bool (decide (((i : Int)) < ((n : Int))))) (dv_lss (a := (i : Int)) (b := (n : Int)) (T rfl rfl) (T rfl rfl)) ?_
 refine lw_nil ?_
 by_cases hb13 : ((i : Int)) < ((n : Int))
 · refine rk_ct (T rfl (congrArg Value.bool (decide_eq_true hb13))) ?_
   refine rk_skip ?_
   refine rk_seq ?_
   refine rk_block ?_
   refine rk_seq ?_
   refine rk_reg ?_
   refine lw_v (.slice A n c) (dv_move (T rfl f6)) ?_
   refine lw_v (.int .i64 ((i : Int))) (dv_move (T rfl f9)) ?_
   refine lw_v (.int .i64 (k + (i : Int))) (dv_move (T rfl f7)) ?_
   obtain ⟨g14, o15, rfl⟩ := Wd.at h11.wd (by first | omega | (simp; done) | (simp; omega))
   refine lw_v (.pointer (some ⟨g14, o15 + i, none⟩)) (dv_indexW (g := g14) (o := o15) (l := n) (c := c) (i := i) (j := (i : Int)) us82 sz2 (T rfl rfl) (T rfl rfl) (by omega) (by first | omega | (simp; done) | (simp; omega))) ?_
   refine lw_e (oe_storeOw (base := base) (L := M) (g := g14) (o := o15) (i := i) (z := k + (i : Int)) sz2 (T rfl rfl) (T rfl rfl) h11 (by first | omega | (simp; done) | (simp; omega)) ?_)
   intro w16 hO17 x18
   have E19 := below_bl E10 (Nat.le_refl _) x18
   refine lw_nil ?_
   refine rk_reg ?_
   refine lw_v (.int .i64 (k + (i : Int))) (dv_move (T rfl f7)) ?_
   refine lw_v (.int .i64 ((k + (i : Int)) + 1)) (dv_add (a := k + (i : Int)) (b := 1) (z := (k + (i : Int)) + 1) (T rfl rfl) C (wr_i64 (by omega) (by omega))) ?_
   refine lw_v (.int .i64 ((k + (i : Int)) + 1)) (dv_assign (T rfl rfl)) ?_
   refine lw_nil ?_
   refine rk_inBlock ?_
   refine rk_reg ?_
   refine lw_v (.int .i64 ((i : Int))) (dv_move (T rfl f9)) ?_
   refine lw_v (.int .i64 (((i : Int)) + 1)) (dv_add (a := (i : Int)) (b := 1) (z := ((i : Int)) + 1) (T rfl rfl) C (wr_i64 (by omega) (by omega))) ?_
   refine lw_v (.int .i64 (((i : Int)) + 1)) (dv_assign (T rfl rfl)) ?_
   refine lw_nil ?_
   exact ih3 (n - ((i + 1))) _ _ (by rw [hd12]; omega) ⟨(i + 1), (M.set i (k + (i : Int))), rfl, f6, (vi (by omega)), f8, (vi (by omega)), E19, hO17, (by omega), (by simp [hM]), (mkL_step hmk hM (by omega))⟩
 · refine rk_cf (T rfl (congrArg Value.bool (decide_eq_false hb13))) ?_
   refine rk_exit rfl ?_
   refine rk_seq ?_
   refine rk_reg ?_
   refine lw_v (.int .i64 (k + (i : Int))) (dv_move (T rfl f7)) ?_
   refine lw_v (.int .i64 (k + (i : Int))) (dv_assign (T rfl rfl)) ?_
   refine lw_nil ?_
   refine rk_ret Try.func56 (v := .int .i64 (k + (i : Int))) (res1 Try.results56 (rv_tmp rfl rfl)) ⟨_, rfl, ?_⟩
   have hz : M = mkL k n := take_all hmk (by omega) (by rw [mkL_len]; omega)
   exact ⟨vi (by omega), E10, by rw [← hz]; exact h11⟩
set_option maxHeartbeats 1000000 in
theorem heldInt64S_ok {w : World} {A : Option Addr} {n c : Nat} {xs : List Int} (hx : RdI w .i64 A xs) {k : Int} (hxl : xs.length = n) (hxb : n ≤ 1048576) (hm : xs = mkL k n) (hk : 0 ≤ k ∧ k ≤ 1073741824) : Ct Try.prog 57 [.slice A n c, .int .i64 k] w fun v w1 => v = .int .i64 (k + (n : Int)) ∧ Ext w w1 := by
 refine ct_run (n := 21) Try.func57 rfl Try.ntmps57 rfl ?_
 have E0 : Below w.heap.size w w := Below.refl _ _
 refine rk_seq ?_
 refine rk_reg ?_
 refine lw_v (.int .i64 0) (dv_assign C) ?_
 refine lw_nil ?_
 refine rk_seq ?_
 refine rk_seq ?_
 refine rk_reg ?_
 refine lw_v (.int .i64 0) (dv_assign C) ?_
 refine lw_nil ?_
 refine rk_block ?_
 refine rk_loop (fun dm_ fr wl => ∃ (i : Nat), dm_ = n - i ∧ fr 0 = .slice A n c ∧ fr 1 = .int .i64 (k + (i : Int)) ∧ fr 5 = .int .i64 ((i : Int)) ∧ Below w.heap.size w wl ∧ (i ≤ n)) (n - 0) ⟨0, rfl, rfl, (vi (by omega)), (vi (by omega)), E0, (Nat.zero_le _)⟩ ?_
 intro d5 fr4 w1 hI2 ih3
 obtain ⟨i, hd10, f6, f7, f8, E9, hi⟩ := hI2
 refine rk_seq ?_
 refine rk_seq ?_
 refine rk_reg ?_
 refine lw_v (.int .i64 ((i : Int))) (dv_move (T rfl f8)) ?_
 refine lw_v (.slice A n c) (dv_move (T rfl f6)) ?_
 refine lw_v (.int .i64 ((n : Int))) (dv_len (ad := A) (l := n) (c := c) us82 (T rfl rfl)) ?_
 refine lw_v (.bool (decide (((i : Int)) < ((n : Int))))) (dv_lss (a := (i : Int)) (b := (n : Int)) (T rfl rfl) (T rfl rfl)) ?_
 refine lw_nil ?_
 by_cases hb11 : ((i : Int)) < ((n : Int))
 · refine rk_ct (T rfl (congrArg Value.bool (decide_eq_true hb11))) ?_
   refine rk_skip ?_
   refine rk_seq ?_
   refine rk_block ?_
   refine rk_seq ?_
   refine rk_seq ?_
   refine rk_reg ?_
   refine lw_v (.slice A n c) (dv_move (T rfl f6)) ?_
   refine lw_v (.int .i64 ((i : Int))) (dv_move (T rfl f8)) ?_
   have h12 := (hx.ext E9)
   obtain ⟨g13, o14, rfl⟩ := RdI.at h12 (by first | omega | (simp; done) | (simp; omega))
   refine lw_v (.pointer (some ⟨g13, o14 + i, none⟩)) (dv_indexW (g := g13) (o := o14) (l := n) (c := c) (i := i) (j := (i : Int)) us82 sz2 (T rfl rfl) (T rfl rfl) (by omega) (by first | omega | (simp; done) | (simp; omega))) ?_
   refine lw_v (.int .i64 (xs.getD i 0)) (dv_load agt2 (T rfl rfl) (RdI.cell h12 (by first | omega | (simp; done) | (simp; omega)))) ?_
   refine lw_v (.int .i64 (k + (i : Int))) (dv_move (T rfl f7)) ?_
   refine lw_v (.bool (decide ((xs.getD i 0) ≠ (k + (i : Int))))) (dv_neq (a := xs.getD i 0) (b := k + (i : Int)) (T rfl rfl) (T rfl rfl)) ?_
   refine lw_nil ?_
   by_cases hb15 : (xs.getD i 0) ≠ (k + (i : Int))
   · refine rk_ct (T rfl (congrArg Value.bool (decide_eq_true hb15))) ?_
     refine rk_seq ?_
     refine rk_reg ?_
     refine lw_v (.int .i64 (-1)) (dv_assign C) ?_
     refine lw_nil ?_
     refine rk_ret Try.func57 (v := .int .i64 (-1)) (res1 Try.results57 (rv_tmp rfl rfl)) ⟨_, rfl, ?_⟩
     exact absurd ((congrArg (fun q : List Int => q.getD i 0) hm).trans (mkL_getD (by omega))) (by assumption)
   · refine rk_cf (T rfl (congrArg Value.bool (decide_eq_false hb15))) ?_
     refine rk_skip ?_
     refine rk_reg ?_
     refine lw_v (.int .i64 (k + (i : Int))) (dv_move (T rfl f7)) ?_
     refine lw_v (.int .i64 ((k + (i : Int)) + 1)) (dv_add (a := k + (i : Int)) (b := 1) (z := (k + (i : Int)) + 1) (T rfl rfl) C (wr_i64 (by omega) (by omega))) ?_
     refine lw_v (.int .i64 ((k + (i : Int)) + 1)) (dv_assign (T rfl rfl)) ?_
     refine lw_nil ?_
     refine rk_inBlock ?_
     refine rk_reg ?_
     refine lw_v (.int .i64 ((i : Int))) (dv_move (T rfl f8)) ?_
     refine lw_v (.int .i64 (((i : Int)) + 1)) (dv_add (a := (i : Int)) (b := 1) (z := ((i : Int)) + 1) (T rfl rfl) C (wr_i64 (by omega) (by omega))) ?_
     refine lw_v (.int .i64 (((i : Int)) + 1)) (dv_assign (T rfl rfl)) ?_
     refine lw_nil ?_
     exact ih3 (n - ((i + 1))) _ _ (by rw [hd10]; omega) ⟨(i + 1), rfl, f6, (vi (by omega)), (vi (by omega)), E9, (by omega)⟩
 · refine rk_cf (T rfl (congrArg Value.bool (decide_eq_false hb11))) ?_
   refine rk_exit rfl ?_
   refine rk_seq ?_
   refine rk_reg ?_
   refine lw_v (.int .i64 (k + (i : Int))) (dv_move (T rfl f7)) ?_
   refine lw_v (.int .i64 (k + (i : Int))) (dv_assign (T rfl rfl)) ?_
   refine lw_nil ?_
   refine rk_ret Try.func57 (v := .int .i64 (k + (i : Int))) (res1 Try.results57 (rv_tmp rfl rfl)) ⟨_, rfl, ?_⟩
   exact ⟨vi (by omega), E9⟩
set_option maxHeartbeats 1000000 in
theorem areSegs_ok {w : World} {A : Option Addr} {l c : Nat} {xs : List Int} (hx : RdI w .i64 A xs) (hxl : xs.length = l * 4) (hxb : l ≤ 1048576) : Ct Try.prog 120 [.slice A l c] w fun v w1 => v = .bool (decide (l ≤ 40 ∧ segsOk l xs)) ∧ Ext w w1 := by
 refine ct_run (n := 6) Try.func120 rfl Try.ntmps120 rfl ?_
 have E0 : Below w.heap.size w w := Below.refl _ _
 refine rk_seq ?_
 refine rk_reg ?_
 refine lw_v (.bool false) (dv_assign C) ?_
 refine lw_nil ?_
 refine rk_seq ?_
 refine rk_reg ?_
 refine lw_v (.slice A l c) (dv_move (T rfl rfl)) ?_
 refine lw_e (oe_callf (vs := [.slice A l c]) co18 (ar1 (T rfl rfl)) (iSegsFault_ok (l := l) (c := c) (xs := xs) hx (by first | omega | (simp; done) | (simp; omega)) (by first | omega | (simp; done) | (simp; omega))) ?_)
 rintro _ w1 ⟨rfl, e2⟩
 have E3 := below_ext E0 E0.size e2
 refine lw_v (.bool (decide ((sgF l xs) = 0))) (dv_eql (a := sgF l xs) (b := 0) (T rfl rfl) C) ?_
 refine lw_v (.bool (decide ((sgF l xs) = 0))) (dv_assign (T rfl rfl)) ?_
 refine lw_nil ?_
 refine rk_ret Try.func120 (v := .bool (decide ((sgF l xs) = 0))) (res1 Try.results120 (rv_tmp rfl rfl)) ⟨_, rfl, ?_⟩
 exact ⟨(vb sgF_zero), E3⟩
set_option maxHeartbeats 1000000 in
theorem l7Ok_ok {w : World} {A : Option Addr} {l c : Nat} {xs : List Int} (hx : RdI w .i64 A xs) (hxl : xs.length = l * 4) (hxb : l ≤ 1048576) : Ct Try.prog 118 [.slice A l c] w fun v w1 => v = .bool (decide (l ≤ 40 ∧ segsOk l xs)) ∧ Ext w w1 := by
 refine ct_run (n := 6) Try.func118 rfl Try.ntmps118 rfl ?_
 have E0 : Below w.heap.size w w := Below.refl _ _
 refine rk_seq ?_
 refine rk_reg ?_
 refine lw_v (.bool false) (dv_assign C) ?_
 refine lw_nil ?_
 refine rk_seq ?_
 refine rk_reg ?_
 refine lw_v (.slice A l c) (dv_move (T rfl rfl)) ?_
 refine lw_e (oe_callf (vs := [.slice A l c]) co16 (ar1 (T rfl rfl)) (sSegsFault_ok (l := l) (c := c) (xs := xs) hx (by first | omega | (simp; done) | (simp; omega)) (by first | omega | (simp; done) | (simp; omega))) ?_)
 rintro _ w1 ⟨rfl, e2⟩
 have E3 := below_ext E0 E0.size e2
 refine lw_v (.bool (decide ((sgF l xs) = 0))) (dv_eql (a := sgF l xs) (b := 0) (T rfl rfl) C) ?_
 refine lw_v (.bool (decide ((sgF l xs) = 0))) (dv_assign (T rfl rfl)) ?_
 refine lw_nil ?_
 refine rk_ret Try.func118 (v := .bool (decide ((sgF l xs) = 0))) (res1 Try.results118 (rv_tmp rfl rfl)) ⟨_, rfl, ?_⟩
 exact ⟨(vb sgF_zero), E3⟩
set_option maxHeartbeats 1000000 in
theorem hitAt_ok {w : World} {x y u : Int} {A : Option Addr} {l c : Nat} {xs : List Int} (hx : RdI w .i64 A xs) (hxl : xs.length = l * 4) (hxb : l ≤ 1048576) (fx_ : fits x) (fy_ : fits y) (fu_ : fits u) (hsg : segsOk l xs) : Ct Try.prog 121 [.slice A l c, .agg #[.int .u64 (wv3 x), .int .u64 (wv2 x), .int .u64 (wv1 x), .int .u64 (wv0 x), .int .u64 (wv3 y), .int .u64 (wv2 y), .int .u64 (wv1 y), .int .u64 (wv0 y), .int .u64 (wv3 u), .int .u64 (wv2 u), .int .u64 (wv1 u), .int .u64 (wv0 u)]] w fun v w1 => ∃ Ad cp, v = .slice Ad (hitL l xs x y u).length cp ∧ Ext w w1 ∧ Ow w1 w.heap.size 2 .i64 Ad cp (hitL l xs x y u) := by
 refine ct_run (n := 25) Try.func121 rfl Try.ntmps121 rfl ?_
 have E0 : Below w.heap.size w w := Below.refl _ _
 refine rk_seq ?_
 refine rk_reg ?_
 refine lw_e (oe_box (v := .agg #[.int .u64 (wv3 x), .int .u64 (wv2 x), .int .u64 (wv1 x), .int .u64 (wv0 x), .int .u64 (wv3 y), .int .u64 (wv2 y), .int .u64 (wv1 y), .int .u64 (wv0 y), .int .u64 (wv3 u), .int .u64 (wv2 u), .int .u64 (wv1 u), .int .u64 (wv0 u)]) (cs := #[.int .u64 (wv3 x), .int .u64 (wv2 x), .int .u64 (wv1 x), .int .u64 (wv0 x), .int .u64 (wv3 y), .int .u64 (wv2 y), .int .u64 (wv1 y), .int .u64 (wv0 y), .int .u64 (wv3 u), .int .u64 (wv2 u), .int .u64 (wv1 u), .int .u64 (wv0 u)]) (T rfl rfl) rfl ?_)
 intro b1 w2 n3
 have N4 : w.heap.size ≤ b1 := n3.eq ▸ E0.size
 have E5 := below_ext E0 E0.size n3.ext
 refine lw_v (.slice none 0 0) (dv_assign C) ?_
 refine lw_nil ?_
 refine rk_seq ?_
 refine rk_reg ?_
 refine lw_e (oe_buildSlice0 us82 sz2 ?_)
 intro b6 w7 n8
 have N9 : w.heap.size ≤ b6 := n8.eq ▸ E5.size
 have : b1 < b6 := n8.eq ▸ lt_of_blk n3.blk
 have E10 := below_ext E5 E5.size n8.ext
 have hO11 := Ow.made (T := 2) (k := .i64) (z := .int .i64 0) (c := 0) n8 (by decide)
 refine lw_v (.slice (some ⟨b6, 0, none⟩) (([] : List Int).length) 0) (dv_assign (T rfl rfl)) ?_
 refine lw_nil ?_
 refine rk_seq ?_
 refine rk_seq ?_
 refine rk_reg ?_
 refine lw_v (.slice A l c) (dv_move (T rfl rfl)) ?_
 refine lw_v (.int .i64 ((l : Int))) (dv_len (ad := A) (l := l) (c := c) us25 (T rfl rfl)) ?_
 refine lw_v (.int .i64 0) (dv_move C) ?_
 refine lw_nil ?_
 refine rk_block ?_
 have H12 := (n8.ext.blk n3.blk)
 refine rk_loop (fun dm_ fr wl => ∃ (i : Nat) (L : List Int) (Ad : Option Addr) (cp : Nat), dm_ = l - i ∧ fr 3 = .pointer (some ⟨b1, 0, none⟩) ∧ fr 4 = .slice none 0 0 ∧ fr 5 = .slice Ad (L.length) cp ∧ fr 9 = .slice A l c ∧ fr 10 = .int .i64 ((l : Int)) ∧ fr 11 = .int .i64 ((i : Int)) ∧ Below w.heap.size w wl ∧ wl.heap[b1]? = some (.cells #[.int .u64 (wv3 x), .int .u64 (wv2 x), .int .u64 (wv1 x), .int .u64 (wv0 x), .int .u64 (wv3 y), .int .u64 (wv2 y), .int .u64 (wv1 y), .int .u64 (wv0 y), .int .u64 (wv3 u), .int .u64 (wv2 u), .int .u64 (wv1 u), .int .u64 (wv0 u)] 37) ∧ Ow wl b6 2 .i64 Ad cp L ∧ (i ≤ l) ∧ (L = hitL i xs x y u)) (l - 0) ⟨0, ([] : List Int), (some ⟨b6, 0, none⟩), 0, rfl, rfl, rfl, rfl, rfl, rfl, (vi (by omega)), E10, H12, hO11, (Nat.zero_le _), rfl⟩ ?_
 intro d17 fr16 w13 hI14 ih15
 obtain ⟨i, L, Ad, cp, hd27, f18, f19, f20, f21, f22, f23, E24, H25, h26, hi, hL⟩ := hI14
 have hLl : L.length ≤ i := by rw [hL]; exact hitL_len ..
 refine rk_seq ?_
 refine rk_reg ?_
 refine lw_v (.bool (decide (((i : Int)) < ((l : Int))))) (dv_lss (a := (i : Int)) (b := (l : Int)) (T rfl f23) (T rfl f22)) ?_
 refine lw_nil ?_
 refine rk_seq ?_
 by_cases hb28 : ((i : Int)) < ((l : Int))
 · refine rk_ct (T rfl (congrArg Value.bool (decide_eq_true hb28))) ?_
   refine rk_skip ?_
   refine rk_seq ?_
   refine rk_block ?_
   refine rk_seq ?_
   refine rk_reg ?_
   refine lw_v (.int .i64 ((i : Int))) (dv_move (T rfl f23)) ?_
   have h29 := (hx.ext E24)
   obtain ⟨g30, o31, rfl⟩ := RdI.at h29 (by first | omega | (simp; done) | (simp; omega))
   refine lw_v (.pointer (some ⟨g30, o31 + i * 4, none⟩)) (dv_indexM (g := g30) (o := o31) (l := l) (c := c) (i := i) (j := (i : Int)) (m := 4) us25 sz47 (T rfl f21) (T rfl f23) (by omega) (by first | omega | (simp; done) | (simp; omega))) ?_
   refine lw_v (.agg #[.int .i64 (xs.getD (i * 4) 0), .int .i64 (xs.getD (i * 4 + 1) 0), .int .i64 (xs.getD (i * 4 + 2) 0), .int .i64 (xs.getD (i * 4 + 3) 0)]) (dv_loadsI (i := i * 4) (m := 4) (k := .i64) (L := xs) (l := [.int .i64 (xs.getD (i * 4) 0), .int .i64 (xs.getD (i * 4 + 1) 0), .int .i64 (xs.getD (i * 4 + 2) 0), .int .i64 (xs.getD (i * 4 + 3) 0)]) agt47 sz47 (T rfl rfl) h29 (by first | omega | (simp; done) | (simp; omega)) rfl) ?_
   refine lw_e (oe_alloc ze47 ?_)
   intro b32 w33 n34
   have N35 : w.heap.size ≤ b32 := n34.eq ▸ E24.size
   have : b1 < b32 := n34.eq ▸ lt_of_blk H25
   have E36 := below_ext E24 E24.size n34.ext
   refine lw_v (.int .i64 ((i : Int))) (dv_assign (T rfl rfl)) ?_
   refine lw_e (oe_store (v := .agg #[.int .i64 (xs.getD (i * 4) 0), .int .i64 (xs.getD (i * 4 + 1) 0), .int .i64 (xs.getD (i * 4 + 2) 0), .int .i64 (xs.getD (i * 4 + 3) 0)]) (vs := [.int .i64 (xs.getD (i * 4) 0), .int .i64 (xs.getD (i * 4 + 1) 0), .int .i64 (xs.getD (i * 4 + 2) 0), .int .i64 (xs.getD (i * 4 + 3) 0)]) (l := [.int .i64 (xs.getD (i * 4) 0), .int .i64 (xs.getD (i * 4 + 1) 0), .int .i64 (xs.getD (i * 4 + 2) 0), .int .i64 (xs.getD (i * 4 + 3) 0)]) (T rfl rfl) (T rfl rfl) sz47 rfl rfl rfl n34.blk rfl ?_)
   intro w37 s38 H39
   have E40 := below_st E36 N35 s38
   refine lw_nil ?_
   refine rk_seq ?_
   have hrg := segOk_rg (hsg i (by omega))
   refine rk_reg ?_
   refine lw_v (.agg #[.int .i64 (xs.getD (i * 4) 0), .int .i64 (xs.getD (i * 4 + 1) 0), .int .i64 (xs.getD (i * 4 + 2) 0), .int .i64 (xs.getD (i * 4 + 3) 0)]) (dv_loads (l := [.int .i64 (xs.getD (i * 4) 0), .int .i64 (xs.getD (i * 4 + 1) 0), .int .i64 (xs.getD (i * 4 + 2) 0), .int .i64 (xs.getD (i * 4 + 3) 0)]) agt47 sz47 (T rfl rfl) H39 rfl) ?_
   have H41 := (s38.blk (n34.ext.blk H25) (by omega))
   refine lw_v (.agg #[.int .u64 (wv3 x), .int .u64 (wv2 x), .int .u64 (wv1 x), .int .u64 (wv0 x), .int .u64 (wv3 y), .int .u64 (wv2 y), .int .u64 (wv1 y), .int .u64 (wv0 y), .int .u64 (wv3 u), .int .u64 (wv2 u), .int .u64 (wv1 u), .int .u64 (wv0 u)]) (dv_loads (l := [.int .u64 (wv3 x), .int .u64 (wv2 x), .int .u64 (wv1 x), .int .u64 (wv0 x), .int .u64 (wv3 y), .int .u64 (wv2 y), .int .u64 (wv1 y), .int .u64 (wv0 y), .int .u64 (wv3 u), .int .u64 (wv2 u), .int .u64 (wv1 u), .int .u64 (wv0 u)]) agt37 sz37 (T rfl f18) H41 rfl) ?_
   refine lw_e (oe_callf (vs := [.agg #[.int .i64 (xs.getD (i * 4) 0), .int .i64 (xs.getD (i * 4 + 1) 0), .int .i64 (xs.getD (i * 4 + 2) 0), .int .i64 (xs.getD (i * 4 + 3) 0)], .agg #[.int .u64 (wv3 x), .int .u64 (wv2 x), .int .u64 (wv1 x), .int .u64 (wv0 x), .int .u64 (wv3 y), .int .u64 (wv2 y), .int .u64 (wv1 y), .int .u64 (wv0 y), .int .u64 (wv3 u), .int .u64 (wv2 u), .int .u64 (wv1 u), .int .u64 (wv0 u)]]) co95 (ar2 (T rfl rfl) (T rfl rfl)) (onSeg_ok (ax := xs.getD (i * 4) 0) (ay := xs.getD (i * 4 + 1) 0) (bx := xs.getD (i * 4 + 2) 0) (b_y := xs.getD (i * 4 + 3) 0) (x := x) (y := y) (u := u) fx_ fy_ fu_ (by omega)) ?_)
   rintro _ w42 ⟨rfl, e43⟩
   have E44 := below_ext E40 E40.size e43
   refine lw_nil ?_
   by_cases hb45 : onV (xs.getD (i * 4) 0) (xs.getD (i * 4 + 1) 0) (xs.getD (i * 4 + 2) 0) (xs.getD (i * 4 + 3) 0) x y u
   · refine rk_ct (T rfl (congrArg Value.bool (decide_eq_true hb45))) ?_
     refine rk_reg ?_
     refine lw_v (.slice Ad (L.length) cp) (dv_move (T rfl f20)) ?_
     refine lw_v (.int .i64 ((i : Int))) (dv_move (T rfl rfl)) ?_
     refine lw_e (oe_buildSlice (pv := [(0, .int .i64 ((i : Int)))]) (init := [.int .i64 0]) (l := [.int .i64 ((i : Int))]) us82 sz2 rfl rfl zc2 (by kernel_rfl) ⟨rfl, (T rfl rfl), trivial⟩ rfl ?_)
     intro b46 w47 n48
     have N49 : w.heap.size ≤ b46 := n48.eq ▸ E44.size
     have H50 := (e43.blk H39)
     have : b32 < b46 := n48.eq ▸ lt_of_blk H50
     have E51 := below_ext E44 E44.size n48.ext
     have h52 := ((((h26.ext n34.ext).st s38 n34.blk (by decide)).ext e43).ext n48.ext)
     refine lw_e (oe_appendT (base := b6) (L := L) (M := [(i : Int)]) (m := 1) us82 in2 (T rfl rfl) (T rfl rfl) h52 (Wd.ownW (xs := [(i : Int)]) n48.blk) rfl (by first | omega | (simp; done) | (simp; omega)) (by first | omega | (simp; done) | (simp; omega)) ?_)
     intro Ad54 c55 w56 hO57 x58 bt53
     have E59 := below_bl E51 N9 x58
     refine lw_v (.slice Ad54 ((L ++ [(i : Int)]).length) c55) (dv_assign (T rfl rfl)) ?_
     refine lw_nil ?_
     refine rk_inBlock ?_
     refine rk_reg ?_
     refine lw_v (.int .i64 (((i : Int)) + 1)) (dv_add (a := (i : Int)) (b := 1) (z := ((i : Int)) + 1) (T rfl f23) C (wr_i64 (by omega) (by omega))) ?_
     refine lw_v (.int .i64 (((i : Int)) + 1)) (dv_move (T rfl rfl)) ?_
     refine lw_nil ?_
     have H60 := (bl_blk x58 (n48.ext.blk (e43.blk H41)) (by omega))
     exact ih15 (l - ((i + 1))) _ _ (by rw [hd27]; omega) ⟨(i + 1), (L ++ [(i : Int)]), Ad54, c55, rfl, f18, f19, rfl, f21, f22, (vi (by omega)), E59, H60, hO57, (by omega), (by rw [hL]; exact hitL_t (by assumption))⟩
   · refine rk_cf (T rfl (congrArg Value.bool (decide_eq_false hb45))) ?_
     refine rk_skip ?_
     refine rk_inBlock ?_
     refine rk_reg ?_
     refine lw_v (.int .i64 (((i : Int)) + 1)) (dv_add (a := (i : Int)) (b := 1) (z := ((i : Int)) + 1) (T rfl f23) C (wr_i64 (by omega) (by omega))) ?_
     refine lw_v (.int .i64 (((i : Int)) + 1)) (dv_move (T rfl rfl)) ?_
     refine lw_nil ?_
     have h61 := (((h26.ext n34.ext).st s38 n34.blk (by decide)).ext e43)
     have H62 := (e43.blk H41)
     exact ih15 (l - ((i + 1))) _ _ (by rw [hd27]; omega) ⟨(i + 1), L, Ad, cp, rfl, f18, f19, f20, f21, f22, (vi (by omega)), E44, H62, h61, (by omega), (by rw [hL]; exact hitL_f (by assumption))⟩
 · refine rk_cf (T rfl (congrArg Value.bool (decide_eq_false hb28))) ?_
   refine rk_exit rfl ?_
   refine rk_seq ?_
   refine rk_reg ?_
   refine lw_v (.slice Ad (L.length) cp) (dv_move (T rfl f20)) ?_
   refine lw_v (.slice Ad (L.length) cp) (dv_assign (T rfl rfl)) ?_
   refine lw_nil ?_
   refine rk_ret Try.func121 (v := .slice Ad (L.length) cp) (res1 Try.results121 (rv_tmp rfl rfl)) ⟨_, rfl, ?_⟩
   have hil : i = l := by omega
   subst hil
   subst hL
   exact ⟨_, _, rfl, E24, h26.mono N9⟩
set_option maxHeartbeats 1000000 in
theorem l8On_ok {w : World} {A : Option Addr} {l c : Nat} {xs : List Int} (hx : RdI w .i64 A xs) (hxl : xs.length = l * 4) (hxb : l ≤ 1048576) {na : Bool} {Aa : Option Addr} {la ca : Nat} {x : Int} {sx : Nat} (ha : Num 32 183 .u32 w na Aa la ca x sx) {nb : Bool} {Ab : Option Addr} {lb cb : Nat} {y : Int} {sy : Nat} (hb : Num 32 183 .u32 w nb Ab lb cb y sy) {nm : Bool} {Am : Option Addr} {lm cm : Nat} {u : Int} {su : Nat} (hm : Num 32 183 .u32 w nm Am lm cm u su) (hb1 : sx ≤ 10000) (hb2 : sy ≤ 10000) (hb3 : su ≤ 10000) (hsg : segsOk l xs) : Ct Try.prog 119 [.slice A l c, .agg #[.bool na, .slice Aa la ca, .bool nb, .slice Ab lb cb, .bool nm, .slice Am lm cm]] w fun v w1 => ∃ Ad cp, v = .slice Ad (hitL l xs x y u).length cp ∧ Ext w w1 ∧ Ow w1 w.heap.size 2 .i64 Ad cp (hitL l xs x y u) := by
 refine ct_run (n := 25) Try.func119 rfl Try.ntmps119 rfl ?_
 have E0 : Below w.heap.size w w := Below.refl _ _
 refine rk_seq ?_
 refine rk_reg ?_
 refine lw_e (oe_box (v := .agg #[.bool na, .slice Aa la ca, .bool nb, .slice Ab lb cb, .bool nm, .slice Am lm cm]) (cs := #[.bool na, .slice Aa la ca, .bool nb, .slice Ab lb cb, .bool nm, .slice Am lm cm]) (T rfl rfl) rfl ?_)
 intro b1 w2 n3
 have N4 : w.heap.size ≤ b1 := n3.eq ▸ E0.size
 have E5 := below_ext E0 E0.size n3.ext
 refine lw_v (.slice none 0 0) (dv_assign C) ?_
 refine lw_nil ?_
 refine rk_seq ?_
 refine rk_reg ?_
 refine lw_e (oe_buildSlice0 us82 sz2 ?_)
 intro b6 w7 n8
 have N9 : w.heap.size ≤ b6 := n8.eq ▸ E5.size
 have : b1 < b6 := n8.eq ▸ lt_of_blk n3.blk
 have E10 := below_ext E5 E5.size n8.ext
 have hO11 := Ow.made (T := 2) (k := .i64) (z := .int .i64 0) (c := 0) n8 (by decide)
 refine lw_v (.slice (some ⟨b6, 0, none⟩) (([] : List Int).length) 0) (dv_assign (T rfl rfl)) ?_
 refine lw_nil ?_
 refine rk_seq ?_
 refine rk_seq ?_
 refine rk_reg ?_
 refine lw_v (.int .i64 0) (dv_assign C) ?_
 refine lw_nil ?_
 refine rk_block ?_
 have H12 := (n8.ext.blk n3.blk)
 refine rk_loop (fun dm_ fr wl => ∃ (i : Nat) (L : List Int) (Ad : Option Addr) (cp : Nat), dm_ = l - i ∧ fr 0 = .slice A l c ∧ fr 3 = .pointer (some ⟨b1, 0, none⟩) ∧ fr 4 = .slice none 0 0 ∧ fr 5 = .slice Ad (L.length) cp ∧ fr 6 = .int .i64 ((i : Int)) ∧ Below w.heap.size w wl ∧ wl.heap[b1]? = some (.cells #[.bool na, .slice Aa la ca, .bool nb, .slice Ab lb cb, .bool nm, .slice Am lm cm] 102) ∧ Ow wl b6 2 .i64 Ad cp L ∧ (i ≤ l) ∧ (L = hitL i xs x y u)) (l - 0) ⟨0, ([] : List Int), (some ⟨b6, 0, none⟩), 0, rfl, rfl, rfl, rfl, rfl, (vi (by omega)), E10, H12, hO11, (Nat.zero_le _), rfl⟩ ?_
 intro d17 fr16 w13 hI14 ih15
 obtain ⟨i, L, Ad, cp, hd26, f18, f19, f20, f21, f22, E23, H24, h25, hi, hL⟩ := hI14
 have hLl : L.length ≤ i := by rw [hL]; exact hitL_len ..
 refine rk_seq ?_
 refine rk_seq ?_
 refine rk_reg ?_
 refine lw_v (.int .i64 ((i : Int))) (dv_move (T rfl f22)) ?_
 refine lw_v (.slice A l c) (dv_move (T rfl f18)) ?_
 refine lw_v (.int .i64 ((l : Int))) (dv_len (ad := A) (l := l) (c := c) us25 (T rfl rfl)) ?_
 refine lw_v (.bool (decide (((i : Int)) < ((l : Int))))) (dv_lss (a := (i : Int)) (b := (l : Int)) (T rfl rfl) (T rfl rfl)) ?_
 refine lw_nil ?_
 by_cases hb27 : ((i : Int)) < ((l : Int))
 · refine rk_ct (T rfl (congrArg Value.bool (decide_eq_true hb27))) ?_
   refine rk_skip ?_
   refine rk_seq ?_
   refine rk_block ?_
   refine rk_seq ?_
   have hrg := segOk_rg (hsg i (by omega))
   have hlt := (hsg i (by omega)).2.2
   have h28 := (hx.ext E23)
   refine rk_any (fun w => RdI w .i64 A xs ∧ w.heap[b1]? = some (.cells #[.bool na, .slice Aa la ca, .bool nb, .slice Ab lb cb, .bool nm, .slice Am lm cm] 102)) [] mo ?_
   intro w29 d30
   have E31 := below_ext E23 E23.size d30.ext
   have h32 := (h28.ext d30.ext)
   have H33 := (d30.ext.blk H24)
   refine aw_pure 0 (.slice A l c) rfl (by kernel_rfl) .none ⟨h32, H33⟩ (fun _ => dv_move (T rfl f18)) ?_
   refine aw_pure 1 (.int .i64 ((i : Int))) rfl (by kernel_rfl) .none ⟨h32, H33⟩ (fun _ => dv_move (T rfl f22)) ?_
   obtain ⟨g34, o35, rfl⟩ := RdI.at h32 (by first | omega | (simp; done) | (simp; omega))
   refine aw_pure 2 (.pointer (some ⟨g34, o35 + i * 4, none⟩)) rfl (by kernel_rfl) .none ⟨h32, H33⟩ (fun _ => dv_indexM (g := g34) (o := o35) (l := l) (c := c) (i := i) (j := (i : Int)) (m := 4) us25 sz47 (T rfl rfl) (T rfl rfl) (by omega) (by first | omega | (simp; done) | (simp; omega))) ?_
   refine aw_load 3 (.agg #[.int .i64 (xs.getD (i * 4) 0), .int .i64 (xs.getD (i * 4 + 1) 0), .int .i64 (xs.getD (i * 4 + 2) 0), .int .i64 (xs.getD (i * 4 + 3) 0)]) rfl (by kernel_rfl) .none ⟨h32, H33⟩ (fun _ s => dv_loadsI (i := i * 4) (m := 4) (k := .i64) (L := xs) (l := [.int .i64 (xs.getD (i * 4) 0), .int .i64 (xs.getD (i * 4 + 1) 0), .int .i64 (xs.getD (i * 4 + 2) 0), .int .i64 (xs.getD (i * 4 + 3) 0)]) agt47 sz47 (T rfl rfl) s.1 (by first | omega | (simp; done) | (simp; omega)) rfl) ?_
   refine aw_load 4 (.agg #[.bool na, .slice Aa la ca, .bool nb, .slice Ab lb cb, .bool nm, .slice Am lm cm]) rfl (by kernel_rfl) .none ⟨h32, H33⟩ (fun _ s => dv_loads (l := [.bool na, .slice Aa la ca, .bool nb, .slice Ab lb cb, .bool nm, .slice Am lm cm]) agt102 sz102 (T rfl f19) s.2 rfl) ?_
   have h36 := ((ha.ext E23).ext d30.ext)
   have h37 := ((hb.ext E23).ext d30.ext)
   have h38 := ((hm.ext E23).ext d30.ext)
   refine aw_one 5 rfl (by kernel_rfl) .none (oe_callf (vs := [.agg #[.int .i64 (xs.getD (i * 4) 0), .int .i64 (xs.getD (i * 4 + 1) 0), .int .i64 (xs.getD (i * 4 + 2) 0), .int .i64 (xs.getD (i * 4 + 3) 0)], .agg #[.bool na, .slice Aa la ca, .bool nb, .slice Ab lb cb, .bool nm, .slice Am lm cm]]) co94 (ar2 (T rfl rfl) (T rfl rfl)) (l4On_ok h36 h37 h38 (by first | decide | omega) (by first | decide | omega) (by first | decide | omega) (by omega) (by assumption)) ?_)
   rintro _ w39 ⟨rfl, e40⟩
   have E41 := below_ext E31 E31.size e40
   have h42 := (h32.ext e40)
   have H43 := (e40.blk H33)
   refine ⟨.inr ⟨h42, H43⟩, ?_⟩
   refine aw_done (by kernel_rfl) ?_
   by_cases hb44 : onV (xs.getD (i * 4) 0) (xs.getD (i * 4 + 1) 0) (xs.getD (i * 4 + 2) 0) (xs.getD (i * 4 + 3) 0) x y u
   · refine rk_ct (T rfl (congrArg Value.bool (decide_eq_true hb44))) ?_
     refine rk_reg ?_
     refine lw_v (.slice Ad (L.length) cp) (dv_move (T rfl f21)) ?_
     refine lw_v (.int .i64 ((i : Int))) (dv_move (T rfl f22)) ?_
     refine lw_e (oe_buildSlice (pv := [(0, .int .i64 ((i : Int)))]) (init := [.int .i64 0]) (l := [.int .i64 ((i : Int))]) us82 sz2 rfl rfl zc2 (by kernel_rfl) ⟨rfl, (T rfl rfl), trivial⟩ rfl ?_)
     intro b45 w46 n47
     have N48 : w.heap.size ≤ b45 := n47.eq ▸ E41.size
     have : b1 < b45 := n47.eq ▸ lt_of_blk H43
     have E49 := below_ext E41 E41.size n47.ext
     have h50 := (((h25.ext d30.ext).ext e40).ext n47.ext)
     refine lw_e (oe_appendT (base := b6) (L := L) (M := [(i : Int)]) (m := 1) us82 in2 (T rfl rfl) (T rfl rfl) h50 (Wd.ownW (xs := [(i : Int)]) n47.blk) rfl (by first | omega | (simp; done) | (simp; omega)) (by first | omega | (simp; done) | (simp; omega)) ?_)
     intro Ad52 c53 w54 hO55 x56 bt51
     have E57 := below_bl E49 N9 x56
     refine lw_v (.slice Ad52 ((L ++ [(i : Int)]).length) c53) (dv_assign (T rfl rfl)) ?_
     refine lw_nil ?_
     refine rk_inBlock ?_
     refine rk_reg ?_
     refine lw_v (.int .i64 ((i : Int))) (dv_move (T rfl f22)) ?_
     refine lw_v (.int .i64 (((i : Int)) + 1)) (dv_add (a := (i : Int)) (b := 1) (z := ((i : Int)) + 1) (T rfl rfl) C (wr_i64 (by omega) (by omega))) ?_
     refine lw_v (.int .i64 (((i : Int)) + 1)) (dv_assign (T rfl rfl)) ?_
     refine lw_nil ?_
     have H58 := (bl_blk x56 (n47.ext.blk H43) (by omega))
     exact ih15 (l - ((i + 1))) _ _ (by rw [hd26]; omega) ⟨(i + 1), (L ++ [(i : Int)]), Ad52, c53, rfl, f18, f19, f20, rfl, (vi (by omega)), E57, H58, hO55, (by omega), (by rw [hL]; exact hitL_t (by assumption))⟩
   · refine rk_cf (T rfl (congrArg Value.bool (decide_eq_false hb44))) ?_
     refine rk_skip ?_
     refine rk_inBlock ?_
     refine rk_reg ?_
     refine lw_v (.int .i64 ((i : Int))) (dv_move (T rfl f22)) ?_
     refine lw_v (.int .i64 (((i : Int)) + 1)) (dv_add (a := (i : Int)) (b := 1) (z := ((i : Int)) + 1) (T rfl rfl) C (wr_i64 (by omega) (by omega))) ?_
     refine lw_v (.int .i64 (((i : Int)) + 1)) (dv_assign (T rfl rfl)) ?_
     refine lw_nil ?_
     have h59 := ((h25.ext d30.ext).ext e40)
     exact ih15 (l - ((i + 1))) _ _ (by rw [hd26]; omega) ⟨(i + 1), L, Ad, cp, rfl, f18, f19, f20, f21, (vi (by omega)), E41, H43, h59, (by omega), (by rw [hL]; exact hitL_f (by assumption))⟩
 · refine rk_cf (T rfl (congrArg Value.bool (decide_eq_false hb27))) ?_
   refine rk_exit rfl ?_
   refine rk_seq ?_
   refine rk_reg ?_
   refine lw_v (.slice Ad (L.length) cp) (dv_move (T rfl f21)) ?_
   refine lw_v (.slice Ad (L.length) cp) (dv_assign (T rfl rfl)) ?_
   refine lw_nil ?_
   refine rk_ret Try.func119 (v := .slice Ad (L.length) cp) (res1 Try.results119 (rv_tmp rfl rfl)) ⟨_, rfl, ?_⟩
   have hil : i = l := by omega
   subst hil
   subst hL
   exact ⟨_, _, rfl, E23, h25.mono N9⟩
set_option maxHeartbeats 1000000 in
theorem sHitAt_ok {w : World} {x y u : Int} {A : Option Addr} {l c : Nat} {xs : List Int} (hx : RdI w .i64 A xs) (hxl : xs.length = l * 4) (hxb : l ≤ 1048576) (fx_ : fits x) (fy_ : fits y) (fu_ : fits u) : Ct Try.prog 52 [.slice A l c, .agg #[.int .u64 (wv3 x), .int .u64 (wv2 x), .int .u64 (wv1 x), .int .u64 (wv0 x), .int .u64 (wv3 y), .int .u64 (wv2 y), .int .u64 (wv1 y), .int .u64 (wv0 y), .int .u64 (wv3 u), .int .u64 (wv2 u), .int .u64 (wv1 u), .int .u64 (wv0 u)]] w fun v w1 => ∃ Ad cp, v = .slice Ad (hitR l xs x y u).length cp ∧ Ext w w1 ∧ Ow w1 w.heap.size 2 .i64 Ad cp (hitR l xs x y u) := by
 refine ct_run (n := 17) Try.func52 rfl Try.ntmps52 rfl ?_
 have E0 : Below w.heap.size w w := Below.refl _ _
 refine rk_seq ?_
 refine rk_reg ?_
 refine lw_e (oe_box (v := .agg #[.int .u64 (wv3 x), .int .u64 (wv2 x), .int .u64 (wv1 x), .int .u64 (wv0 x), .int .u64 (wv3 y), .int .u64 (wv2 y), .int .u64 (wv1 y), .int .u64 (wv0 y), .int .u64 (wv3 u), .int .u64 (wv2 u), .int .u64 (wv1 u), .int .u64 (wv0 u)]) (cs := #[.int .u64 (wv3 x), .int .u64 (wv2 x), .int .u64 (wv1 x), .int .u64 (wv0 x), .int .u64 (wv3 y), .int .u64 (wv2 y), .int .u64 (wv1 y), .int .u64 (wv0 y), .int .u64 (wv3 u), .int .u64 (wv2 u), .int .u64 (wv1 u), .int .u64 (wv0 u)]) (T rfl rfl) rfl ?_)
 intro b1 w2 n3
 have N4 : w.heap.size ≤ b1 := n3.eq ▸ E0.size
 have E5 := below_ext E0 E0.size n3.ext
 refine lw_v (.slice none 0 0) (dv_assign C) ?_
 refine lw_nil ?_
 refine rk_seq ?_
 refine rk_seq ?_
 refine rk_reg ?_
 refine lw_v (.slice A l c) (dv_move (T rfl rfl)) ?_
 have h6 := (hx.ext n3.ext)
 refine lw_e (oe_callf (vs := [.slice A l c]) co118 (ar1 (T rfl rfl)) (l7Ok_ok (l := l) (c := c) (xs := xs) h6 (by first | omega | (simp; done) | (simp; omega)) (by first | omega | (simp; done) | (simp; omega))) ?_)
 rintro _ w7 ⟨rfl, e8⟩
 have E9 := below_ext E5 E5.size e8
 refine lw_v (.bool (decide (¬ (l ≤ 40 ∧ segsOk l xs)))) (dv_notd (p := l ≤ 40 ∧ segsOk l xs) (T rfl rfl)) ?_
 refine lw_v (.bool (decide (¬ (l ≤ 40 ∧ segsOk l xs)))) (dv_move (T rfl rfl)) ?_
 by_cases hb10 : l ≤ 40 ∧ segsOk l xs
 · have H11 := (e8.blk n3.blk)
   refine lw_vy (.agg #[.int .u64 (wv3 x), .int .u64 (wv2 x), .int .u64 (wv1 x), .int .u64 (wv0 x), .int .u64 (wv3 y), .int .u64 (wv2 y), .int .u64 (wv1 y), .int .u64 (wv0 y), .int .u64 (wv3 u), .int .u64 (wv2 u), .int .u64 (wv1 u), .int .u64 (wv0 u)]) (d := 8) rfl rfl (congrArg Value.bool (decide_eq_false (not_not_intro hb10))) (dv_loads (l := [.int .u64 (wv3 x), .int .u64 (wv2 x), .int .u64 (wv1 x), .int .u64 (wv0 x), .int .u64 (wv3 y), .int .u64 (wv2 y), .int .u64 (wv1 y), .int .u64 (wv0 y), .int .u64 (wv3 u), .int .u64 (wv2 u), .int .u64 (wv1 u), .int .u64 (wv0 u)]) agt37 sz37 (T rfl rfl) H11 rfl) ?_
   refine lw_ey (d := 8) rfl rfl (congrArg Value.bool (decide_eq_false (not_not_intro hb10))) (oe_callf (vs := [.agg #[.int .u64 (wv3 x), .int .u64 (wv2 x), .int .u64 (wv1 x), .int .u64 (wv0 x), .int .u64 (wv3 y), .int .u64 (wv2 y), .int .u64 (wv1 y), .int .u64 (wv0 y), .int .u64 (wv3 u), .int .u64 (wv2 u), .int .u64 (wv1 u), .int .u64 (wv0 u)]]) co67 (ar1 (T rfl rfl)) (sPointOk_ok (x := x) (y := y) (u := u) fx_ fy_ fu_ ) ?_)
   rintro _ w12 ⟨rfl, e13⟩
   have E14 := below_ext E9 E9.size e13
   refine lw_vy (.bool (decide (¬ (pOk x y u)))) (d := 8) rfl rfl (congrArg Value.bool (decide_eq_false (not_not_intro hb10))) (dv_notd (p := pOk x y u) (T rfl rfl)) ?_
   refine lw_v (.bool (decide (¬ (pOk x y u)))) (dv_pick_f (T rfl (congrArg Value.bool (decide_eq_false (not_not_intro hb10)))) (T rfl rfl)) ?_
   refine lw_nil ?_
   by_cases hb15 : pOk x y u
   · refine rk_cf (T rfl (congrArg Value.bool (decide_eq_false (not_not_intro hb15)))) ?_
     refine rk_skip ?_
     refine rk_seq ?_
     refine rk_reg ?_
     refine lw_v (.slice A l c) (dv_move (T rfl rfl)) ?_
     have H16 := (e13.blk H11)
     refine lw_v (.agg #[.int .u64 (wv3 x), .int .u64 (wv2 x), .int .u64 (wv1 x), .int .u64 (wv0 x), .int .u64 (wv3 y), .int .u64 (wv2 y), .int .u64 (wv1 y), .int .u64 (wv0 y), .int .u64 (wv3 u), .int .u64 (wv2 u), .int .u64 (wv1 u), .int .u64 (wv0 u)]) (dv_loads (l := [.int .u64 (wv3 x), .int .u64 (wv2 x), .int .u64 (wv1 x), .int .u64 (wv0 x), .int .u64 (wv3 y), .int .u64 (wv2 y), .int .u64 (wv1 y), .int .u64 (wv0 y), .int .u64 (wv3 u), .int .u64 (wv2 u), .int .u64 (wv1 u), .int .u64 (wv0 u)]) agt37 sz37 (T rfl rfl) H16 rfl) ?_
     refine lw_e (oe_callf (vs := [.agg #[.int .u64 (wv3 x), .int .u64 (wv2 x), .int .u64 (wv1 x), .int .u64 (wv0 x), .int .u64 (wv3 y), .int .u64 (wv2 y), .int .u64 (wv1 y), .int .u64 (wv0 y), .int .u64 (wv3 u), .int .u64 (wv2 u), .int .u64 (wv1 u), .int .u64 (wv0 u)]]) co69 (ar1 (T rfl rfl)) (l3Of_ok fx_ fy_ fu_  ) ?_)
     rintro _ w32 ⟨nr17, A18, n19, c20, nr21, A22, n23, c24, nr25, A26, n27, c28, rfl, e33, h29, h30, h31⟩
     have E34 := below_ext E14 E14.size e33
     have lh29 := Num.len (by decide) h29
     have lh30 := Num.len (by decide) h30
     have lh31 := Num.len (by decide) h31
     have h35 := (((h6.ext e8).ext e13).ext e33)
     have N39 : w.heap.size ≤ w32.heap.size := E34.size
     have H42 := (e33.blk H16)
     have : b1 < w32.heap.size := lt_of_blk H42
     refine lw_e (oe_callf (vs := [.slice A l c, .agg #[.bool nr17, .slice A18 n19 c20, .bool nr21, .slice A22 n23 c24, .bool nr25, .slice A26 n27 c28]]) co119 (ar2 (T rfl rfl) (T rfl rfl)) (l8On_ok (l := l) (c := c) (xs := xs) h35 (by first | omega | (simp; done) | (simp; omega)) (by first | omega | (simp; done) | (simp; omega)) h29 h30 h31 (by omega) (by omega) (by omega) (by first | assumption | exact (‹_ ∧ _›).2)) ?_)
     rintro _ w40 ⟨Ad36, cp37, rfl, e41, hO38⟩
     have E43 := below_ext E34 E34.size e41
     have := hitL_len l xs x y u
     refine lw_v (.slice Ad36 ((hitL l xs x y u).length) cp37) (dv_assign (T rfl rfl)) ?_
     refine lw_nil ?_
     refine rk_ret Try.func52 (v := .slice Ad36 ((hitL l xs x y u).length) cp37) (res1 Try.results52 (rv_tmp rfl rfl)) ⟨_, rfl, ?_⟩
     rw [hitR_t (show hitS l xs x y u from ⟨by assumption, by assumption⟩)]
     exact ⟨_, _, rfl, E43, hO38.mono N39⟩
   · refine rk_ct (T rfl (congrArg Value.bool (decide_eq_true hb15))) ?_
     refine rk_seq ?_
     refine rk_reg ?_
     refine lw_v (.slice none 0 0) (dv_assign C) ?_
     refine lw_nil ?_
     refine rk_ret Try.func52 (v := .slice none 0 0) (res1 Try.results52 (rv_tmp rfl rfl)) ⟨_, rfl, ?_⟩
     have hS : ¬ hitS l xs x y u := by intro hh; first | exact absurd hh.1 (by assumption) | exact absurd hh.2 (by assumption)
     rw [hitR_f hS]
     exact ⟨none, 0, rfl, E14, .nil0 E14.size⟩
 · refine lw_no (d := 8) rfl rfl (congrArg Value.bool (decide_eq_true hb10)) ?_
   refine lw_no (d := 8) rfl rfl (congrArg Value.bool (decide_eq_true hb10)) ?_
   refine lw_no (d := 8) rfl rfl (congrArg Value.bool (decide_eq_true hb10)) ?_
   refine lw_v (.bool true) (dv_pick_t (T rfl (congrArg Value.bool (decide_eq_true hb10))) C) ?_
   refine lw_nil ?_
   refine rk_ct (T rfl rfl) ?_
   refine rk_seq ?_
   refine rk_reg ?_
   refine lw_v (.slice none 0 0) (dv_assign C) ?_
   refine lw_nil ?_
   refine rk_ret Try.func52 (v := .slice none 0 0) (res1 Try.results52 (rv_tmp rfl rfl)) ⟨_, rfl, ?_⟩
   have hS : ¬ hitS l xs x y u := by intro hh; first | exact absurd hh.1 (by assumption) | exact absurd hh.2 (by assumption)
   rw [hitR_f hS]
   exact ⟨none, 0, rfl, E9, .nil0 E9.size⟩
set_option maxHeartbeats 1000000 in
theorem iHitAt_ok {w : World} {x y u : Int} {A : Option Addr} {l c : Nat} {xs : List Int} (hx : RdI w .i64 A xs) (hxl : xs.length = l * 4) (hxb : l ≤ 1048576) (fx_ : fits x) (fy_ : fits y) (fu_ : fits u) : Ct Try.prog 53 [.slice A l c, .agg #[.int .u64 (wv3 x), .int .u64 (wv2 x), .int .u64 (wv1 x), .int .u64 (wv0 x), .int .u64 (wv3 y), .int .u64 (wv2 y), .int .u64 (wv1 y), .int .u64 (wv0 y), .int .u64 (wv3 u), .int .u64 (wv2 u), .int .u64 (wv1 u), .int .u64 (wv0 u)]] w fun v w1 => ∃ Ad cp, v = .slice Ad (hitR l xs x y u).length cp ∧ Ext w w1 ∧ Ow w1 w.heap.size 2 .i64 Ad cp (hitR l xs x y u) := by
 refine ct_run (n := 16) Try.func53 rfl Try.ntmps53 rfl ?_
 have E0 : Below w.heap.size w w := Below.refl _ _
 refine rk_seq ?_
 refine rk_reg ?_
 refine lw_e (oe_box (v := .agg #[.int .u64 (wv3 x), .int .u64 (wv2 x), .int .u64 (wv1 x), .int .u64 (wv0 x), .int .u64 (wv3 y), .int .u64 (wv2 y), .int .u64 (wv1 y), .int .u64 (wv0 y), .int .u64 (wv3 u), .int .u64 (wv2 u), .int .u64 (wv1 u), .int .u64 (wv0 u)]) (cs := #[.int .u64 (wv3 x), .int .u64 (wv2 x), .int .u64 (wv1 x), .int .u64 (wv0 x), .int .u64 (wv3 y), .int .u64 (wv2 y), .int .u64 (wv1 y), .int .u64 (wv0 y), .int .u64 (wv3 u), .int .u64 (wv2 u), .int .u64 (wv1 u), .int .u64 (wv0 u)]) (T rfl rfl) rfl ?_)
 intro b1 w2 n3
 have N4 : w.heap.size ≤ b1 := n3.eq ▸ E0.size
 have E5 := below_ext E0 E0.size n3.ext
 refine lw_v (.slice none 0 0) (dv_assign C) ?_
 refine lw_nil ?_
 refine rk_seq ?_
 refine rk_seq ?_
 refine rk_reg ?_
 refine lw_v (.slice A l c) (dv_move (T rfl rfl)) ?_
 have h6 := (hx.ext n3.ext)
 refine lw_e (oe_callf (vs := [.slice A l c]) co120 (ar1 (T rfl rfl)) (areSegs_ok (l := l) (c := c) (xs := xs) h6 (by first | omega | (simp; done) | (simp; omega)) (by first | omega | (simp; done) | (simp; omega))) ?_)
 rintro _ w7 ⟨rfl, e8⟩
 have E9 := below_ext E5 E5.size e8
 refine lw_v (.bool (decide (¬ (l ≤ 40 ∧ segsOk l xs)))) (dv_notd (p := l ≤ 40 ∧ segsOk l xs) (T rfl rfl)) ?_
 refine lw_v (.bool (decide (¬ (l ≤ 40 ∧ segsOk l xs)))) (dv_move (T rfl rfl)) ?_
 by_cases hb10 : l ≤ 40 ∧ segsOk l xs
 · have H11 := (e8.blk n3.blk)
   refine lw_vy (.agg #[.int .u64 (wv3 x), .int .u64 (wv2 x), .int .u64 (wv1 x), .int .u64 (wv0 x), .int .u64 (wv3 y), .int .u64 (wv2 y), .int .u64 (wv1 y), .int .u64 (wv0 y), .int .u64 (wv3 u), .int .u64 (wv2 u), .int .u64 (wv1 u), .int .u64 (wv0 u)]) (d := 8) rfl rfl (congrArg Value.bool (decide_eq_false (not_not_intro hb10))) (dv_loads (l := [.int .u64 (wv3 x), .int .u64 (wv2 x), .int .u64 (wv1 x), .int .u64 (wv0 x), .int .u64 (wv3 y), .int .u64 (wv2 y), .int .u64 (wv1 y), .int .u64 (wv0 y), .int .u64 (wv3 u), .int .u64 (wv2 u), .int .u64 (wv1 u), .int .u64 (wv0 u)]) agt37 sz37 (T rfl rfl) H11 rfl) ?_
   refine lw_ey (d := 8) rfl rfl (congrArg Value.bool (decide_eq_false (not_not_intro hb10))) (oe_callf (vs := [.agg #[.int .u64 (wv3 x), .int .u64 (wv2 x), .int .u64 (wv1 x), .int .u64 (wv0 x), .int .u64 (wv3 y), .int .u64 (wv2 y), .int .u64 (wv1 y), .int .u64 (wv0 y), .int .u64 (wv3 u), .int .u64 (wv2 u), .int .u64 (wv1 u), .int .u64 (wv0 u)]]) co75 (ar1 (T rfl rfl)) (iPointOk_ok (x := x) (y := y) (u := u) fx_ fy_ fu_ ) ?_)
   rintro _ w12 ⟨rfl, e13⟩
   have E14 := below_ext E9 E9.size e13
   refine lw_vy (.bool (decide (¬ (pOk x y u)))) (d := 8) rfl rfl (congrArg Value.bool (decide_eq_false (not_not_intro hb10))) (dv_notd (p := pOk x y u) (T rfl rfl)) ?_
   refine lw_v (.bool (decide (¬ (pOk x y u)))) (dv_pick_f (T rfl (congrArg Value.bool (decide_eq_false (not_not_intro hb10)))) (T rfl rfl)) ?_
   refine lw_nil ?_
   by_cases hb15 : pOk x y u
   · refine rk_cf (T rfl (congrArg Value.bool (decide_eq_false (not_not_intro hb15)))) ?_
     refine rk_skip ?_
     refine rk_seq ?_
     refine rk_reg ?_
     refine lw_v (.slice A l c) (dv_move (T rfl rfl)) ?_
     have H16 := (e13.blk H11)
     refine lw_v (.agg #[.int .u64 (wv3 x), .int .u64 (wv2 x), .int .u64 (wv1 x), .int .u64 (wv0 x), .int .u64 (wv3 y), .int .u64 (wv2 y), .int .u64 (wv1 y), .int .u64 (wv0 y), .int .u64 (wv3 u), .int .u64 (wv2 u), .int .u64 (wv1 u), .int .u64 (wv0 u)]) (dv_loads (l := [.int .u64 (wv3 x), .int .u64 (wv2 x), .int .u64 (wv1 x), .int .u64 (wv0 x), .int .u64 (wv3 y), .int .u64 (wv2 y), .int .u64 (wv1 y), .int .u64 (wv0 y), .int .u64 (wv3 u), .int .u64 (wv2 u), .int .u64 (wv1 u), .int .u64 (wv0 u)]) agt37 sz37 (T rfl rfl) H16 rfl) ?_
     have h17 := ((h6.ext e8).ext e13)
     have N21 : w.heap.size ≤ w12.heap.size := E14.size
     have : b1 < w12.heap.size := lt_of_blk H16
     refine lw_e (oe_callf (vs := [.slice A l c, .agg #[.int .u64 (wv3 x), .int .u64 (wv2 x), .int .u64 (wv1 x), .int .u64 (wv0 x), .int .u64 (wv3 y), .int .u64 (wv2 y), .int .u64 (wv1 y), .int .u64 (wv0 y), .int .u64 (wv3 u), .int .u64 (wv2 u), .int .u64 (wv1 u), .int .u64 (wv0 u)]]) co121 (ar2 (T rfl rfl) (T rfl rfl)) (hitAt_ok (l := l) (c := c) (xs := xs) h17 (by first | omega | (simp; done) | (simp; omega)) (by first | omega | (simp; done) | (simp; omega)) fx_ fy_ fu_ (by first | assumption | exact (‹_ ∧ _›).2)) ?_)
     rintro _ w22 ⟨Ad18, cp19, rfl, e23, hO20⟩
     have E24 := below_ext E14 E14.size e23
     have := hitL_len l xs x y u
     refine lw_v (.slice Ad18 ((hitL l xs x y u).length) cp19) (dv_assign (T rfl rfl)) ?_
     refine lw_nil ?_
     refine rk_ret Try.func53 (v := .slice Ad18 ((hitL l xs x y u).length) cp19) (res1 Try.results53 (rv_tmp rfl rfl)) ⟨_, rfl, ?_⟩
     rw [hitR_t (show hitS l xs x y u from ⟨by assumption, by assumption⟩)]
     exact ⟨_, _, rfl, E24, hO20.mono N21⟩
   · refine rk_ct (T rfl (congrArg Value.bool (decide_eq_true hb15))) ?_
     refine rk_seq ?_
     refine rk_reg ?_
     refine lw_v (.slice none 0 0) (dv_assign C) ?_
     refine lw_nil ?_
     refine rk_ret Try.func53 (v := .slice none 0 0) (res1 Try.results53 (rv_tmp rfl rfl)) ⟨_, rfl, ?_⟩
     have hS : ¬ hitS l xs x y u := by intro hh; first | exact absurd hh.1 (by assumption) | exact absurd hh.2 (by assumption)
     rw [hitR_f hS]
     exact ⟨none, 0, rfl, E14, .nil0 E14.size⟩
 · refine lw_no (d := 8) rfl rfl (congrArg Value.bool (decide_eq_true hb10)) ?_
   refine lw_no (d := 8) rfl rfl (congrArg Value.bool (decide_eq_true hb10)) ?_
   refine lw_no (d := 8) rfl rfl (congrArg Value.bool (decide_eq_true hb10)) ?_
   refine lw_v (.bool true) (dv_pick_t (T rfl (congrArg Value.bool (decide_eq_true hb10))) C) ?_
   refine lw_nil ?_
   refine rk_ct (T rfl rfl) ?_
   refine rk_seq ?_
   refine rk_reg ?_
   refine lw_v (.slice none 0 0) (dv_assign C) ?_
   refine lw_nil ?_
   refine rk_ret Try.func53 (v := .slice none 0 0) (res1 Try.results53 (rv_tmp rfl rfl)) ⟨_, rfl, ?_⟩
   have hS : ¬ hitS l xs x y u := by intro hh; first | exact absurd hh.1 (by assumption) | exact absurd hh.2 (by assumption)
   rw [hitR_f hS]
   exact ⟨none, 0, rfl, E9, .nil0 E9.size⟩
end Go.Proofs.Ytdanhdbanfpghaa.W
set_option linter.unusedVariables false
set_option linter.unusedSimpArgs false
namespace Go.Proofs.Ytdanhdbanfpghaa.W
open Go Go.RowKit Go.Proofs.Ytdanhdbanfpghaa.Fw
attribute [local irreducible] RunK LW AW DV OE Ct
theorem co15 : callOk Try.prog 15 = true := by kernel_rfl
theorem co17 : callOk Try.prog 17 = true := by kernel_rfl
theorem co19 : callOk Try.prog 19 = true := by kernel_rfl
theorem co52 : callOk Try.prog 52 = true := by kernel_rfl
theorem co53 : callOk Try.prog 53 = true := by kernel_rfl
theorem co54 : callOk Try.prog 54 = true := by kernel_rfl
theorem co55 : callOk Try.prog 55 = true := by kernel_rfl
theorem co56 : callOk Try.prog 56 = true := by kernel_rfl
theorem co57 : callOk Try.prog 57 = true := by kernel_rfl
set_option maxHeartbeats 1000000 in
theorem lawHitAt_ok {w : World} {x y u : Int} {A : Option Addr} {l c : Nat} {xs : List Int} (hx : RdI w .i64 A xs) (hxl : xs.length = l * 4) (hxc : l ≤ c) (hxm : c ≤ 9223372036854775807) (fx_ : fits x) (fy_ : fits y) (fu_ : fits u) : Ct Try.prog 13 [.slice A l c, .agg #[.int .u64 (wv3 x), .int .u64 (wv2 x), .int .u64 (wv1 x), .int .u64 (wv0 x), .int .u64 (wv3 y), .int .u64 (wv2 y), .int .u64 (wv1 y), .int .u64 (wv0 y), .int .u64 (wv3 u), .int .u64 (wv2 u), .int .u64 (wv1 u), .int .u64 (wv0 u)]] w fun v w1 => v = .bool true ∧ Ext w w1 := by
 refine ct_run (n := 77) Try.func13 rfl Try.ntmps13 rfl ?_
 have E0 : Below w.heap.size w w := Below.refl _ _
 refine rk_seq ?_
 refine rk_reg ?_
 refine lw_e (oe_box (v := .agg #[.int .u64 (wv3 x), .int .u64 (wv2 x), .int .u64 (wv1 x), .int .u64 (wv0 x), .int .u64 (wv3 y), .int .u64 (wv2 y), .int .u64 (wv1 y), .int .u64 (wv0 y), .int .u64 (wv3 u), .int .u64 (wv2 u), .int .u64 (wv1 u), .int .u64 (wv0 u)]) (cs := #[.int .u64 (wv3 x), .int .u64 (wv2 x), .int .u64 (wv1 x), .int .u64 (wv0 x), .int .u64 (wv3 y), .int .u64 (wv2 y), .int .u64 (wv1 y), .int .u64 (wv0 y), .int .u64 (wv3 u), .int .u64 (wv2 u), .int .u64 (wv1 u), .int .u64 (wv0 u)]) (T rfl rfl) rfl ?_)
 intro b1 w2 n3
 have N4 : w.heap.size ≤ b1 := n3.eq ▸ E0.size
 have E5 := below_ext E0 E0.size n3.ext
 refine lw_v (.bool false) (dv_assign C) ?_
 refine lw_nil ?_
 refine rk_seq ?_
 refine rk_reg ?_
 refine lw_v (.int .i64 1048576) (dv_assign C) ?_
 refine lw_nil ?_
 refine rk_seq ?_
 refine rk_reg ?_
 refine lw_v (.slice A l c) (dv_move (T rfl rfl)) ?_
 refine lw_v (.int .i64 1048576) (dv_move (T rfl rfl)) ?_
 refine lw_e (oe_callf (vs := [.slice A l c, .int .i64 1048576]) co15 (ar2 (T rfl rfl) (T rfl rfl)) (szSegS_ok (A := A) (c := c) (by omega) (by omega)) ?_)
 rintro _ w6 ⟨rfl, e7⟩
 have E8 := below_ext E5 E5.size e7
 refine lw_v (.int .i64 (szV l 1048576)) (dv_assign (T rfl rfl)) ?_
 refine lw_nil ?_
 refine rk_seq ?_
 refine rk_seq ?_
 refine rk_reg ?_
 refine lw_v (.int .i64 (szV l 1048576)) (dv_move (T rfl rfl)) ?_
 refine lw_v (.bool (decide ((szV l 1048576) < 0))) (dv_lss (a := szV l 1048576) (b := 0) (T rfl rfl) C) ?_
 refine lw_nil ?_
 by_cases hb9 : (szV l 1048576) < 0
 · refine rk_ct (T rfl (congrArg Value.bool (decide_eq_true hb9))) ?_
   refine rk_seq ?_
   refine rk_reg ?_
   refine lw_v (.bool true) (dv_assign C) ?_
   refine lw_nil ?_
   refine rk_ret Try.func13 (v := .bool true) (res1 Try.results13 (rv_tmp rfl rfl)) ⟨_, rfl, ?_⟩
   exact ⟨rfl, E8⟩
 · have := szV_rg hb9
   refine rk_cf (T rfl (congrArg Value.bool (decide_eq_false hb9))) ?_
   refine rk_skip ?_
   refine rk_seq ?_
   refine rk_any (fun w => w.heap[b1]? = some (.cells #[.int .u64 (wv3 x), .int .u64 (wv2 x), .int .u64 (wv1 x), .int .u64 (wv0 x), .int .u64 (wv3 y), .int .u64 (wv2 y), .int .u64 (wv1 y), .int .u64 (wv0 y), .int .u64 (wv3 u), .int .u64 (wv2 u), .int .u64 (wv1 u), .int .u64 (wv0 u)] 33)) [5] mo ?_
   intro w10 d11
   have E12 := below_ext E8 E8.size d11.ext
   have H13 := (d11.ext.blk (e7.blk n3.blk))
   refine aw_pure 0 (.slice A l c) rfl (by kernel_rfl) .none H13 (fun _ => dv_move (T rfl rfl)) ?_
   refine aw_load 2 (.agg #[.int .u64 (wv3 x), .int .u64 (wv2 x), .int .u64 (wv1 x), .int .u64 (wv0 x), .int .u64 (wv3 y), .int .u64 (wv2 y), .int .u64 (wv1 y), .int .u64 (wv0 y), .int .u64 (wv3 u), .int .u64 (wv2 u), .int .u64 (wv1 u), .int .u64 (wv0 u)]) rfl (by kernel_rfl) .none H13 (fun _ s => dv_loads (l := [.int .u64 (wv3 x), .int .u64 (wv2 x), .int .u64 (wv1 x), .int .u64 (wv0 x), .int .u64 (wv3 y), .int .u64 (wv2 y), .int .u64 (wv1 y), .int .u64 (wv0 y), .int .u64 (wv3 u), .int .u64 (wv2 u), .int .u64 (wv1 u), .int .u64 (wv0 u)]) agt33 sz33 (T rfl rfl) s rfl) ?_
   have h14 := (((hx.ext n3.ext).ext e7).ext d11.ext)
   have : b1 < w10.heap.size := lt_of_blk H13
   have : w.heap.size ≤ w10.heap.size := E12.size
   refine aw_one 1 rfl (by kernel_rfl) .none (oe_callf (vs := [.slice A l c]) co17 (ar1 (T rfl rfl)) (toSegS_ok (l := l) (c := c) (xs := xs) h14 (by first | omega | (simp; done) | (simp; omega)) (by first | omega | (simp; done) | (simp; omega))) ?_)
   rintro _ w18 ⟨b15, rfl, e19, H16, hN17⟩
   have E20 := below_ext E12 E12.size e19
   have : b1 < b15 := by omega
   have N21 : w.heap.size ≤ b15 := by omega
   have H22 := (e19.blk H13)
   refine ⟨.inr H22, ?_⟩
   refine aw_one 3 rfl (by kernel_rfl) .none (oe_callf (vs := [.agg #[.int .u64 (wv3 x), .int .u64 (wv2 x), .int .u64 (wv1 x), .int .u64 (wv0 x), .int .u64 (wv3 y), .int .u64 (wv2 y), .int .u64 (wv1 y), .int .u64 (wv0 y), .int .u64 (wv3 u), .int .u64 (wv2 u), .int .u64 (wv1 u), .int .u64 (wv0 u)]]) co21 (ar1 (T rfl rfl)) (toPoint_ok (x := x) (y := y) (u := u)  ) ?_)
   rintro _ w23 ⟨rfl, e24⟩
   have E25 := below_ext E20 E20.size e24
   have H26 := (e24.blk H22)
   refine ⟨.inr H26, ?_⟩
   have H27 := (e24.blk H16)
   have N31 : w.heap.size ≤ w23.heap.size := E25.size
   have : b1 < w23.heap.size := lt_of_blk H26
   have : b15 < w23.heap.size := lt_of_blk H27
   refine aw_one 4 rfl (by kernel_rfl) .none (oe_callf (vs := [.slice (some ⟨b15, 0, none⟩) l l, .agg #[.int .u64 (wv3 x), .int .u64 (wv2 x), .int .u64 (wv1 x), .int .u64 (wv0 x), .int .u64 (wv3 y), .int .u64 (wv2 y), .int .u64 (wv1 y), .int .u64 (wv0 y), .int .u64 (wv3 u), .int .u64 (wv2 u), .int .u64 (wv1 u), .int .u64 (wv0 u)]]) co52 (ar2 (T rfl rfl) (T rfl rfl)) (sHitAt_ok (l := l) (c := l) (xs := xs) (Wd.rdI (Wd.ownW H27)) (by first | omega | (simp; done) | (simp; omega)) (by first | omega | (simp; done) | (simp; omega)) fx_ fy_ fu_) ?_)
   rintro _ w32 ⟨Ad28, cp29, rfl, e33, hO30⟩
   have E34 := below_ext E25 E25.size e33
   have := hitR_len l xs x y u
   have H35 := (e33.blk H26)
   refine ⟨.inr H35, ?_⟩
   refine aw_last 5 (.slice Ad28 ((hitR l xs x y u).length) cp29) rfl (by kernel_rfl) .none (fun _ => dv_assign (T rfl rfl)) ?_
   refine aw_done (by kernel_rfl) ?_
   refine rk_seq ?_
   refine rk_reg ?_
   refine lw_v (.slice A l c) (dv_move (T rfl rfl)) ?_
   have h36 := (((h14.ext e19).ext e24).ext e33)
   have : b1 < w32.heap.size := lt_of_blk H35
   have H42 := (e33.blk H27)
   have : b15 < w32.heap.size := lt_of_blk H42
   have : w.heap.size ≤ w32.heap.size := E34.size
   refine lw_e (oe_callf (vs := [.slice A l c]) co17 (ar1 (T rfl rfl)) (toSegS_ok (l := l) (c := c) (xs := xs) h36 (by first | omega | (simp; done) | (simp; omega)) (by first | omega | (simp; done) | (simp; omega))) ?_)
   rintro _ w40 ⟨b37, rfl, e41, H38, hN39⟩
   have E43 := below_ext E34 E34.size e41
   have : b1 < b37 := by omega
   have : b15 < b37 := by omega
   have N44 : w.heap.size ≤ b37 := by omega
   refine lw_v (.slice (some ⟨b37, 0, none⟩) l l) (dv_assign (T rfl rfl)) ?_
   refine lw_nil ?_
   refine rk_seq ?_
   refine rk_reg ?_
   refine lw_v (.slice (some ⟨b37, 0, none⟩) l l) (dv_move (T rfl rfl)) ?_
   have H45 := (e41.blk H35)
   refine lw_v (.agg #[.int .u64 (wv3 x), .int .u64 (wv2 x), .int .u64 (wv1 x), .int .u64 (wv0 x), .int .u64 (wv3 y), .int .u64 (wv2 y), .int .u64 (wv1 y), .int .u64 (wv0 y), .int .u64 (wv3 u), .int .u64 (wv2 u), .int .u64 (wv1 u), .int .u64 (wv0 u)]) (dv_loads (l := [.int .u64 (wv3 x), .int .u64 (wv2 x), .int .u64 (wv1 x), .int .u64 (wv0 x), .int .u64 (wv3 y), .int .u64 (wv2 y), .int .u64 (wv1 y), .int .u64 (wv0 y), .int .u64 (wv3 u), .int .u64 (wv2 u), .int .u64 (wv1 u), .int .u64 (wv0 u)]) agt33 sz33 (T rfl rfl) H45 rfl) ?_
   refine lw_e (oe_callf (vs := [.agg #[.int .u64 (wv3 x), .int .u64 (wv2 x), .int .u64 (wv1 x), .int .u64 (wv0 x), .int .u64 (wv3 y), .int .u64 (wv2 y), .int .u64 (wv1 y), .int .u64 (wv0 y), .int .u64 (wv3 u), .int .u64 (wv2 u), .int .u64 (wv1 u), .int .u64 (wv0 u)]]) co21 (ar1 (T rfl rfl)) (toPoint_ok (x := x) (y := y) (u := u)  ) ?_)
   rintro _ w46 ⟨rfl, e47⟩
   have E48 := below_ext E43 E43.size e47
   have H49 := (e47.blk H38)
   have N53 : w.heap.size ≤ w46.heap.size := E48.size
   have H56 := (e47.blk H45)
   have : b1 < w46.heap.size := lt_of_blk H56
   have H57 := (e47.blk (e41.blk H42))
   have : b15 < w46.heap.size := lt_of_blk H57
   have : b37 < w46.heap.size := lt_of_blk H49
   have h59 := ((hO30.ext e41).ext e47)
   have lt58 := h59.lt
   refine lw_e (oe_callf (vs := [.slice (some ⟨b37, 0, none⟩) l l, .agg #[.int .u64 (wv3 x), .int .u64 (wv2 x), .int .u64 (wv1 x), .int .u64 (wv0 x), .int .u64 (wv3 y), .int .u64 (wv2 y), .int .u64 (wv1 y), .int .u64 (wv0 y), .int .u64 (wv3 u), .int .u64 (wv2 u), .int .u64 (wv1 u), .int .u64 (wv0 u)]]) co53 (ar2 (T rfl rfl) (T rfl rfl)) (iHitAt_ok (l := l) (c := l) (xs := xs) (Wd.rdI (Wd.ownW H49)) (by first | omega | (simp; done) | (simp; omega)) (by first | omega | (simp; done) | (simp; omega)) fx_ fy_ fu_) ?_)
   rintro _ w54 ⟨Ad50, cp51, rfl, e55, hO52⟩
   have E60 := below_ext E48 E48.size e55
   have := hitR_len l xs x y u
   refine lw_v (.slice Ad50 ((hitR l xs x y u).length) cp51) (dv_assign (T rfl rfl)) ?_
   refine lw_nil ?_
   refine rk_seq ?_
   refine rk_seq ?_
   refine rk_reg ?_
   refine lw_v (.slice Ad50 ((hitR l xs x y u).length) cp51) (dv_move (T rfl rfl)) ?_
   refine lw_v (.slice Ad28 ((hitR l xs x y u).length) cp29) (dv_move (T rfl rfl)) ?_
   have h61 := (h59.ext e55)
   refine lw_e (oe_callf (vs := [.slice Ad50 ((hitR l xs x y u).length) cp51, .slice Ad28 ((hitR l xs x y u).length) cp29]) co54 (ar2 (T rfl rfl) (T rfl rfl)) (eqInt64S_ok (l := (hitR l xs x y u).length) (m := (hitR l xs x y u).length) (c := cp51) (d := cp29) (xs := (hitR l xs x y u)) (ys := (hitR l xs x y u)) (Wd.rdI hO52.wd) (by first | omega | (simp; done) | (simp; omega)) (by first | omega | (simp; done) | (simp; omega)) (Wd.rdI h61.wd) (by first | omega | (simp; done) | (simp; omega)) (by first | omega | (simp; done) | (simp; omega))) ?_)
   rintro _ w62 ⟨rfl, e63⟩
   have E64 := below_ext E60 E60.size e63
   refine lw_v (.bool (decide (¬ (((hitR l xs x y u) : List Int) = (hitR l xs x y u))))) (dv_notd (p := ((hitR l xs x y u) : List Int) = (hitR l xs x y u)) (T rfl rfl)) ?_
   refine lw_nil ?_
   by_cases hb65 : ((hitR l xs x y u) : List Int) = (hitR l xs x y u)
   · refine rk_cf (T rfl (congrArg Value.bool (decide_eq_false (not_not_intro hb65)))) ?_
     refine rk_skip ?_
     refine rk_seq ?_
     refine rk_seq ?_
     refine rk_reg ?_
     refine lw_v (.slice (some ⟨b37, 0, none⟩) l l) (dv_move (T rfl rfl)) ?_
     refine lw_v (.slice A l c) (dv_move (T rfl rfl)) ?_
     have h66 := ((((h36.ext e41).ext e47).ext e55).ext e63)
     have H72 := (e63.blk (e55.blk H56))
     have : b1 < w62.heap.size := lt_of_blk H72
     have H73 := (e63.blk (e55.blk H57))
     have : b15 < w62.heap.size := lt_of_blk H73
     have H74 := (e63.blk (e55.blk H49))
     have : b37 < w62.heap.size := lt_of_blk H74
     have : w.heap.size ≤ w62.heap.size := E64.size
     refine lw_e (oe_callf (vs := [.slice A l c]) co17 (ar1 (T rfl rfl)) (toSegS_ok (l := l) (c := c) (xs := xs) h66 (by first | omega | (simp; done) | (simp; omega)) (by first | omega | (simp; done) | (simp; omega))) ?_)
     rintro _ w70 ⟨b67, rfl, e71, H68, hN69⟩
     have E75 := below_ext E64 E64.size e71
     have : b1 < b67 := by omega
     have : b15 < b67 := by omega
     have : b37 < b67 := by omega
     have N76 : w.heap.size ≤ b67 := by omega
     have H77 := (e71.blk H74)
     refine lw_e (oe_callf (vs := [.slice (some ⟨b37, 0, none⟩) l l, .slice (some ⟨b67, 0, none⟩) l l]) co19 (ar2 (T rfl rfl) (T rfl rfl)) (eqSegS_ok (l := l) (m := l) (c := l) (d := l) (xs := xs) (ys := xs) (Wd.rdI (Wd.ownW H77)) (by first | omega | (simp; done) | (simp; omega)) (by first | omega | (simp; done) | (simp; omega)) (Wd.rdI (Wd.ownW H68)) (by first | omega | (simp; done) | (simp; omega)) (by first | omega | (simp; done) | (simp; omega))) ?_)
     rintro _ w78 ⟨rfl, e79⟩
     have E80 := below_ext E75 E75.size e79
     refine lw_v (.bool (decide (¬ ((xs : List Int) = xs)))) (dv_notd (p := (xs : List Int) = xs) (T rfl rfl)) ?_
     refine lw_nil ?_
     by_cases hb81 : (xs : List Int) = xs
     · refine rk_cf (T rfl (congrArg Value.bool (decide_eq_false (not_not_intro hb81)))) ?_
       refine rk_skip ?_
       refine rk_seq ?_
       refine rk_reg ?_
       refine lw_v (.int .i64 1) (dv_assign C) ?_
       refine lw_nil ?_
       refine rk_seq ?_
       refine rk_reg ?_
       refine lw_v (.slice (some ⟨b37, 0, none⟩) l l) (dv_move (T rfl rfl)) ?_
       refine lw_v (.int .i64 1) (dv_move (T rfl rfl)) ?_
       have H85 := (e79.blk H77)
       refine lw_e (oe_callf (vs := [.slice (some ⟨b37, 0, none⟩) l l, .int .i64 1]) co55 (ar2 (T rfl rfl) (T rfl rfl)) (markSegS_ok (xs := xs) H85 (by first | omega | (simp; done) | (simp; omega)) (by first | omega | (simp; done) | (simp; omega)) (by omega)) ?_)
       rintro _ w86 ⟨rfl, e87, M82, hl83, H84⟩
       have E88 := below_st E80 N44 e87
       refine lw_v (.int .i64 (1 + (l : Int) * 4)) (dv_assign (T rfl rfl)) ?_
       refine lw_nil ?_
       refine rk_seq ?_
       refine rk_seq ?_
       refine rk_reg ?_
       refine lw_v (.int .i64 (1 + (l : Int) * 4)) (dv_move (T rfl rfl)) ?_
       refine lw_v (.bool (decide ((1 + (l : Int) * 4) < 0))) (dv_lss (a := 1 + (l : Int) * 4) (b := 0) (T rfl rfl) C) ?_
       refine lw_v (.bool (decide ((1 + (l : Int) * 4) < 0))) (dv_move (T rfl rfl)) ?_
       by_cases hb89 : (1 + (l : Int) * 4) < 0
       · refine lw_no (d := 43) rfl rfl (congrArg Value.bool (decide_eq_true hb89)) ?_
         refine lw_no (d := 43) rfl rfl (congrArg Value.bool (decide_eq_true hb89)) ?_
         refine lw_no (d := 43) rfl rfl (congrArg Value.bool (decide_eq_true hb89)) ?_
         refine lw_no (d := 43) rfl rfl (congrArg Value.bool (decide_eq_true hb89)) ?_
         refine lw_v (.bool true) (dv_pick_t (T rfl (congrArg Value.bool (decide_eq_true hb89))) C) ?_
         refine lw_nil ?_
         refine rk_ct (T rfl rfl) ?_
         refine rk_seq ?_
         refine rk_reg ?_
         refine lw_v (.bool false) (dv_assign C) ?_
         refine lw_nil ?_
         refine rk_ret Try.func13 (v := .bool false) (res1 Try.results13 (rv_tmp rfl rfl)) ⟨_, rfl, ?_⟩
         exact ⟨(by exfalso; first | contradiction | exact absurd rfl (by assumption) | omega), E88⟩
       · refine lw_vy (.slice Ad50 ((hitR l xs x y u).length) cp51) (d := 43) rfl rfl (congrArg Value.bool (decide_eq_false hb89)) (dv_move (T rfl rfl)) ?_
         refine lw_vy (.slice Ad28 ((hitR l xs x y u).length) cp29) (d := 43) rfl rfl (congrArg Value.bool (decide_eq_false hb89)) (dv_move (T rfl rfl)) ?_
         have h90 := ((((hO52.ext e63).ext e71).ext e79).st e87 H85 (by decide))
         have h91 := ((((h61.ext e63).ext e71).ext e79).st e87 H85 (by decide))
         refine lw_ey (d := 43) rfl rfl (congrArg Value.bool (decide_eq_false hb89)) (oe_callf (vs := [.slice Ad50 ((hitR l xs x y u).length) cp51, .slice Ad28 ((hitR l xs x y u).length) cp29]) co54 (ar2 (T rfl rfl) (T rfl rfl)) (eqInt64S_ok (l := (hitR l xs x y u).length) (m := (hitR l xs x y u).length) (c := cp51) (d := cp29) (xs := (hitR l xs x y u)) (ys := (hitR l xs x y u)) (Wd.rdI h90.wd) (by first | omega | (simp; done) | (simp; omega)) (by first | omega | (simp; done) | (simp; omega)) (Wd.rdI h91.wd) (by first | omega | (simp; done) | (simp; omega)) (by first | omega | (simp; done) | (simp; omega))) ?_)
         rintro _ w92 ⟨rfl, e93⟩
         have E94 := below_ext E88 E88.size e93
         refine lw_vy (.bool (decide (¬ (((hitR l xs x y u) : List Int) = (hitR l xs x y u))))) (d := 43) rfl rfl (congrArg Value.bool (decide_eq_false hb89)) (dv_notd (p := ((hitR l xs x y u) : List Int) = (hitR l xs x y u)) (T rfl rfl)) ?_
         refine lw_v (.bool (decide (¬ (((hitR l xs x y u) : List Int) = (hitR l xs x y u))))) (dv_pick_f (T rfl (congrArg Value.bool (decide_eq_false hb89))) (T rfl rfl)) ?_
         refine lw_nil ?_
         refine rk_cf (T rfl (congrArg Value.bool (decide_eq_false (not_not_intro hb65)))) ?_
         refine rk_skip ?_
         refine rk_seq ?_
         refine rk_reg ?_
         refine lw_v (.int .i64 1) (dv_assign C) ?_
         refine lw_nil ?_
         refine rk_seq ?_
         refine rk_reg ?_
         refine lw_v (.slice Ad50 ((hitR l xs x y u).length) cp51) (dv_move (T rfl rfl)) ?_
         refine lw_v (.int .i64 1) (dv_move (T rfl rfl)) ?_
         have h95 := (h90.ext e93)
         refine lw_e (oe_callf (vs := [.slice Ad50 ((hitR l xs x y u).length) cp51, .int .i64 1]) co56 (ar2 (T rfl rfl) (T rfl rfl)) (markInt64S_ok h95 rfl (by first | omega | (simp; done) | (simp; omega)) (by omega)) ?_)
         rintro _ w97 ⟨rfl, e98, hO96⟩
         have E99 := below_bl E94 N53 e98
         refine lw_v (.int .i64 (1 + ((hitR l xs x y u).length : Int))) (dv_assign (T rfl rfl)) ?_
         refine lw_nil ?_
         refine rk_seq ?_
         refine rk_reg ?_
         refine lw_v (.int .i64 1) (dv_assign C) ?_
         refine lw_nil ?_
         refine rk_seq ?_
         refine rk_reg ?_
         refine lw_v (.slice Ad50 ((hitR l xs x y u).length) cp51) (dv_move (T rfl rfl)) ?_
         refine lw_v (.int .i64 1) (dv_move (T rfl rfl)) ?_
         refine lw_e (oe_callf (vs := [.slice Ad50 ((hitR l xs x y u).length) cp51, .int .i64 1]) co57 (ar2 (T rfl rfl) (T rfl rfl)) (heldInt64S_ok (n := (hitR l xs x y u).length) (c := cp51) (xs := (mkL 1 ((hitR l xs x y u).length))) (k := 1) (Wd.rdI hO96.wd) (by first | rfl | first | omega | (simp; done) | (simp; omega) | exact mkL_len _ _) (by first | omega | (simp; done) | (simp; omega)) rfl (by omega)) ?_)
         rintro _ w100 ⟨rfl, e101⟩
         have E102 := below_ext E99 E99.size e101
         refine lw_v (.int .i64 (1 + ((hitR l xs x y u).length : Int))) (dv_assign (T rfl rfl)) ?_
         refine lw_nil ?_
         refine rk_seq ?_
         refine rk_seq ?_
         refine rk_reg ?_
         refine lw_v (.int .i64 (1 + ((hitR l xs x y u).length : Int))) (dv_move (T rfl rfl)) ?_
         refine lw_v (.bool (decide ((1 + ((hitR l xs x y u).length : Int)) < 0))) (dv_lss (a := 1 + ((hitR l xs x y u).length : Int)) (b := 0) (T rfl rfl) C) ?_
         refine lw_nil ?_
         by_cases hb103 : (1 + ((hitR l xs x y u).length : Int)) < 0
         · refine rk_ct (T rfl (congrArg Value.bool (decide_eq_true hb103))) ?_
           refine rk_seq ?_
           refine rk_reg ?_
           refine lw_v (.bool false) (dv_assign C) ?_
           refine lw_nil ?_
           refine rk_ret Try.func13 (v := .bool false) (res1 Try.results13 (rv_tmp rfl rfl)) ⟨_, rfl, ?_⟩
           exact ⟨(by exfalso; first | contradiction | exact absurd rfl (by assumption) | omega), E102⟩
         · refine rk_cf (T rfl (congrArg Value.bool (decide_eq_false hb103))) ?_
           refine rk_skip ?_
           refine rk_seq ?_
           refine rk_seq ?_
           refine rk_reg ?_
           refine lw_v (.int .i64 (1 + ((hitR l xs x y u).length : Int))) (dv_move (T rfl rfl)) ?_
           refine lw_v (.int .i64 (1 + ((hitR l xs x y u).length : Int))) (dv_move (T rfl rfl)) ?_
           refine lw_v (.bool (decide ((1 + ((hitR l xs x y u).length : Int)) ≠ (1 + ((hitR l xs x y u).length : Int))))) (dv_neq (a := 1 + ((hitR l xs x y u).length : Int)) (b := 1 + ((hitR l xs x y u).length : Int)) (T rfl rfl) (T rfl rfl)) ?_
           refine lw_nil ?_
           by_cases hb104 : (1 + ((hitR l xs x y u).length : Int)) ≠ (1 + ((hitR l xs x y u).length : Int))
           · refine rk_ct (T rfl (congrArg Value.bool (decide_eq_true hb104))) ?_
             refine rk_seq ?_
             refine rk_reg ?_
             refine lw_v (.bool false) (dv_assign C) ?_
             refine lw_nil ?_
             refine rk_ret Try.func13 (v := .bool false) (res1 Try.results13 (rv_tmp rfl rfl)) ⟨_, rfl, ?_⟩
             exact ⟨(by exfalso; first | contradiction | exact absurd rfl (by assumption) | omega), E102⟩
           · refine rk_cf (T rfl (congrArg Value.bool (decide_eq_false hb104))) ?_
             refine rk_skip ?_
             refine rk_seq ?_
             refine rk_any (fun w => w.heap[b1]? = some (.cells #[.int .u64 (wv3 x), .int .u64 (wv2 x), .int .u64 (wv1 x), .int .u64 (wv0 x), .int .u64 (wv3 y), .int .u64 (wv2 y), .int .u64 (wv1 y), .int .u64 (wv0 y), .int .u64 (wv3 u), .int .u64 (wv2 u), .int .u64 (wv1 u), .int .u64 (wv0 u)] 33)) [5] mo ?_
             intro w105 d106
             have E107 := below_ext E102 E102.size d106.ext
             have H108 := (d106.ext.blk (e101.blk (bl_blk e98 (e93.blk (e87.blk (e79.blk (e71.blk H72)) (by omega))) (by omega))))
             refine aw_pure 0 (.slice A l c) rfl (by kernel_rfl) .none H108 (fun _ => dv_move (T rfl rfl)) ?_
             refine aw_load 2 (.agg #[.int .u64 (wv3 x), .int .u64 (wv2 x), .int .u64 (wv1 x), .int .u64 (wv0 x), .int .u64 (wv3 y), .int .u64 (wv2 y), .int .u64 (wv1 y), .int .u64 (wv0 y), .int .u64 (wv3 u), .int .u64 (wv2 u), .int .u64 (wv1 u), .int .u64 (wv0 u)]) rfl (by kernel_rfl) .none H108 (fun _ s => dv_loads (l := [.int .u64 (wv3 x), .int .u64 (wv2 x), .int .u64 (wv1 x), .int .u64 (wv0 x), .int .u64 (wv3 y), .int .u64 (wv2 y), .int .u64 (wv1 y), .int .u64 (wv0 y), .int .u64 (wv3 u), .int .u64 (wv2 u), .int .u64 (wv1 u), .int .u64 (wv0 u)]) agt33 sz33 (T rfl rfl) s rfl) ?_
             have h109 := hx.ext E107
             have : b1 < w105.heap.size := lt_of_blk H108
             have H115 := (d106.ext.blk (e101.blk (bl_blk e98 (e93.blk (e87.blk (e79.blk (e71.blk H73)) (by omega))) (by omega))))
             have : b15 < w105.heap.size := lt_of_blk H115
             have H116 := (d106.ext.blk (e101.blk (bl_blk e98 (e93.blk H84) (by omega))))
             have : b37 < w105.heap.size := lt_of_blk H116
             have : w.heap.size ≤ w105.heap.size := E107.size
             refine aw_one 1 rfl (by kernel_rfl) .none (oe_callf (vs := [.slice A l c]) co17 (ar1 (T rfl rfl)) (toSegS_ok (l := l) (c := c) (xs := xs) h109 (by first | omega | (simp; done) | (simp; omega)) (by first | omega | (simp; done) | (simp; omega))) ?_)
             rintro _ w113 ⟨b110, rfl, e114, H111, hN112⟩
             have E117 := below_ext E107 E107.size e114
             have : b1 < b110 := by omega
             have : b15 < b110 := by omega
             have : b37 < b110 := by omega
             have N118 : w.heap.size ≤ b110 := by omega
             have H119 := (e114.blk H108)
             refine ⟨.inr H119, ?_⟩
             refine aw_one 3 rfl (by kernel_rfl) .none (oe_callf (vs := [.agg #[.int .u64 (wv3 x), .int .u64 (wv2 x), .int .u64 (wv1 x), .int .u64 (wv0 x), .int .u64 (wv3 y), .int .u64 (wv2 y), .int .u64 (wv1 y), .int .u64 (wv0 y), .int .u64 (wv3 u), .int .u64 (wv2 u), .int .u64 (wv1 u), .int .u64 (wv0 u)]]) co21 (ar1 (T rfl rfl)) (toPoint_ok (x := x) (y := y) (u := u)  ) ?_)
             rintro _ w120 ⟨rfl, e121⟩
             have E122 := below_ext E117 E117.size e121
             have H123 := (e121.blk H119)
             refine ⟨.inr H123, ?_⟩
             have H124 := (e121.blk H111)
             have N128 : w.heap.size ≤ w120.heap.size := E122.size
             have : b1 < w120.heap.size := lt_of_blk H123
             have H131 := (e121.blk (e114.blk H115))
             have : b15 < w120.heap.size := lt_of_blk H131
             have H132 := (e121.blk (e114.blk H116))
             have : b37 < w120.heap.size := lt_of_blk H132
             have : b110 < w120.heap.size := lt_of_blk H124
             have h134 := ((((hO96.ext e101).ext d106.ext).ext e114).ext e121)
             have lt133 := h134.lt
             refine aw_one 4 rfl (by kernel_rfl) .none (oe_callf (vs := [.slice (some ⟨b110, 0, none⟩) l l, .agg #[.int .u64 (wv3 x), .int .u64 (wv2 x), .int .u64 (wv1 x), .int .u64 (wv0 x), .int .u64 (wv3 y), .int .u64 (wv2 y), .int .u64 (wv1 y), .int .u64 (wv0 y), .int .u64 (wv3 u), .int .u64 (wv2 u), .int .u64 (wv1 u), .int .u64 (wv0 u)]]) co53 (ar2 (T rfl rfl) (T rfl rfl)) (iHitAt_ok (l := l) (c := l) (xs := xs) (Wd.rdI (Wd.ownW H124)) (by first | omega | (simp; done) | (simp; omega)) (by first | omega | (simp; done) | (simp; omega)) fx_ fy_ fu_) ?_)
             rintro _ w129 ⟨Ad125, cp126, rfl, e130, hO127⟩
             have E135 := below_ext E122 E122.size e130
             have := hitR_len l xs x y u
             have H136 := (e130.blk H123)
             refine ⟨.inr H136, ?_⟩
             refine aw_last 5 (.slice Ad125 ((hitR l xs x y u).length) cp126) rfl (by kernel_rfl) .none (fun _ => dv_assign (T rfl rfl)) ?_
             refine aw_done (by kernel_rfl) ?_
             refine rk_seq ?_
             refine rk_seq ?_
             refine rk_reg ?_
             refine lw_v (.slice Ad125 ((hitR l xs x y u).length) cp126) (dv_move (T rfl rfl)) ?_
             refine lw_v (.slice Ad28 ((hitR l xs x y u).length) cp29) (dv_move (T rfl rfl)) ?_
             have h137 := (((((((h91.ext e93).bl e98 (fun g_ o_ h_ => by have := lt58 g_ o_ h_; omega)).ext e101).ext d106.ext).ext e114).ext e121).ext e130)
             refine lw_e (oe_callf (vs := [.slice Ad125 ((hitR l xs x y u).length) cp126, .slice Ad28 ((hitR l xs x y u).length) cp29]) co54 (ar2 (T rfl rfl) (T rfl rfl)) (eqInt64S_ok (l := (hitR l xs x y u).length) (m := (hitR l xs x y u).length) (c := cp126) (d := cp29) (xs := (hitR l xs x y u)) (ys := (hitR l xs x y u)) (Wd.rdI hO127.wd) (by first | omega | (simp; done) | (simp; omega)) (by first | omega | (simp; done) | (simp; omega)) (Wd.rdI h137.wd) (by first | omega | (simp; done) | (simp; omega)) (by first | omega | (simp; done) | (simp; omega))) ?_)
             rintro _ w138 ⟨rfl, e139⟩
             have E140 := below_ext E135 E135.size e139
             refine lw_v (.bool (decide (¬ (((hitR l xs x y u) : List Int) = (hitR l xs x y u))))) (dv_notd (p := ((hitR l xs x y u) : List Int) = (hitR l xs x y u)) (T rfl rfl)) ?_
             refine lw_nil ?_
             refine rk_cf (T rfl (congrArg Value.bool (decide_eq_false (not_not_intro hb65)))) ?_
             refine rk_skip ?_
             refine rk_seq ?_
             refine rk_reg ?_
             refine lw_v (.int .i64 1) (dv_assign C) ?_
             refine lw_nil ?_
             refine rk_seq ?_
             refine rk_reg ?_
             refine lw_v (.slice Ad50 ((hitR l xs x y u).length) cp51) (dv_move (T rfl rfl)) ?_
             refine lw_v (.int .i64 1) (dv_move (T rfl rfl)) ?_
             have h141 := ((h134.ext e130).ext e139)
             refine lw_e (oe_callf (vs := [.slice Ad50 ((hitR l xs x y u).length) cp51, .int .i64 1]) co57 (ar2 (T rfl rfl) (T rfl rfl)) (heldInt64S_ok (n := (hitR l xs x y u).length) (c := cp51) (xs := (mkL 1 ((hitR l xs x y u).length))) (k := 1) (Wd.rdI h141.wd) (by first | rfl | first | omega | (simp; done) | (simp; omega) | exact mkL_len _ _) (by first | omega | (simp; done) | (simp; omega)) rfl (by omega)) ?_)
             rintro _ w142 ⟨rfl, e143⟩
             have E144 := below_ext E140 E140.size e143
             refine lw_v (.int .i64 (1 + ((hitR l xs x y u).length : Int))) (dv_assign (T rfl rfl)) ?_
             refine lw_nil ?_
             refine rk_seq ?_
             refine rk_seq ?_
             refine rk_reg ?_
             refine lw_v (.int .i64 (1 + ((hitR l xs x y u).length : Int))) (dv_move (T rfl rfl)) ?_
             refine lw_v (.bool (decide ((1 + ((hitR l xs x y u).length : Int)) < 0))) (dv_lss (a := 1 + ((hitR l xs x y u).length : Int)) (b := 0) (T rfl rfl) C) ?_
             refine lw_nil ?_
             refine rk_cf (T rfl (congrArg Value.bool (decide_eq_false hb103))) ?_
             refine rk_skip ?_
             refine rk_seq ?_
             refine rk_seq ?_
             refine rk_reg ?_
             refine lw_v (.int .i64 (1 + ((hitR l xs x y u).length : Int))) (dv_move (T rfl rfl)) ?_
             refine lw_v (.int .i64 (1 + ((hitR l xs x y u).length : Int))) (dv_move (T rfl rfl)) ?_
             refine lw_v (.bool (decide ((1 + ((hitR l xs x y u).length : Int)) ≠ (1 + ((hitR l xs x y u).length : Int))))) (dv_neq (a := 1 + ((hitR l xs x y u).length : Int)) (b := 1 + ((hitR l xs x y u).length : Int)) (T rfl rfl) (T rfl rfl)) ?_
             refine lw_nil ?_
             refine rk_cf (T rfl (congrArg Value.bool (decide_eq_false hb104))) ?_
             refine rk_skip ?_
             refine rk_seq ?_
             refine rk_reg ?_
             refine lw_v (.bool true) (dv_assign C) ?_
             refine lw_nil ?_
             refine rk_ret Try.func13 (v := .bool true) (res1 Try.results13 (rv_tmp rfl rfl)) ⟨_, rfl, ?_⟩
             exact ⟨rfl, E144⟩
     · refine rk_ct (T rfl (congrArg Value.bool (decide_eq_true hb81))) ?_
       refine rk_seq ?_
       refine rk_reg ?_
       refine lw_v (.bool false) (dv_assign C) ?_
       refine lw_nil ?_
       refine rk_ret Try.func13 (v := .bool false) (res1 Try.results13 (rv_tmp rfl rfl)) ⟨_, rfl, ?_⟩
       exact ⟨(by exfalso; first | contradiction | exact absurd rfl (by assumption) | omega), E80⟩
   · refine rk_ct (T rfl (congrArg Value.bool (decide_eq_true hb65))) ?_
     refine rk_seq ?_
     refine rk_reg ?_
     refine lw_v (.bool false) (dv_assign C) ?_
     refine lw_nil ?_
     refine rk_ret Try.func13 (v := .bool false) (res1 Try.results13 (rv_tmp rfl rfl)) ⟨_, rfl, ?_⟩
     exact ⟨(by exfalso; first | contradiction | exact absurd rfl (by assumption) | omega), E64⟩
theorem lawHitAt_w {w : World} {x3 x2 x1 x0 y3 y2 y1 y0 u3 u2 u1 u0 : Int} {A : Option Addr} {l c : Nat} {xs : List Int} (hx : RdI w .i64 A xs) (hxl : xs.length = l * 4) (hxc : l ≤ c) (hxm : c ≤ 9223372036854775807) (hx3 : 0 ≤ x3 ∧ x3 < 18446744073709551616) (hx2 : 0 ≤ x2 ∧ x2 < 18446744073709551616) (hx1 : 0 ≤ x1 ∧ x1 < 18446744073709551616) (hx0 : 0 ≤ x0 ∧ x0 < 18446744073709551616) (hy3 : 0 ≤ y3 ∧ y3 < 18446744073709551616) (hy2 : 0 ≤ y2 ∧ y2 < 18446744073709551616) (hy1 : 0 ≤ y1 ∧ y1 < 18446744073709551616) (hy0 : 0 ≤ y0 ∧ y0 < 18446744073709551616) (hu3 : 0 ≤ u3 ∧ u3 < 18446744073709551616) (hu2 : 0 ≤ u2 ∧ u2 < 18446744073709551616) (hu1 : 0 ≤ u1 ∧ u1 < 18446744073709551616) (hu0 : 0 ≤ u0 ∧ u0 < 18446744073709551616) : Ct Try.prog 13 [.slice A l c, .agg #[.int .u64 x3, .int .u64 x2, .int .u64 x1, .int .u64 x0, .int .u64 y3, .int .u64 y2, .int .u64 y1, .int .u64 y0, .int .u64 u3, .int .u64 u2, .int .u64 u1, .int .u64 u0]] w fun v w1 => v = .bool true ∧ Ext w w1 := by
 obtain ⟨x, fx, rfl, rfl, rfl, rfl⟩ := words_z hx3 hx2 hx1 hx0
 obtain ⟨y, fy, rfl, rfl, rfl, rfl⟩ := words_z hy3 hy2 hy1 hy0
 obtain ⟨u, fu, rfl, rfl, rfl, rfl⟩ := words_z hu3 hu2 hu1 hu0
 exact lawHitAt_ok hx hxl hxc hxm fx fy fu
end Go.Proofs.Ytdanhdbanfpghaa.W
