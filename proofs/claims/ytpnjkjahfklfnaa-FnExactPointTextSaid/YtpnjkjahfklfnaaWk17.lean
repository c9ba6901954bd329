/- Wk17: walks, written by a program of this session. -/
import Derived.Test.YtpnjkjahfklfnaaWk16
set_option linter.unusedVariables false
set_option linter.unusedSimpArgs false
namespace Go.Proofs.Ytpnjkjahfklfnaa.W
open Go Go.RowKit Go.Proofs.Ytpnjkjahfklfnaa.Fw
attribute [local irreducible] RunK LW AW DV OE Ct
theorem co107 : callOk Try.prog 107 = true := by kernel_rfl
theorem co109 : callOk Try.prog 109 = true := by kernel_rfl
theorem co126 : callOk Try.prog 126 = true := by kernel_rfl
theorem co60 : callOk Try.prog 60 = true := by kernel_rfl
set_option maxHeartbeats 1000000 in
theorem over_ok {w : World} {na : Bool} {Aa : Option Addr} {la ca : Nat} {x : Int} {sx : Nat} (ha : Num 64 22 .u64 w na Aa la ca x sx) {nb : Bool} {Ab : Option Addr} {lb cb : Nat} {y : Int} {sy : Nat} (hb : Num 64 22 .u64 w nb Ab lb cb y sy) (hy : y ≠ 0) (hs : sx ≤ 200000) (hs2 : sy ≤ 200000) : Ct Try.prog 113 [.agg #[.bool na, .slice Aa la ca], .agg #[.bool nb, .slice Ab lb cb]] w fun v w1 => ∃ n1 A1 l1 c1 n2 A2 l2 c2, v = .tuple #[.agg #[.bool n1, .slice A1 l1 c1], .agg #[.bool n2, .slice A2 l2 c2]] ∧ Ext w w1 ∧ Num 64 22 .u64 w1 n1 A1 l1 c1 (x / y) sx ∧ Num 64 22 .u64 w1 n2 A2 l2 c2 (x % y) sy := by
  refine ct_run (n := 45) Try.func113 rfl Try.ntmps113 rfl ?_
  have E0 : Below w.heap.size w w := Below.refl _ _
  have lha := Num.len (by decide) ha
  have lhb := Num.len (by decide) hb
  refine rk_seq ?_
  refine rk_reg ?_
  refine lw_e (oe_box (v := .agg #[.bool na, .slice Aa la ca]) (cs := #[.bool na, .slice Aa la ca]) (T rfl rfl) rfl ?_)
  intro b1 w2 n3
  have N4 : w.heap.size ≤ b1 := n3.eq ▸ E0.size
  have E5 := below_ext E0 E0.size n3.ext
  refine lw_e (oe_box (v := .agg #[.bool nb, .slice Ab lb cb]) (cs := #[.bool nb, .slice Ab lb cb]) (T rfl rfl) rfl ?_)
  intro b6 w7 n8
  have N9 : w.heap.size ≤ b6 := n8.eq ▸ E5.size
  have : b1 < b6 := n8.eq ▸ lt_of_blk n3.blk
  have E10 := below_ext E5 E5.size n8.ext
  refine lw_e (oe_alloc ze69 ?_)
  intro b11 w12 n13
  have N14 : w.heap.size ≤ b11 := n13.eq ▸ E10.size
  have : b6 < b11 := n13.eq ▸ lt_of_blk n8.blk
  have E15 := below_ext E10 E10.size n13.ext
  refine lw_e (oe_alloc ze69 ?_)
  intro b16 w17 n18
  have N19 : w.heap.size ≤ b16 := n18.eq ▸ E15.size
  have : b11 < b16 := n18.eq ▸ lt_of_blk n13.blk
  have E20 := below_ext E15 E15.size n18.ext
  refine lw_nil ?_
  refine rk_seq ?_
  refine rk_reg ?_
  refine lw_v (.pointer (some ⟨b1, 1, none⟩)) (dv_fieldAddr (a := ⟨b1, 0, none⟩) (a' := ⟨b1, 1, none⟩) fo69_1 (T rfl rfl) rfl) ?_
  have H21 := (n18.ext.blk (n13.ext.blk (n8.ext.blk n3.blk)))
  refine lw_v (.slice Aa la ca) (dv_load1 (b := b1) (o := 1) agt67 (T rfl rfl) H21 rfl) ?_
  refine lw_v (.pointer (some ⟨b6, 1, none⟩)) (dv_fieldAddr (a := ⟨b6, 0, none⟩) (a' := ⟨b6, 1, none⟩) fo69_1 (T rfl rfl) rfl) ?_
  have H22 := (n18.ext.blk (n13.ext.blk n8.blk))
  refine lw_v (.slice Ab lb cb) (dv_load1 (b := b6) (o := 1) agt67 (T rfl rfl) H22 rfl) ?_
  have h23 := ((((ha.ext n3.ext).ext n8.ext).ext n13.ext).ext n18.ext)
  have h24 := ((((hb.ext n3.ext).ext n8.ext).ext n13.ext).ext n18.ext)
  refine lw_e (oe_callf (vs := [.slice Aa la ca, .slice Ab lb cb]) co109 (ar2 (T rfl rfl) (T rfl rfl)) (divWords_ok h23.wc h24.wc (by omega) (by first | omega | (simp; done) | (simp; omega)) (by first | omega | (simp; done) | (simp; omega))) ?_)
  rintro _ w33 ⟨A25, n26, c27, A28, n29, c30, rfl, e34, h31, h32⟩
  have E35 := below_ext E20 E20.size e34
  have lh31 := Wc.len (by decide) h31 (div_sz (Wc.nonneg h23.wc) (by omega) h23.ltI)
  have lh32 := Wc.len (by decide) h32 (mod_sz (by omega) h24.ltI)
  refine lw_v (.tuple #[.slice A25 n26 c27, .slice A28 n29 c30]) (dv_move (T rfl rfl)) ?_
  refine lw_v (.slice A25 n26 c27) (dv_extract (vs := #[.slice A25 n26 c27, .slice A28 n29 c30]) (T rfl rfl) rfl) ?_
  refine lw_v (.slice A28 n29 c30) (dv_extract (vs := #[.slice A25 n26 c27, .slice A28 n29 c30]) (T rfl rfl) rfl) ?_
  refine lw_v (.slice A25 n26 c27) (dv_assign (T rfl rfl)) ?_
  refine lw_v (.slice A28 n29 c30) (dv_assign (T rfl rfl)) ?_
  refine lw_nil ?_
  refine rk_seq ?_
  have H36 := (e34.blk H21)
  have : b1 < w33.heap.size := lt_of_blk H36
  have H37 := (e34.blk H22)
  have : b6 < w33.heap.size := lt_of_blk H37
  have H38 := (e34.blk (n18.ext.blk n13.blk))
  have : b11 < w33.heap.size := lt_of_blk H38
  have H39 := (e34.blk n18.blk)
  have : b16 < w33.heap.size := lt_of_blk H39
  have : w.heap.size ≤ w33.heap.size := E35.size
  refine rk_par2 [fun vq wq_ => vq = .pointer (some ⟨b1, 0, none⟩), fun vq wq_ => vq = .bool na, fun vq wq_ => vq = .pointer (some ⟨b6, 0, none⟩), fun vq wq_ => vq = .bool nb, fun vq wq_ => vq = .bool (na != nb), fun vq wq_ => vq = .slice A25 n26 c27, fun vq wq_ => ∃ (nb91 : Bool) (n92 : Nat), vq = .agg #[.bool nb91, .slice A25 n92 c27] ∧ Num 64 22 .u64 wq_ nb91 A25 n92 c27 (sg (na != nb) (((x.natAbs : Int)) / ((y.natAbs : Int)))) sx, fun vq wq_ => vq = .pointer (some ⟨b1, 0, none⟩), fun vq wq_ => vq = .bool na, fun vq wq_ => vq = .slice A28 n29 c30, fun vq wq_ => ∃ (nb126 : Bool) (n127 : Nat), vq = .agg #[.bool nb126, .slice A28 n127 c30] ∧ Num 64 22 .u64 wq_ nb126 A28 n127 c30 (sg na (((x.natAbs : Int)) % ((y.natAbs : Int)))) sy, fun _ _ => True, fun _ _ => True, fun _ _ => True, fun _ _ => True] [⟨11, 13, 6, 69, #[.bool false, .slice none 0 0]⟩, ⟨12, 14, 10, 69, #[.bool false, .slice none 0 0]⟩] [69] mo (by kernel_rfl) (by kernel_rfl) ?_ ?_ ?_ ?_ ?_
  · intro e he e2 he2 h; simp only [List.mem_cons, List.not_mem_nil, or_false] at he he2; rcases he with rfl | rfl <;> rcases he2 with rfl | rfl <;> first | rfl | exact absurd h (by decide)
  · exact ⟨⟨fun v w w2 e h => h, fun v w w2 b cs T fz s hb hT h => h⟩, ⟨fun v w w2 e h => h, fun v w w2 b cs T fz s hb hT h => h⟩, ⟨fun v w w2 e h => h, fun v w w2 b cs T fz s hb hT h => h⟩, ⟨fun v w w2 e h => h, fun v w w2 b cs T fz s hb hT h => h⟩, ⟨fun v w w2 e h => h, fun v w w2 b cs T fz s hb hT h => h⟩, ⟨fun v w w2 e h => h, fun v w w2 b cs T fz s hb hT h => h⟩, ⟨fun v w w2 e ⟨nb91, n92, hv, h0_⟩ => ⟨nb91, n92, hv, h0_.ext e⟩, fun v w w2 b cs T fz s hb hT ⟨nb91, n92, hv, h0_⟩ => ⟨nb91, n92, hv, h0_.st s hb (ts_ne hT (by decide))⟩⟩, ⟨fun v w w2 e h => h, fun v w w2 b cs T fz s hb hT h => h⟩, ⟨fun v w w2 e h => h, fun v w w2 b cs T fz s hb hT h => h⟩, ⟨fun v w w2 e h => h, fun v w w2 b cs T fz s hb hT h => h⟩, ⟨fun v w w2 e ⟨nb126, n127, hv, h0_⟩ => ⟨nb126, n127, hv, h0_.ext e⟩, fun v w w2 b cs T fz s hb hT ⟨nb126, n127, hv, h0_⟩ => ⟨nb126, n127, hv, h0_.st s hb (ts_ne hT (by decide))⟩⟩, ⟨fun v w w2 e h => h, fun v w w2 b cs T fz s hb hT h => h⟩, ⟨fun v w w2 e h => h, fun v w w2 b cs T fz s hb hT h => h⟩, ⟨fun v w w2 e h => h, fun v w w2 b cs T fz s hb hT h => h⟩, ⟨fun v w w2 e h => h, fun v w w2 b cs T fz s hb hT h => h⟩, trivial⟩
  · refine ⟨?_, ?_, ?_, ?_, ?_, ?_, ?_, ?_, ?_, ?_, ?_, ?_, ?_, ?_, ?_, trivial⟩
    · refine .inr ⟨by kernel_rfl, ?_⟩
      intro fr41 w40 e42 hF43 hD44
      have E45 := below_ext E35 E35.size e42
      exact DV.oe (dv_fieldAddr (a := ⟨b1, 0, none⟩) (a' := ⟨b1, 0, none⟩) fo69_0 (T rfl (hF43 2 (by kernel_rfl))) rfl) ⟨Below.refl _ _, rfl⟩
    · refine .inr ⟨by kernel_rfl, ?_⟩
      intro fr47 w46 e48 hF49 hD50
      have E51 := below_ext E35 E35.size e48
      have hv52 : fr47 18 = .pointer (some ⟨b1, 0, none⟩) := hD50 0 _ (by kernel_rfl) rfl (by kernel_rfl)
      have H53 := (e48.blk H36)
      exact DV.oe (dv_load1 (b := b1) (o := 0) agt4 (T rfl hv52) H53 rfl) ⟨Below.refl _ _, rfl⟩
    · refine .inr ⟨by kernel_rfl, ?_⟩
      intro fr55 w54 e56 hF57 hD58
      have E59 := below_ext E35 E35.size e56
      exact DV.oe (dv_fieldAddr (a := ⟨b6, 0, none⟩) (a' := ⟨b6, 0, none⟩) fo69_0 (T rfl (hF57 3 (by kernel_rfl))) rfl) ⟨Below.refl _ _, rfl⟩
    · refine .inr ⟨by kernel_rfl, ?_⟩
      intro fr61 w60 e62 hF63 hD64
      have E65 := below_ext E35 E35.size e62
      have hv66 : fr61 20 = .pointer (some ⟨b6, 0, none⟩) := hD64 2 _ (by kernel_rfl) rfl (by kernel_rfl)
      have H67 := (e62.blk H37)
      exact DV.oe (dv_load1 (b := b6) (o := 0) agt4 (T rfl hv66) H67 rfl) ⟨Below.refl _ _, rfl⟩
    · refine .inr ⟨by kernel_rfl, ?_⟩
      intro fr69 w68 e70 hF71 hD72
      have E73 := below_ext E35 E35.size e70
      have hv74 : fr69 19 = .bool na := hD72 1 _ (by kernel_rfl) rfl (by kernel_rfl)
      have hv75 : fr69 21 = .bool nb := hD72 3 _ (by kernel_rfl) rfl (by kernel_rfl)
      exact DV.oe (dv_neqb (a := na) (b := nb) ub4 (T rfl hv74) (T rfl hv75)) ⟨Below.refl _ _, rfl⟩
    · refine .inr ⟨by kernel_rfl, ?_⟩
      intro fr77 w76 e78 hF79 hD80
      have E81 := below_ext E35 E35.size e78
      exact DV.oe (dv_move (T rfl (hF79 6 (by kernel_rfl)))) ⟨Below.refl _ _, rfl⟩
    · refine .inr ⟨by kernel_rfl, ?_⟩
      intro fr83 w82 e84 hF85 hD86
      have E87 := below_ext E35 E35.size e84
      have hv88 : fr83 22 = .bool (na != nb) := hD86 4 _ (by kernel_rfl) rfl (by kernel_rfl)
      have hv89 : fr83 23 = .slice A25 n26 c27 := hD86 5 _ (by kernel_rfl) rfl (by kernel_rfl)
      have h90 := (h31.ext e84)
      refine id (oe_callf (vs := [.bool (na != nb), .slice A25 n26 c27]) co92 (ar2 (T rfl hv88) (T rfl hv89)) (made_num (s := sx) (neg := na != nb) h90.ws (by first | omega | (simp; done) | (simp; omega)) (div_sz (Wc.nonneg h23.wc) (by omega) h23.ltI)) ?_)
      rintro _ w94 ⟨nb91, n92, rfl, e95, hn93⟩
      have E96 := below_ext E87 E87.size e95
      have lhn93 := Num.len (by decide) hn93
      exact ⟨e95, nb91, n92, rfl, hn93⟩
    · refine .inr ⟨by kernel_rfl, ?_⟩
      intro fr98 w97 e99 hF100 hD101
      have E102 := below_ext E35 E35.size e99
      exact DV.oe (dv_fieldAddr (a := ⟨b1, 0, none⟩) (a' := ⟨b1, 0, none⟩) fo69_0 (T rfl (hF100 2 (by kernel_rfl))) rfl) ⟨Below.refl _ _, rfl⟩
    · refine .inr ⟨by kernel_rfl, ?_⟩
      intro fr104 w103 e105 hF106 hD107
      have E108 := below_ext E35 E35.size e105
      have hv109 : fr104 25 = .pointer (some ⟨b1, 0, none⟩) := hD107 7 _ (by kernel_rfl) rfl (by kernel_rfl)
      have H110 := (e105.blk H36)
      exact DV.oe (dv_load1 (b := b1) (o := 0) agt4 (T rfl hv109) H110 rfl) ⟨Below.refl _ _, rfl⟩
    · refine .inr ⟨by kernel_rfl, ?_⟩
      intro fr112 w111 e113 hF114 hD115
      have E116 := below_ext E35 E35.size e113
      exact DV.oe (dv_move (T rfl (hF114 7 (by kernel_rfl)))) ⟨Below.refl _ _, rfl⟩
    · refine .inr ⟨by kernel_rfl, ?_⟩
      intro fr118 w117 e119 hF120 hD121
      have E122 := below_ext E35 E35.size e119
      have hv123 : fr118 26 = .bool na := hD121 8 _ (by kernel_rfl) rfl (by kernel_rfl)
      have hv124 : fr118 27 = .slice A28 n29 c30 := hD121 9 _ (by kernel_rfl) rfl (by kernel_rfl)
      have h125 := (h32.ext e119)
      refine id (oe_callf (vs := [.bool na, .slice A28 n29 c30]) co92 (ar2 (T rfl hv123) (T rfl hv124)) (made_num (s := sy) (neg := na) h125.ws (by first | omega | (simp; done) | (simp; omega)) (mod_sz (by omega) h24.ltI)) ?_)
      rintro _ w129 ⟨nb126, n127, rfl, e130, hn128⟩
      have E131 := below_ext E122 E122.size e130
      have lhn128 := Num.len (by decide) hn128
      exact ⟨e130, nb126, n127, rfl, hn128⟩
    · exact .inl (.inr ⟨by kernel_rfl, fun _ _ => trivial⟩)
    · exact .inl (.inr ⟨by kernel_rfl, fun _ _ => trivial⟩)
    · exact .inl (.inl (by kernel_rfl))
    · exact .inl (.inl (by kernel_rfl))
  · refine ⟨⟨⟨_, rfl, fun _ _ => oe_alloc ze69 fun b w hn => ⟨b, rfl, hn⟩⟩, ⟨_, rfl, ?_⟩⟩, ⟨⟨_, rfl, fun _ _ => oe_alloc ze69 fun b w hn => ⟨b, rfl, hn⟩⟩, ⟨_, rfl, ?_⟩⟩, trivial⟩
    · intro fr133 w132 b137 e134 hF135 hD136 hA138 hB139
      have E140 := below_ext E35 E35.size e134
      obtain ⟨nb141, n142, hv143, hp144⟩ : ∃ (nb91 : Bool) (n92 : Nat), fr133 24 = .agg #[.bool nb91, .slice A25 n92 c27] ∧ Num 64 22 .u64 w132 nb91 A25 n92 c27 (sg (na != nb) (((x.natAbs : Int)) / ((y.natAbs : Int)))) sx := hD136 6 _ (by kernel_rfl) rfl (by kernel_rfl)
      have lhp144 := Num.len (by decide) hp144
      refine id (oe_store (v := .agg #[.bool nb141, .slice A25 n142 c27]) (vs := [.bool nb141, .slice A25 n142 c27]) (l := [.bool nb141, .slice A25 n142 c27]) (T rfl hA138) (T rfl hv143) sz69 rfl rfl rfl hB139 rfl ?_)
      intro w145 s146 H147
      exact ⟨s146, H147.trans (congrArg (fun v : Value => some (Obj.cells v.cells 69)) (show fr133 24 = _ from hv143).symm)⟩
    · intro fr150 w149 b154 e151 hF152 hD153 hA155 hB156
      have E157 := below_ext E35 E35.size e151
      obtain ⟨nb158, n159, hv160, hp161⟩ : ∃ (nb126 : Bool) (n127 : Nat), fr150 28 = .agg #[.bool nb126, .slice A28 n127 c30] ∧ Num 64 22 .u64 w149 nb126 A28 n127 c30 (sg na (((x.natAbs : Int)) % ((y.natAbs : Int)))) sy := hD153 10 _ (by kernel_rfl) rfl (by kernel_rfl)
      have lhp161 := Num.len (by decide) hp161
      refine id (oe_store (v := .agg #[.bool nb158, .slice A28 n159 c30]) (vs := [.bool nb158, .slice A28 n159 c30]) (l := [.bool nb158, .slice A28 n159 c30]) (T rfl hA155) (T rfl hv160) sz69 rfl rfl rfl hB156 rfl ?_)
      intro w162 s163 H164
      exact ⟨s163, H164.trans (congrArg (fun v : Value => some (Obj.cells v.cells 69)) (show fr150 28 = _ from hv160).symm)⟩
  intro fr167 w166 e168 hF169 hP170 hM171 hN172
  have E173 := below_ext E35 E35.size e168
  obtain ⟨_, _, _, _, _, _, p174, _, _, _, p175, _, _, _, _, _⟩ := hP170
  obtain ⟨nb176, n177, hv178, hp179⟩ : ∃ (nb91 : Bool) (n92 : Nat), fr167 24 = .agg #[.bool nb91, .slice A25 n92 c27] ∧ Num 64 22 .u64 w166 nb91 A25 n92 c27 (sg (na != nb) (((x.natAbs : Int)) / ((y.natAbs : Int)))) sx := p174.resolve_left (nst (by kernel_rfl))
  have lhp179 := Num.len (by decide) hp179
  obtain ⟨nb180, n181, hv182, hp183⟩ : ∃ (nb126 : Bool) (n127 : Nat), fr167 28 = .agg #[.bool nb126, .slice A28 n127 c30] ∧ Num 64 22 .u64 w166 nb126 A28 n127 c30 (sg na (((x.natAbs : Int)) % ((y.natAbs : Int)))) sy := p175.resolve_left (nst (by kernel_rfl))
  have lhp183 := Num.len (by decide) hp183
  obtain ⟨⟨b184, hA185, hB186, hC187⟩, ⟨b188, hA189, hB190, hC191⟩, _⟩ := hM171
  have H192 : w166.heap[b184]? = some (.cells #[.bool nb176, .slice A25 n177 c27] 69) := hC187.trans (congrArg (fun v : Value => some (Obj.cells v.cells 69)) hv178)
  have N193 : w.heap.size ≤ b184 := by omega
  have H194 : w166.heap[b188]? = some (.cells #[.bool nb180, .slice A28 n181 c30] 69) := hC191.trans (congrArg (fun v : Value => some (Obj.cells v.cells 69)) hv182)
  have N195 : w.heap.size ≤ b188 := by omega
  have : b188 ≠ b184 := fun hh => hN172 _ (.tail _ (.head _)) _ (.head _) (by decide) (hA189.trans ((congrArg (fun q => Value.pointer (some ⟨q, 0, none⟩)) hh).trans hA185.symm))
  refine rk_seq ?_
  refine rk_seq ?_
  have hrn := hp183.neg_iff
  refine rk_reg ?_
  refine lw_v (.pointer (some ⟨b188, 0, none⟩)) (dv_fieldAddr (a := ⟨b188, 0, none⟩) (a' := ⟨b188, 0, none⟩) fo69_0 (T rfl hA189) rfl) ?_
  refine lw_v (.bool nb180) (dv_load1 (b := b188) (o := 0) agt4 (T rfl rfl) H194 rfl) ?_
  refine lw_nil ?_
  rcases Bool.eq_false_or_eq_true (nb180) with hb196 | hb196
  · -- T
    refine rk_ct (T rfl (congrArg Value.bool hb196)) ?_
    refine rk_seq ?_
    refine rk_any (fun w => w.heap[b188]? = some (.cells #[.bool nb180, .slice A28 n181 c30] 69) ∧ w.heap[b6]? = some (.cells #[.bool nb, .slice Ab lb cb] 69)) [4] mo ?_
    intro w197 d198
    have E199 := below_ext E173 E173.size d198.ext
    have H200 := (d198.ext.blk H194)
    have H201 := (d198.ext.blk (e168.blk H37))
    refine aw_load 0 (.agg #[.bool nb180, .slice A28 n181 c30]) rfl (by kernel_rfl) .none ⟨H200, H201⟩ (fun _ s => dv_loads (l := [.bool nb180, .slice A28 n181 c30]) agt69 sz69 (T rfl hA189) s.1 rfl) ?_
    refine aw_load 1 (.agg #[.bool nb, .slice Ab lb cb]) rfl (by kernel_rfl) .none ⟨H200, H201⟩ (fun _ s => dv_loads (l := [.bool nb, .slice Ab lb cb]) agt69 sz69 (T rfl (hF169 3 rfl)) s.2 rfl) ?_
    have h202 := (((h24.ext e34).ext e168).ext d198.ext)
    refine aw_one 2 rfl (by kernel_rfl) .none (oe_callf (vs := [.agg #[.bool nb, .slice Ab lb cb]]) co126 (ar1 (T rfl rfl)) (nabs_ok h202 ) ?_)
    rintro _ w208 ⟨nr203, A204, n205, c206, rfl, e209, h207⟩
    have E210 := below_ext E199 E199.size e209
    have lh207 := Num.len (by decide) h207
    have H211 := (e209.blk H200)
    have H212 := (e209.blk H201)
    refine ⟨.inr ⟨H211, H212⟩, ?_⟩
    have h213 := ((hp183.ext d198.ext).ext e209)
    refine aw_one 3 rfl (by kernel_rfl) .none (oe_callf (vs := [.agg #[.bool nb180, .slice A28 n181 c30], .agg #[.bool nr203, .slice A204 n205 c206]]) co100 (ar2 (T rfl rfl) (T rfl rfl)) (plus_ok h213 h207 (by first | decide | omega) (by first | decide | omega)) ?_)
    rintro _ w219 ⟨nr214, A215, n216, c217, rfl, e220, h218⟩
    have E221 := below_ext E210 E210.size e220
    have lh218 := Num.len (by decide) h218
    have H222 := (e220.blk H211)
    have H223 := (e220.blk H212)
    refine ⟨.inr ⟨H222, H223⟩, ?_⟩
    refine aw_one 4 rfl (by kernel_rfl) .none (oe_store (v := .agg #[.bool nr214, .slice A215 n216 c217]) (vs := [.bool nr214, .slice A215 n216 c217]) (l := [.bool nr214, .slice A215 n216 c217]) (T rfl hA189) (T rfl rfl) sz69 rfl rfl rfl H222 rfl ?_)
    intro w224 s225 H226
    have E227 := below_st E221 N195 s225
    refine ⟨.inl rfl, ?_⟩
    refine aw_done (by kernel_rfl) ?_
    refine rk_seq ?_
    refine rk_reg ?_
    refine lw_v (.pointer (some ⟨b6, 0, none⟩)) (dv_fieldAddr (a := ⟨b6, 0, none⟩) (a' := ⟨b6, 0, none⟩) fo69_0 (T rfl (hF169 3 rfl)) rfl) ?_
    have H228 := (s225.blk H223 (by omega))
    refine lw_v (.bool nb) (dv_load1 (b := b6) (o := 0) agt4 (T rfl rfl) H228 rfl) ?_
    refine lw_nil ?_
    rcases Bool.eq_false_or_eq_true (nb) with hb229 | hb229
    · -- TT
      refine rk_ct (T rfl (congrArg Value.bool hb229)) ?_
      refine rk_any (fun w => w.heap[b184]? = some (.cells #[.bool nb176, .slice A25 n177 c27] 69)) [3] mo ?_
      intro w230 d231
      have E232 := below_ext E227 E227.size d231.ext
      have H233 := (d231.ext.blk (s225.blk (e220.blk (e209.blk (d198.ext.blk H192))) (by omega)))
      refine aw_load 0 (.agg #[.bool nb176, .slice A25 n177 c27]) rfl (by kernel_rfl) .none H233 (fun _ s => dv_loads (l := [.bool nb176, .slice A25 n177 c27]) agt69 sz69 (T rfl hA185) s rfl) ?_
      refine aw_one 1 rfl (by kernel_rfl) .none (oe_callf (vs := [.int .i64 1]) co77 (ar1 C) (whole_ok  (by omega)) ?_)
      rintro _ w239 ⟨nr234, A235, n236, c237, rfl, e240, h238⟩
      have E241 := below_ext E232 E232.size e240
      have lh238 := Num.len (by decide) h238
      have H242 := (e240.blk H233)
      refine ⟨.inr H242, ?_⟩
      have h243 := ((((((hp179.ext d198.ext).ext e209).ext e220).st s225 H222 (by decide)).ext d231.ext).ext e240)
      refine aw_one 2 rfl (by kernel_rfl) .none (oe_callf (vs := [.agg #[.bool nb176, .slice A25 n177 c27], .agg #[.bool nr234, .slice A235 n236 c237]]) co100 (ar2 (T rfl rfl) (T rfl rfl)) (plus_ok h243 h238 (by first | decide | omega) (by first | decide | omega)) ?_)
      rintro _ w249 ⟨nr244, A245, n246, c247, rfl, e250, h248⟩
      have E251 := below_ext E241 E241.size e250
      have lh248 := Num.len (by decide) h248
      have H252 := (e250.blk H242)
      refine ⟨.inr H252, ?_⟩
      refine aw_one 3 rfl (by kernel_rfl) .none (oe_store (v := .agg #[.bool nr244, .slice A245 n246 c247]) (vs := [.bool nr244, .slice A245 n246 c247]) (l := [.bool nr244, .slice A245 n246 c247]) (T rfl hA185) (T rfl rfl) sz69 rfl rfl rfl H252 rfl ?_)
      intro w253 s254 H255
      have E256 := below_st E251 N193 s254
      refine ⟨.inl rfl, ?_⟩
      refine aw_done (by kernel_rfl) ?_
      refine rk_seq ?_
      refine rk_any (fun w => w.heap[b184]? = some (.cells #[.bool nr244, .slice A245 n246 c247] 69) ∧ w.heap[b188]? = some (.cells #[.bool nr214, .slice A215 n216 c217] 69)) [3] mo ?_
      intro w257 d258
      have E259 := below_ext E256 E256.size d258.ext
      have H260 := (d258.ext.blk H255)
      have H261 := (d258.ext.blk (s254.blk (e250.blk (e240.blk (d231.ext.blk H226))) (by omega)))
      refine aw_load 0 (.agg #[.bool nr244, .slice A245 n246 c247]) rfl (by kernel_rfl) .none ⟨H260, H261⟩ (fun _ s => dv_loads (l := [.bool nr244, .slice A245 n246 c247]) agt69 sz69 (T rfl hA185) s.1 rfl) ?_
      refine aw_load 1 (.agg #[.bool nr214, .slice A215 n216 c217]) rfl (by kernel_rfl) .none ⟨H260, H261⟩ (fun _ s => dv_loads (l := [.bool nr214, .slice A215 n216 c217]) agt69 sz69 (T rfl hA189) s.2 rfl) ?_
      have H262 := (d258.ext.blk (s254.blk (e250.blk (e240.blk (d231.ext.blk (s225.blk (e220.blk (e209.blk (d198.ext.blk (e168.blk H38)))) (by omega))))) (by omega)))
      refine aw_one 2 rfl (by kernel_rfl) .none (oe_store (v := .agg #[.bool nr244, .slice A245 n246 c247]) (vs := [.bool nr244, .slice A245 n246 c247]) (l := [.bool nr244, .slice A245 n246 c247]) (T rfl (hF169 4 rfl)) (T rfl rfl) sz69 rfl rfl rfl H262 rfl ?_)
      intro w263 s264 H265
      have E266 := below_st E259 N14 s264
      have H267 := (s264.blk H260 (by omega))
      have H268 := (s264.blk H261 (by omega))
      refine ⟨.inr ⟨H267, H268⟩, ?_⟩
      have H269 := (s264.blk (d258.ext.blk (s254.blk (e250.blk (e240.blk (d231.ext.blk (s225.blk (e220.blk (e209.blk (d198.ext.blk (e168.blk H39)))) (by omega))))) (by omega))) (by omega))
      refine aw_one 3 rfl (by kernel_rfl) .none (oe_store (v := .agg #[.bool nr214, .slice A215 n216 c217]) (vs := [.bool nr214, .slice A215 n216 c217]) (l := [.bool nr214, .slice A215 n216 c217]) (T rfl (hF169 5 rfl)) (T rfl rfl) sz69 rfl rfl rfl H269 rfl ?_)
      intro w270 s271 H272
      have E273 := below_st E266 N19 s271
      refine ⟨.inl rfl, ?_⟩
      refine aw_done (by kernel_rfl) ?_
      have H274 := (s271.blk H265 (by omega))
      refine rk_ret Try.func113 (v := .tuple #[.agg #[.bool nr244, .slice A245 n246 c247], .agg #[.bool nr214, .slice A215 n216 c217]]) (res2 Try.results113 (rv_cells (l := [.bool nr244, .slice A245 n246 c247]) agt69 sz69 rfl (hF169 4 rfl) H274 rfl) (rv_cells (l := [.bool nr214, .slice A215 n216 c217]) agt69 sz69 rfl (hF169 5 rfl) H272 rfl)) ⟨_, rfl, ?_⟩
      have h275 := ((((h248.st s254 H252 (by decide)).ext d258.ext).st s264 H262 (by decide)).st s271 H269 (by decide))
      have h276 := ((((((((h218.st s225 H222 (by decide)).ext d231.ext).ext e240).ext e250).st s254 H252 (by decide)).ext d258.ext).st s264 H262 (by decide)).st s271 H269 (by decide))
      have hov := over_neg ha.neg_iff hb.neg_iff hy (by exact hrn.1 (by assumption))
      exact ⟨_, _, _, _, _, _, _, _, rfl, E273, h275.tight (by rw [← hov.1, if_pos (by assumption)]) (natAbs_div_lt ha.lt), h276.tight hov.2 (natAbs_mod_lt hb.lt hy)⟩
    · -- TF
      refine rk_cf (T rfl (congrArg Value.bool hb229)) ?_
      refine rk_any (fun w => w.heap[b184]? = some (.cells #[.bool nb176, .slice A25 n177 c27] 69)) [3] mo ?_
      intro w277 d278
      have E279 := below_ext E227 E227.size d278.ext
      have H280 := (d278.ext.blk (s225.blk (e220.blk (e209.blk (d198.ext.blk H192))) (by omega)))
      refine aw_load 0 (.agg #[.bool nb176, .slice A25 n177 c27]) rfl (by kernel_rfl) .none H280 (fun _ s => dv_loads (l := [.bool nb176, .slice A25 n177 c27]) agt69 sz69 (T rfl hA185) s rfl) ?_
      refine aw_one 1 rfl (by kernel_rfl) .none (oe_callf (vs := [.int .i64 1]) co77 (ar1 C) (whole_ok  (by omega)) ?_)
      rintro _ w286 ⟨nr281, A282, n283, c284, rfl, e287, h285⟩
      have E288 := below_ext E279 E279.size e287
      have lh285 := Num.len (by decide) h285
      have H289 := (e287.blk H280)
      refine ⟨.inr H289, ?_⟩
      have h290 := ((((((hp179.ext d198.ext).ext e209).ext e220).st s225 H222 (by decide)).ext d278.ext).ext e287)
      refine aw_one 2 rfl (by kernel_rfl) .none (oe_callf (vs := [.agg #[.bool nb176, .slice A25 n177 c27], .agg #[.bool nr281, .slice A282 n283 c284]]) co111 (ar2 (T rfl rfl) (T rfl rfl)) (less_ok h290 h285 (by first | decide | omega) (by first | decide | omega)) ?_)
      rintro _ w296 ⟨nr291, A292, n293, c294, rfl, e297, h295⟩
      have E298 := below_ext E288 E288.size e297
      have lh295 := Num.len (by decide) h295
      have H299 := (e297.blk H289)
      refine ⟨.inr H299, ?_⟩
      refine aw_one 3 rfl (by kernel_rfl) .none (oe_store (v := .agg #[.bool nr291, .slice A292 n293 c294]) (vs := [.bool nr291, .slice A292 n293 c294]) (l := [.bool nr291, .slice A292 n293 c294]) (T rfl hA185) (T rfl rfl) sz69 rfl rfl rfl H299 rfl ?_)
      intro w300 s301 H302
      have E303 := below_st E298 N193 s301
      refine ⟨.inl rfl, ?_⟩
      refine aw_done (by kernel_rfl) ?_
      refine rk_seq ?_
      refine rk_any (fun w => w.heap[b184]? = some (.cells #[.bool nr291, .slice A292 n293 c294] 69) ∧ w.heap[b188]? = some (.cells #[.bool nr214, .slice A215 n216 c217] 69)) [3] mo ?_
      intro w304 d305
      have E306 := below_ext E303 E303.size d305.ext
      have H307 := (d305.ext.blk H302)
      have H308 := (d305.ext.blk (s301.blk (e297.blk (e287.blk (d278.ext.blk H226))) (by omega)))
      refine aw_load 0 (.agg #[.bool nr291, .slice A292 n293 c294]) rfl (by kernel_rfl) .none ⟨H307, H308⟩ (fun _ s => dv_loads (l := [.bool nr291, .slice A292 n293 c294]) agt69 sz69 (T rfl hA185) s.1 rfl) ?_
      refine aw_load 1 (.agg #[.bool nr214, .slice A215 n216 c217]) rfl (by kernel_rfl) .none ⟨H307, H308⟩ (fun _ s => dv_loads (l := [.bool nr214, .slice A215 n216 c217]) agt69 sz69 (T rfl hA189) s.2 rfl) ?_
      have H309 := (d305.ext.blk (s301.blk (e297.blk (e287.blk (d278.ext.blk (s225.blk (e220.blk (e209.blk (d198.ext.blk (e168.blk H38)))) (by omega))))) (by omega)))
      refine aw_one 2 rfl (by kernel_rfl) .none (oe_store (v := .agg #[.bool nr291, .slice A292 n293 c294]) (vs := [.bool nr291, .slice A292 n293 c294]) (l := [.bool nr291, .slice A292 n293 c294]) (T rfl (hF169 4 rfl)) (T rfl rfl) sz69 rfl rfl rfl H309 rfl ?_)
      intro w310 s311 H312
      have E313 := below_st E306 N14 s311
      have H314 := (s311.blk H307 (by omega))
      have H315 := (s311.blk H308 (by omega))
      refine ⟨.inr ⟨H314, H315⟩, ?_⟩
      have H316 := (s311.blk (d305.ext.blk (s301.blk (e297.blk (e287.blk (d278.ext.blk (s225.blk (e220.blk (e209.blk (d198.ext.blk (e168.blk H39)))) (by omega))))) (by omega))) (by omega))
      refine aw_one 3 rfl (by kernel_rfl) .none (oe_store (v := .agg #[.bool nr214, .slice A215 n216 c217]) (vs := [.bool nr214, .slice A215 n216 c217]) (l := [.bool nr214, .slice A215 n216 c217]) (T rfl (hF169 5 rfl)) (T rfl rfl) sz69 rfl rfl rfl H316 rfl ?_)
      intro w317 s318 H319
      have E320 := below_st E313 N19 s318
      refine ⟨.inl rfl, ?_⟩
      refine aw_done (by kernel_rfl) ?_
      have H321 := (s318.blk H312 (by omega))
      refine rk_ret Try.func113 (v := .tuple #[.agg #[.bool nr291, .slice A292 n293 c294], .agg #[.bool nr214, .slice A215 n216 c217]]) (res2 Try.results113 (rv_cells (l := [.bool nr291, .slice A292 n293 c294]) agt69 sz69 rfl (hF169 4 rfl) H321 rfl) (rv_cells (l := [.bool nr214, .slice A215 n216 c217]) agt69 sz69 rfl (hF169 5 rfl) H319 rfl)) ⟨_, rfl, ?_⟩
      have h322 := ((((h295.st s301 H299 (by decide)).ext d305.ext).st s311 H309 (by decide)).st s318 H316 (by decide))
      have h323 := ((((((((h218.st s225 H222 (by decide)).ext d278.ext).ext e287).ext e297).st s301 H299 (by decide)).ext d305.ext).st s311 H309 (by decide)).st s318 H316 (by decide))
      have hov := over_neg ha.neg_iff hb.neg_iff hy (by exact hrn.1 (by assumption))
      exact ⟨_, _, _, _, _, _, _, _, rfl, E320, h322.tight (by rw [← hov.1, if_neg (by simp [*])]; omega) (natAbs_div_lt ha.lt), h323.tight hov.2 (natAbs_mod_lt hb.lt hy)⟩
  · -- F
    refine rk_cf (T rfl (congrArg Value.bool hb196)) ?_
    refine rk_skip ?_
    refine rk_seq ?_
    refine rk_any (fun w => w.heap[b184]? = some (.cells #[.bool nb176, .slice A25 n177 c27] 69) ∧ w.heap[b188]? = some (.cells #[.bool nb180, .slice A28 n181 c30] 69)) [3] mo ?_
    intro w324 d325
    have E326 := below_ext E173 E173.size d325.ext
    have H327 := (d325.ext.blk H192)
    have H328 := (d325.ext.blk H194)
    refine aw_load 0 (.agg #[.bool nb176, .slice A25 n177 c27]) rfl (by kernel_rfl) .none ⟨H327, H328⟩ (fun _ s => dv_loads (l := [.bool nb176, .slice A25 n177 c27]) agt69 sz69 (T rfl hA185) s.1 rfl) ?_
    refine aw_load 1 (.agg #[.bool nb180, .slice A28 n181 c30]) rfl (by kernel_rfl) .none ⟨H327, H328⟩ (fun _ s => dv_loads (l := [.bool nb180, .slice A28 n181 c30]) agt69 sz69 (T rfl hA189) s.2 rfl) ?_
    have H329 := (d325.ext.blk (e168.blk H38))
    refine aw_one 2 rfl (by kernel_rfl) .none (oe_store (v := .agg #[.bool nb176, .slice A25 n177 c27]) (vs := [.bool nb176, .slice A25 n177 c27]) (l := [.bool nb176, .slice A25 n177 c27]) (T rfl (hF169 4 rfl)) (T rfl rfl) sz69 rfl rfl rfl H329 rfl ?_)
    intro w330 s331 H332
    have E333 := below_st E326 N14 s331
    have H334 := (s331.blk H327 (by omega))
    have H335 := (s331.blk H328 (by omega))
    refine ⟨.inr ⟨H334, H335⟩, ?_⟩
    have H336 := (s331.blk (d325.ext.blk (e168.blk H39)) (by omega))
    refine aw_one 3 rfl (by kernel_rfl) .none (oe_store (v := .agg #[.bool nb180, .slice A28 n181 c30]) (vs := [.bool nb180, .slice A28 n181 c30]) (l := [.bool nb180, .slice A28 n181 c30]) (T rfl (hF169 5 rfl)) (T rfl rfl) sz69 rfl rfl rfl H336 rfl ?_)
    intro w337 s338 H339
    have E340 := below_st E333 N19 s338
    refine ⟨.inl rfl, ?_⟩
    refine aw_done (by kernel_rfl) ?_
    have H341 := (s338.blk H332 (by omega))
    refine rk_ret Try.func113 (v := .tuple #[.agg #[.bool nb176, .slice A25 n177 c27], .agg #[.bool nb180, .slice A28 n181 c30]]) (res2 Try.results113 (rv_cells (l := [.bool nb176, .slice A25 n177 c27]) agt69 sz69 rfl (hF169 4 rfl) H341 rfl) (rv_cells (l := [.bool nb180, .slice A28 n181 c30]) agt69 sz69 rfl (hF169 5 rfl) H339 rfl)) ⟨_, rfl, ?_⟩
    have h342 := (((hp179.ext d325.ext).st s331 H329 (by decide)).st s338 H336 (by decide))
    have h343 := (((hp183.ext d325.ext).st s331 H329 (by decide)).st s338 H336 (by decide))
    have hov := over_pos ha.neg_iff hb.neg_iff hy (by exact fun hh => by have := hrn.2 hh; simp_all)
    exact ⟨_, _, _, _, _, _, _, _, rfl, E340, h342.tight hov.1 (natAbs_div_lt ha.lt), h343.tight hov.2 (natAbs_mod_lt hb.lt hy)⟩

set_option maxHeartbeats 1000000 in
theorem l1Div_ok {w : World} {na : Bool} {Aa : Option Addr} {la ca : Nat} {x : Int} {sx : Nat} (ha : Num 32 115 .u32 w na Aa la ca x sx) {nb : Bool} {Ab : Option Addr} {lb cb : Nat} {y : Int} {sy : Nat} (hb : Num 32 115 .u32 w nb Ab lb cb y sy) (hy : y ≠ 0) (hs : sx ≤ 200000) (hs2 : sy ≤ 200000) : Ct Try.prog 88 [.agg #[.bool na, .slice Aa la ca], .agg #[.bool nb, .slice Ab lb cb]] w fun v w1 => ∃ n1 A1 l1 c1 n2 A2 l2 c2, v = .tuple #[.agg #[.bool n1, .slice A1 l1 c1], .agg #[.bool n2, .slice A2 l2 c2]] ∧ Ext w w1 ∧ Num 32 115 .u32 w1 n1 A1 l1 c1 (x / y) sx ∧ Num 32 115 .u32 w1 n2 A2 l2 c2 (x % y) sy := by
  refine ct_run (n := 47) Try.func88 rfl Try.ntmps88 rfl ?_
  have E0 : Below w.heap.size w w := Below.refl _ _
  have lha := Num.len (by decide) ha
  have lhb := Num.len (by decide) hb
  refine rk_seq ?_
  refine rk_reg ?_
  refine lw_e (oe_box (v := .agg #[.bool na, .slice Aa la ca]) (cs := #[.bool na, .slice Aa la ca]) (T rfl rfl) rfl ?_)
  intro b1 w2 n3
  have N4 : w.heap.size ≤ b1 := n3.eq ▸ E0.size
  have E5 := below_ext E0 E0.size n3.ext
  refine lw_e (oe_box (v := .agg #[.bool nb, .slice Ab lb cb]) (cs := #[.bool nb, .slice Ab lb cb]) (T rfl rfl) rfl ?_)
  intro b6 w7 n8
  have N9 : w.heap.size ≤ b6 := n8.eq ▸ E5.size
  have : b1 < b6 := n8.eq ▸ lt_of_blk n3.blk
  have E10 := below_ext E5 E5.size n8.ext
  refine lw_e (oe_alloc ze62 ?_)
  intro b11 w12 n13
  have N14 : w.heap.size ≤ b11 := n13.eq ▸ E10.size
  have : b6 < b11 := n13.eq ▸ lt_of_blk n8.blk
  have E15 := below_ext E10 E10.size n13.ext
  refine lw_e (oe_alloc ze62 ?_)
  intro b16 w17 n18
  have N19 : w.heap.size ≤ b16 := n18.eq ▸ E15.size
  have : b11 < b16 := n18.eq ▸ lt_of_blk n13.blk
  have E20 := below_ext E15 E15.size n18.ext
  refine lw_nil ?_
  refine rk_seq ?_
  refine rk_reg ?_
  refine lw_v (.pointer (some ⟨b1, 1, none⟩)) (dv_fieldAddr (a := ⟨b1, 0, none⟩) (a' := ⟨b1, 1, none⟩) fo62_1 (T rfl rfl) rfl) ?_
  have H21 := (n18.ext.blk (n13.ext.blk (n8.ext.blk n3.blk)))
  refine lw_v (.slice Aa la ca) (dv_load1 (b := b1) (o := 1) agt60 (T rfl rfl) H21 rfl) ?_
  refine lw_v (.pointer (some ⟨b6, 1, none⟩)) (dv_fieldAddr (a := ⟨b6, 0, none⟩) (a' := ⟨b6, 1, none⟩) fo62_1 (T rfl rfl) rfl) ?_
  have H22 := (n18.ext.blk (n13.ext.blk n8.blk))
  refine lw_v (.slice Ab lb cb) (dv_load1 (b := b6) (o := 1) agt60 (T rfl rfl) H22 rfl) ?_
  have h23 := ((((ha.ext n3.ext).ext n8.ext).ext n13.ext).ext n18.ext)
  have h24 := ((((hb.ext n3.ext).ext n8.ext).ext n13.ext).ext n18.ext)
  refine lw_e (oe_callf (vs := [.slice Aa la ca, .slice Ab lb cb]) co107 (ar2 (T rfl rfl) (T rfl rfl)) (l1DivAbs_ok h23.wc h24.wc (by omega) h23.ltI h24.ltI (by omega) (by omega)) ?_)
  rintro _ w33 ⟨A25, n26, c27, A28, n29, c30, rfl, e34, h31, h32⟩
  have E35 := below_ext E20 E20.size e34
  have lh31 := Wc.len (by decide) h31 (div_sz (Wc.nonneg h23.wc) (by omega) h23.ltI)
  have lh32 := Wc.len (by decide) h32 (mod_sz (by omega) h24.ltI)
  refine lw_v (.tuple #[.slice A25 n26 c27, .slice A28 n29 c30]) (dv_move (T rfl rfl)) ?_
  refine lw_v (.slice A25 n26 c27) (dv_extract (vs := #[.slice A25 n26 c27, .slice A28 n29 c30]) (T rfl rfl) rfl) ?_
  refine lw_v (.slice A28 n29 c30) (dv_extract (vs := #[.slice A25 n26 c27, .slice A28 n29 c30]) (T rfl rfl) rfl) ?_
  refine lw_v (.slice A25 n26 c27) (dv_assign (T rfl rfl)) ?_
  refine lw_v (.slice A28 n29 c30) (dv_assign (T rfl rfl)) ?_
  refine lw_nil ?_
  refine rk_seq ?_
  refine rk_reg ?_
  refine lw_v (.pointer (some ⟨b1, 0, none⟩)) (dv_fieldAddr (a := ⟨b1, 0, none⟩) (a' := ⟨b1, 0, none⟩) fo62_0 (T rfl rfl) rfl) ?_
  have H36 := (e34.blk H21)
  refine lw_v (.bool na) (dv_load1 (b := b1) (o := 0) agt4 (T rfl rfl) H36 rfl) ?_
  refine lw_v (.pointer (some ⟨b6, 0, none⟩)) (dv_fieldAddr (a := ⟨b6, 0, none⟩) (a' := ⟨b6, 0, none⟩) fo62_0 (T rfl rfl) rfl) ?_
  have H37 := (e34.blk H22)
  refine lw_v (.bool nb) (dv_load1 (b := b6) (o := 0) agt4 (T rfl rfl) H37 rfl) ?_
  refine lw_v (.bool (na != nb)) (dv_neqb (a := na) (b := nb) ub4 (T rfl rfl) (T rfl rfl)) ?_
  refine lw_v (.slice A25 n26 c27) (dv_move (T rfl rfl)) ?_
  refine lw_e (oe_callf (vs := [.bool (na != nb), .slice A25 n26 c27]) co89 (ar2 (T rfl rfl) (T rfl rfl)) (l1Trim_num (s := sx) (neg := na != nb) h31.ws (by first | omega | (simp; done) | (simp; omega)) (div_sz (Wc.nonneg h23.wc) (by omega) h23.ltI)) ?_)
  rintro _ w43 ⟨nb38, A39, n40, c41, rfl, e44, hn42⟩
  have E45 := below_ext E35 E35.size e44
  have lhn42 := Num.len (by decide) hn42
  refine lw_e (oe_alloc ze62 ?_)
  intro b46 w47 n48
  have N49 : w.heap.size ≤ b46 := n48.eq ▸ E45.size
  have H50 := (e44.blk (e34.blk n18.blk))
  have : b16 < b46 := n48.eq ▸ lt_of_blk H50
  have E51 := below_ext E45 E45.size n48.ext
  refine lw_e (oe_store (v := .agg #[.bool nb38, .slice A39 n40 c41]) (vs := [.bool nb38, .slice A39 n40 c41]) (l := [.bool nb38, .slice A39 n40 c41]) (T rfl rfl) (T rfl rfl) sz62 rfl rfl rfl n48.blk rfl ?_)
  intro w52 s53 H54
  have E55 := below_st E51 N49 s53
  refine lw_nil ?_
  refine rk_seq ?_
  refine rk_reg ?_
  refine lw_v (.pointer (some ⟨b1, 0, none⟩)) (dv_fieldAddr (a := ⟨b1, 0, none⟩) (a' := ⟨b1, 0, none⟩) fo62_0 (T rfl rfl) rfl) ?_
  have H56 := (s53.blk (n48.ext.blk (e44.blk H36)) (by omega))
  refine lw_v (.bool na) (dv_load1 (b := b1) (o := 0) agt4 (T rfl rfl) H56 rfl) ?_
  refine lw_v (.slice A28 n29 c30) (dv_move (T rfl rfl)) ?_
  have h57 := (((h32.ext e44).ext n48.ext).st s53 n48.blk (by decide))
  refine lw_e (oe_callf (vs := [.bool na, .slice A28 n29 c30]) co89 (ar2 (T rfl rfl) (T rfl rfl)) (l1Trim_num (s := sy) (neg := na) h57.ws (by first | omega | (simp; done) | (simp; omega)) (mod_sz (by omega) h24.ltI)) ?_)
  rintro _ w63 ⟨nb58, A59, n60, c61, rfl, e64, hn62⟩
  have E65 := below_ext E55 E55.size e64
  have lhn62 := Num.len (by decide) hn62
  refine lw_e (oe_alloc ze62 ?_)
  intro b66 w67 n68
  have N69 : w.heap.size ≤ b66 := n68.eq ▸ E65.size
  have H70 := (e64.blk H54)
  have : b46 < b66 := n68.eq ▸ lt_of_blk H70
  have E71 := below_ext E65 E65.size n68.ext
  refine lw_e (oe_store (v := .agg #[.bool nb58, .slice A59 n60 c61]) (vs := [.bool nb58, .slice A59 n60 c61]) (l := [.bool nb58, .slice A59 n60 c61]) (T rfl rfl) (T rfl rfl) sz62 rfl rfl rfl n68.blk rfl ?_)
  intro w72 s73 H74
  have E75 := below_st E71 N69 s73
  refine lw_nil ?_
  refine rk_seq ?_
  refine rk_seq ?_
  have h76 := ((hn62.ext n68.ext).st s73 n68.blk (by decide))
  have hrn := h76.neg_iff
  refine rk_reg ?_
  refine lw_v (.pointer (some ⟨b66, 0, none⟩)) (dv_fieldAddr (a := ⟨b66, 0, none⟩) (a' := ⟨b66, 0, none⟩) fo62_0 (T rfl rfl) rfl) ?_
  refine lw_v (.bool nb58) (dv_load1 (b := b66) (o := 0) agt4 (T rfl rfl) H74 rfl) ?_
  refine lw_nil ?_
  rcases Bool.eq_false_or_eq_true (nb58) with hb77 | hb77
  · -- T
    refine rk_ct (T rfl (congrArg Value.bool hb77)) ?_
    refine rk_seq ?_
    refine rk_reg ?_
    refine lw_v (.pointer (some ⟨b6, 0, none⟩)) (dv_fieldAddr (a := ⟨b6, 0, none⟩) (a' := ⟨b6, 0, none⟩) fo62_0 (T rfl rfl) rfl) ?_
    have H78 := (s73.blk (n68.ext.blk (e64.blk (s53.blk (n48.ext.blk (e44.blk H37)) (by omega)))) (by omega))
    refine lw_v (.bool nb) (dv_load1 (b := b6) (o := 0) agt4 (T rfl rfl) H78 rfl) ?_
    refine lw_nil ?_
    rcases Bool.eq_false_or_eq_true (nb) with hb79 | hb79
    · -- TT
      refine rk_ct (T rfl (congrArg Value.bool hb79)) ?_
      refine rk_seq ?_
      refine rk_any (fun w => w.heap[b46]? = some (.cells #[.bool nb38, .slice A39 n40 c41] 62)) [3] mo ?_
      intro w80 d81
      have E82 := below_ext E75 E75.size d81.ext
      have H83 := (d81.ext.blk (s73.blk (n68.ext.blk H70) (by omega)))
      refine aw_load 0 (.agg #[.bool nb38, .slice A39 n40 c41]) rfl (by kernel_rfl) .none H83 (fun _ s => dv_loads (l := [.bool nb38, .slice A39 n40 c41]) agt62 sz62 (T rfl rfl) s rfl) ?_
      refine aw_one 1 rfl (by kernel_rfl) .none (oe_callf (vs := [.int .i64 1]) co60 (ar1 C) (l1Int_ok  (by omega)) ?_)
      rintro _ w89 ⟨nr84, A85, n86, c87, rfl, e90, h88⟩
      have E91 := below_ext E82 E82.size e90
      have lh88 := Num.len (by decide) h88
      have H92 := (e90.blk H83)
      refine ⟨.inr H92, ?_⟩
      have h93 := (((((((hn42.ext n48.ext).st s53 n48.blk (by decide)).ext e64).ext n68.ext).st s73 n68.blk (by decide)).ext d81.ext).ext e90)
      refine aw_one 2 rfl (by kernel_rfl) .none (oe_callf (vs := [.agg #[.bool nb38, .slice A39 n40 c41], .agg #[.bool nr84, .slice A85 n86 c87]]) co99 (ar2 (T rfl rfl) (T rfl rfl)) (l1Add_ok h93 h88 (by first | decide | omega) (by first | decide | omega)) ?_)
      rintro _ w99 ⟨nr94, A95, n96, c97, rfl, e100, h98⟩
      have E101 := below_ext E91 E91.size e100
      have lh98 := Num.len (by decide) h98
      have H102 := (e100.blk H92)
      refine ⟨.inr H102, ?_⟩
      refine aw_one 3 rfl (by kernel_rfl) .none (oe_store (v := .agg #[.bool nr94, .slice A95 n96 c97]) (vs := [.bool nr94, .slice A95 n96 c97]) (l := [.bool nr94, .slice A95 n96 c97]) (T rfl rfl) (T rfl rfl) sz62 rfl rfl rfl H102 rfl ?_)
      intro w103 s104 H105
      have E106 := below_st E101 N49 s104
      refine ⟨.inl rfl, ?_⟩
      refine aw_done (by kernel_rfl) ?_
      refine rk_reg ?_
      have H107 := (s104.blk (e100.blk (e90.blk (d81.ext.blk H74))) (by omega))
      refine lw_v (.agg #[.bool nb58, .slice A59 n60 c61]) (dv_loads (l := [.bool nb58, .slice A59 n60 c61]) agt62 sz62 (T rfl rfl) H107 rfl) ?_
      have H108 := (s104.blk (e100.blk (e90.blk (d81.ext.blk H78))) (by omega))
      refine lw_v (.agg #[.bool nb, .slice Ab lb cb]) (dv_loads (l := [.bool nb, .slice Ab lb cb]) agt62 sz62 (T rfl rfl) H108 rfl) ?_
      have h109 := ((((h76.ext d81.ext).ext e90).ext e100).st s104 H102 (by decide))
      have h110 := hb.ext E106
      refine lw_e (oe_callf (vs := [.agg #[.bool nb58, .slice A59 n60 c61], .agg #[.bool nb, .slice Ab lb cb]]) co101 (ar2 (T rfl rfl) (T rfl rfl)) (l1Sub_ok h109 h110 (by first | decide | omega) (by first | decide | omega)) ?_)
      rintro _ w116 ⟨nr111, A112, n113, c114, rfl, e117, h115⟩
      have E118 := below_ext E106 E106.size e117
      have lh115 := Num.len (by decide) h115
      have H119 := (e117.blk H107)
      refine lw_e (oe_store (v := .agg #[.bool nr111, .slice A112 n113 c114]) (vs := [.bool nr111, .slice A112 n113 c114]) (l := [.bool nr111, .slice A112 n113 c114]) (T rfl rfl) (T rfl rfl) sz62 rfl rfl rfl H119 rfl ?_)
      intro w120 s121 H122
      have E123 := below_st E118 N69 s121
      refine lw_nil ?_
      refine rk_seq ?_
      refine rk_any (fun w => w.heap[b46]? = some (.cells #[.bool nr94, .slice A95 n96 c97] 62) ∧ w.heap[b66]? = some (.cells #[.bool nr111, .slice A112 n113 c114] 62)) [3] mo ?_
      intro w124 d125
      have E126 := below_ext E123 E123.size d125.ext
      have H127 := (d125.ext.blk (s121.blk (e117.blk H105) (by omega)))
      have H128 := (d125.ext.blk H122)
      refine aw_load 0 (.agg #[.bool nr94, .slice A95 n96 c97]) rfl (by kernel_rfl) .none ⟨H127, H128⟩ (fun _ s => dv_loads (l := [.bool nr94, .slice A95 n96 c97]) agt62 sz62 (T rfl rfl) s.1 rfl) ?_
      refine aw_load 1 (.agg #[.bool nr111, .slice A112 n113 c114]) rfl (by kernel_rfl) .none ⟨H127, H128⟩ (fun _ s => dv_loads (l := [.bool nr111, .slice A112 n113 c114]) agt62 sz62 (T rfl rfl) s.2 rfl) ?_
      have H129 := (d125.ext.blk (s121.blk (e117.blk (s104.blk (e100.blk (e90.blk (d81.ext.blk (s73.blk (n68.ext.blk (e64.blk (s53.blk (n48.ext.blk (e44.blk (e34.blk (n18.ext.blk n13.blk)))) (by omega)))) (by omega))))) (by omega))) (by omega)))
      refine aw_one 2 rfl (by kernel_rfl) .none (oe_store (v := .agg #[.bool nr94, .slice A95 n96 c97]) (vs := [.bool nr94, .slice A95 n96 c97]) (l := [.bool nr94, .slice A95 n96 c97]) (T rfl rfl) (T rfl rfl) sz62 rfl rfl rfl H129 rfl ?_)
      intro w130 s131 H132
      have E133 := below_st E126 N14 s131
      have H134 := (s131.blk H127 (by omega))
      have H135 := (s131.blk H128 (by omega))
      refine ⟨.inr ⟨H134, H135⟩, ?_⟩
      have H136 := (s131.blk (d125.ext.blk (s121.blk (e117.blk (s104.blk (e100.blk (e90.blk (d81.ext.blk (s73.blk (n68.ext.blk (e64.blk (s53.blk (n48.ext.blk H50) (by omega)))) (by omega))))) (by omega))) (by omega))) (by omega))
      refine aw_one 3 rfl (by kernel_rfl) .none (oe_store (v := .agg #[.bool nr111, .slice A112 n113 c114]) (vs := [.bool nr111, .slice A112 n113 c114]) (l := [.bool nr111, .slice A112 n113 c114]) (T rfl rfl) (T rfl rfl) sz62 rfl rfl rfl H136 rfl ?_)
      intro w137 s138 H139
      have E140 := below_st E133 N19 s138
      refine ⟨.inl rfl, ?_⟩
      refine aw_done (by kernel_rfl) ?_
      have H141 := (s138.blk H132 (by omega))
      refine rk_ret Try.func88 (v := .tuple #[.agg #[.bool nr94, .slice A95 n96 c97], .agg #[.bool nr111, .slice A112 n113 c114]]) (res2 Try.results88 (rv_cells (l := [.bool nr94, .slice A95 n96 c97]) agt62 sz62 rfl rfl H141 rfl) (rv_cells (l := [.bool nr111, .slice A112 n113 c114]) agt62 sz62 rfl rfl H139 rfl)) ⟨_, rfl, ?_⟩
      have h142 := ((((((h98.st s104 H102 (by decide)).ext e117).st s121 H119 (by decide)).ext d125.ext).st s131 H129 (by decide)).st s138 H136 (by decide))
      have h143 := ((((h115.st s121 H119 (by decide)).ext d125.ext).st s131 H129 (by decide)).st s138 H136 (by decide))
      have hov := over_neg ha.neg_iff hb.neg_iff hy (by exact hrn.1 (by assumption))
      exact ⟨_, _, _, _, _, _, _, _, rfl, E140, h142.tight (by rw [← hov.1, if_pos (by assumption)]) (natAbs_div_lt ha.lt), h143.tight (by rw [← hov.2]; have hh := hb.neg_iff.1 (by assumption); omega) (natAbs_mod_lt hb.lt hy)⟩
    · -- TF
      refine rk_cf (T rfl (congrArg Value.bool hb79)) ?_
      refine rk_seq ?_
      refine rk_any (fun w => w.heap[b46]? = some (.cells #[.bool nb38, .slice A39 n40 c41] 62)) [3] mo ?_
      intro w144 d145
      have E146 := below_ext E75 E75.size d145.ext
      have H147 := (d145.ext.blk (s73.blk (n68.ext.blk H70) (by omega)))
      refine aw_load 0 (.agg #[.bool nb38, .slice A39 n40 c41]) rfl (by kernel_rfl) .none H147 (fun _ s => dv_loads (l := [.bool nb38, .slice A39 n40 c41]) agt62 sz62 (T rfl rfl) s rfl) ?_
      refine aw_one 1 rfl (by kernel_rfl) .none (oe_callf (vs := [.int .i64 1]) co60 (ar1 C) (l1Int_ok  (by omega)) ?_)
      rintro _ w153 ⟨nr148, A149, n150, c151, rfl, e154, h152⟩
      have E155 := below_ext E146 E146.size e154
      have lh152 := Num.len (by decide) h152
      have H156 := (e154.blk H147)
      refine ⟨.inr H156, ?_⟩
      have h157 := (((((((hn42.ext n48.ext).st s53 n48.blk (by decide)).ext e64).ext n68.ext).st s73 n68.blk (by decide)).ext d145.ext).ext e154)
      refine aw_one 2 rfl (by kernel_rfl) .none (oe_callf (vs := [.agg #[.bool nb38, .slice A39 n40 c41], .agg #[.bool nr148, .slice A149 n150 c151]]) co101 (ar2 (T rfl rfl) (T rfl rfl)) (l1Sub_ok h157 h152 (by first | decide | omega) (by first | decide | omega)) ?_)
      rintro _ w163 ⟨nr158, A159, n160, c161, rfl, e164, h162⟩
      have E165 := below_ext E155 E155.size e164
      have lh162 := Num.len (by decide) h162
      have H166 := (e164.blk H156)
      refine ⟨.inr H166, ?_⟩
      refine aw_one 3 rfl (by kernel_rfl) .none (oe_store (v := .agg #[.bool nr158, .slice A159 n160 c161]) (vs := [.bool nr158, .slice A159 n160 c161]) (l := [.bool nr158, .slice A159 n160 c161]) (T rfl rfl) (T rfl rfl) sz62 rfl rfl rfl H166 rfl ?_)
      intro w167 s168 H169
      have E170 := below_st E165 N49 s168
      refine ⟨.inl rfl, ?_⟩
      refine aw_done (by kernel_rfl) ?_
      refine rk_reg ?_
      have H171 := (s168.blk (e164.blk (e154.blk (d145.ext.blk H74))) (by omega))
      refine lw_v (.agg #[.bool nb58, .slice A59 n60 c61]) (dv_loads (l := [.bool nb58, .slice A59 n60 c61]) agt62 sz62 (T rfl rfl) H171 rfl) ?_
      have H172 := (s168.blk (e164.blk (e154.blk (d145.ext.blk H78))) (by omega))
      refine lw_v (.agg #[.bool nb, .slice Ab lb cb]) (dv_loads (l := [.bool nb, .slice Ab lb cb]) agt62 sz62 (T rfl rfl) H172 rfl) ?_
      have h173 := ((((h76.ext d145.ext).ext e154).ext e164).st s168 H166 (by decide))
      have h174 := hb.ext E170
      refine lw_e (oe_callf (vs := [.agg #[.bool nb58, .slice A59 n60 c61], .agg #[.bool nb, .slice Ab lb cb]]) co99 (ar2 (T rfl rfl) (T rfl rfl)) (l1Add_ok h173 h174 (by first | decide | omega) (by first | decide | omega)) ?_)
      rintro _ w180 ⟨nr175, A176, n177, c178, rfl, e181, h179⟩
      have E182 := below_ext E170 E170.size e181
      have lh179 := Num.len (by decide) h179
      have H183 := (e181.blk H171)
      refine lw_e (oe_store (v := .agg #[.bool nr175, .slice A176 n177 c178]) (vs := [.bool nr175, .slice A176 n177 c178]) (l := [.bool nr175, .slice A176 n177 c178]) (T rfl rfl) (T rfl rfl) sz62 rfl rfl rfl H183 rfl ?_)
      intro w184 s185 H186
      have E187 := below_st E182 N69 s185
      refine lw_nil ?_
      refine rk_seq ?_
      refine rk_any (fun w => w.heap[b46]? = some (.cells #[.bool nr158, .slice A159 n160 c161] 62) ∧ w.heap[b66]? = some (.cells #[.bool nr175, .slice A176 n177 c178] 62)) [3] mo ?_
      intro w188 d189
      have E190 := below_ext E187 E187.size d189.ext
      have H191 := (d189.ext.blk (s185.blk (e181.blk H169) (by omega)))
      have H192 := (d189.ext.blk H186)
      refine aw_load 0 (.agg #[.bool nr158, .slice A159 n160 c161]) rfl (by kernel_rfl) .none ⟨H191, H192⟩ (fun _ s => dv_loads (l := [.bool nr158, .slice A159 n160 c161]) agt62 sz62 (T rfl rfl) s.1 rfl) ?_
      refine aw_load 1 (.agg #[.bool nr175, .slice A176 n177 c178]) rfl (by kernel_rfl) .none ⟨H191, H192⟩ (fun _ s => dv_loads (l := [.bool nr175, .slice A176 n177 c178]) agt62 sz62 (T rfl rfl) s.2 rfl) ?_
      have H193 := (d189.ext.blk (s185.blk (e181.blk (s168.blk (e164.blk (e154.blk (d145.ext.blk (s73.blk (n68.ext.blk (e64.blk (s53.blk (n48.ext.blk (e44.blk (e34.blk (n18.ext.blk n13.blk)))) (by omega)))) (by omega))))) (by omega))) (by omega)))
      refine aw_one 2 rfl (by kernel_rfl) .none (oe_store (v := .agg #[.bool nr158, .slice A159 n160 c161]) (vs := [.bool nr158, .slice A159 n160 c161]) (l := [.bool nr158, .slice A159 n160 c161]) (T rfl rfl) (T rfl rfl) sz62 rfl rfl rfl H193 rfl ?_)
      intro w194 s195 H196
      have E197 := below_st E190 N14 s195
      have H198 := (s195.blk H191 (by omega))
      have H199 := (s195.blk H192 (by omega))
      refine ⟨.inr ⟨H198, H199⟩, ?_⟩
      have H200 := (s195.blk (d189.ext.blk (s185.blk (e181.blk (s168.blk (e164.blk (e154.blk (d145.ext.blk (s73.blk (n68.ext.blk (e64.blk (s53.blk (n48.ext.blk H50) (by omega)))) (by omega))))) (by omega))) (by omega))) (by omega))
      refine aw_one 3 rfl (by kernel_rfl) .none (oe_store (v := .agg #[.bool nr175, .slice A176 n177 c178]) (vs := [.bool nr175, .slice A176 n177 c178]) (l := [.bool nr175, .slice A176 n177 c178]) (T rfl rfl) (T rfl rfl) sz62 rfl rfl rfl H200 rfl ?_)
      intro w201 s202 H203
      have E204 := below_st E197 N19 s202
      refine ⟨.inl rfl, ?_⟩
      refine aw_done (by kernel_rfl) ?_
      have H205 := (s202.blk H196 (by omega))
      refine rk_ret Try.func88 (v := .tuple #[.agg #[.bool nr158, .slice A159 n160 c161], .agg #[.bool nr175, .slice A176 n177 c178]]) (res2 Try.results88 (rv_cells (l := [.bool nr158, .slice A159 n160 c161]) agt62 sz62 rfl rfl H205 rfl) (rv_cells (l := [.bool nr175, .slice A176 n177 c178]) agt62 sz62 rfl rfl H203 rfl)) ⟨_, rfl, ?_⟩
      have h206 := ((((((h162.st s168 H166 (by decide)).ext e181).st s185 H183 (by decide)).ext d189.ext).st s195 H193 (by decide)).st s202 H200 (by decide))
      have h207 := ((((h179.st s185 H183 (by decide)).ext d189.ext).st s195 H193 (by decide)).st s202 H200 (by decide))
      have hov := over_neg ha.neg_iff hb.neg_iff hy (by exact hrn.1 (by assumption))
      exact ⟨_, _, _, _, _, _, _, _, rfl, E204, h206.tight (by rw [← hov.1, if_neg (by simp [*])]; omega) (natAbs_div_lt ha.lt), h207.tight (by rw [← hov.2]; have hh : ¬ y < 0 := (fun h => by have := hb.neg_iff.2 h; simp_all); omega) (natAbs_mod_lt hb.lt hy)⟩
  · -- F
    refine rk_cf (T rfl (congrArg Value.bool hb77)) ?_
    refine rk_skip ?_
    refine rk_seq ?_
    refine rk_any (fun w => w.heap[b46]? = some (.cells #[.bool nb38, .slice A39 n40 c41] 62) ∧ w.heap[b66]? = some (.cells #[.bool nb58, .slice A59 n60 c61] 62)) [3] mo ?_
    intro w208 d209
    have E210 := below_ext E75 E75.size d209.ext
    have H211 := (d209.ext.blk (s73.blk (n68.ext.blk H70) (by omega)))
    have H212 := (d209.ext.blk H74)
    refine aw_load 0 (.agg #[.bool nb38, .slice A39 n40 c41]) rfl (by kernel_rfl) .none ⟨H211, H212⟩ (fun _ s => dv_loads (l := [.bool nb38, .slice A39 n40 c41]) agt62 sz62 (T rfl rfl) s.1 rfl) ?_
    refine aw_load 1 (.agg #[.bool nb58, .slice A59 n60 c61]) rfl (by kernel_rfl) .none ⟨H211, H212⟩ (fun _ s => dv_loads (l := [.bool nb58, .slice A59 n60 c61]) agt62 sz62 (T rfl rfl) s.2 rfl) ?_
    have H213 := (d209.ext.blk (s73.blk (n68.ext.blk (e64.blk (s53.blk (n48.ext.blk (e44.blk (e34.blk (n18.ext.blk n13.blk)))) (by omega)))) (by omega)))
    refine aw_one 2 rfl (by kernel_rfl) .none (oe_store (v := .agg #[.bool nb38, .slice A39 n40 c41]) (vs := [.bool nb38, .slice A39 n40 c41]) (l := [.bool nb38, .slice A39 n40 c41]) (T rfl rfl) (T rfl rfl) sz62 rfl rfl rfl H213 rfl ?_)
    intro w214 s215 H216
    have E217 := below_st E210 N14 s215
    have H218 := (s215.blk H211 (by omega))
    have H219 := (s215.blk H212 (by omega))
    refine ⟨.inr ⟨H218, H219⟩, ?_⟩
    have H220 := (s215.blk (d209.ext.blk (s73.blk (n68.ext.blk (e64.blk (s53.blk (n48.ext.blk H50) (by omega)))) (by omega))) (by omega))
    refine aw_one 3 rfl (by kernel_rfl) .none (oe_store (v := .agg #[.bool nb58, .slice A59 n60 c61]) (vs := [.bool nb58, .slice A59 n60 c61]) (l := [.bool nb58, .slice A59 n60 c61]) (T rfl rfl) (T rfl rfl) sz62 rfl rfl rfl H220 rfl ?_)
    intro w221 s222 H223
    have E224 := below_st E217 N19 s222
    refine ⟨.inl rfl, ?_⟩
    refine aw_done (by kernel_rfl) ?_
    have H225 := (s222.blk H216 (by omega))
    refine rk_ret Try.func88 (v := .tuple #[.agg #[.bool nb38, .slice A39 n40 c41], .agg #[.bool nb58, .slice A59 n60 c61]]) (res2 Try.results88 (rv_cells (l := [.bool nb38, .slice A39 n40 c41]) agt62 sz62 rfl rfl H225 rfl) (rv_cells (l := [.bool nb58, .slice A59 n60 c61]) agt62 sz62 rfl rfl H223 rfl)) ⟨_, rfl, ?_⟩
    have h226 := ((((((((hn42.ext n48.ext).st s53 n48.blk (by decide)).ext e64).ext n68.ext).st s73 n68.blk (by decide)).ext d209.ext).st s215 H213 (by decide)).st s222 H220 (by decide))
    have h227 := (((h76.ext d209.ext).st s215 H213 (by decide)).st s222 H220 (by decide))
    have hov := over_pos ha.neg_iff hb.neg_iff hy (by exact fun hh => by have := hrn.2 hh; simp_all)
    exact ⟨_, _, _, _, _, _, _, _, rfl, E224, h226.tight hov.1 (natAbs_div_lt ha.lt), h227.tight hov.2 (natAbs_mod_lt hb.lt hy)⟩

end Go.Proofs.Ytpnjkjahfklfnaa.W
