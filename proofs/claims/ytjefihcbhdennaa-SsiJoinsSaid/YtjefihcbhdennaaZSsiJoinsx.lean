/- Texts of this session, merged for the law SsiJoins: S57, S58, S59. No condition. -/
import Derived.Test.YtjefihcbhdennaaZSsiJoinsd
import Derived.Test.YtjefihcbhdennaaZSsiJoinsp
import Derived.Test.YtjefihcbhdennaaZSsiJoinsw
import Derived.Test.YtjefihcbhdennaaZSsiJoinsv
namespace Go.Proofs.Ytjefihcbhdennaa.S
open Go.RowKit Go.Proofs.YtjefihcbhdennaaW.PrintWords Go.Proofs.YtjefihcbhdennaaW.PrintLast Go.Proofs.YtjefihcbhdennaaW.PrintMore
attribute [local go_sem] max2_int min2_int max2_str min2_str str_leq str_gtr str_geq max_two min_two max_three min_three max_four min_four
set_option linter.unusedVariables false
set_option linter.unusedSimpArgs false
def conductorref10_least.f (a0 : Int) (a1 : Int) : Option (Int) := if a0 = 0 then (some (mx a0 a1)) else (if a1 = 0 then (some (mx a0 a1)) else (some (mn a0 a1)))
set_option maxHeartbeats 8000000 in
set_option maxRecDepth 100000 in
theorem conductorref10_least.calls (a0 : Int) (a1 : Int) (r : Int) (w : World) (h : conductorref10_least.f a0 a1 = some r) :
  Calls Try.prog 73 #[.int .u64 a0, .int .u64 a1] w fun e w' => e = .returned (.int .u64 r) ∧ Below w.heap.size w w' := by
 have HB := Aside0.mk (Below.refl w.heap.size w)
 have H : (if a0 = 0 then (some (mx a0 a1)) else (if a1 = 0 then (some (mx a0 a1)) else (some (mn a0 a1)))) = some r := h
 clear h
 by_cases c3 : a0 = 0
 ·rw [if_pos c3] at H
  have c3b0 : (a0 == 0) = true := beq_iff_eq.mpr c3
  have c3b1 : (a0 != 0) = false := bne_eq_false_iff_eq.mpr c3
  clear c3
  obtain ⟨ji4, hji4⟩ : ∃ j_ : Int, (mx a0 a1) = j_ := ⟨_, rfl⟩
  replace H : (some ji4) = some r := by first | (rw [hji4] at H; exact H) | (simp only [hji4] at H ⊢; exact H)
  have hji4_ : (if a0 < a1 then a1 else a0) = ji4 := hji4
  obtain rfl := Option.some.inj H
  go_enter Try.func73, Try.ntmps73
  go_wp2
  go_ret
  exact ⟨by first | rfl | (simp [errW_none, errW_some] <;> rfl) | (simp only [← hji4]; first | rfl | (simp [errW_none, errW_some] <;> rfl)) | (simp [*, errW_none, errW_some] <;> rfl), bl_⟩
 ·rw [if_neg c3] at H
  have c3b0 : (a0 == 0) = false := beq_eq_false_iff_ne.mpr c3
  have c3b1 : (a0 != 0) = true := bne_iff_ne.mpr c3
  by_cases c5 : a1 = 0
  ·rw [if_pos c5] at H
   have c5b0 : (a1 == 0) = true := beq_iff_eq.mpr c5
   have c5b1 : (a1 != 0) = false := bne_eq_false_iff_eq.mpr c5
   clear c5
   obtain ⟨ji6, hji6⟩ : ∃ j_ : Int, (mx a0 a1) = j_ := ⟨_, rfl⟩
   replace H : (some ji6) = some r := by first | (rw [hji6] at H; exact H) | (simp only [hji6] at H ⊢; exact H)
   (try rw [hji6] at hji4)
   (try rw [hji6] at hji4w)
   have hji6_ : (if a0 < a1 then a1 else a0) = ji6 := hji6
   obtain rfl := Option.some.inj H
   go_enter Try.func73, Try.ntmps73
   go_wp2
   go_ret
   exact ⟨by first | rfl | (simp [errW_none, errW_some] <;> rfl) | (simp only [← hji6]; first | rfl | (simp [errW_none, errW_some] <;> rfl)) | (simp [*, errW_none, errW_some] <;> rfl), bl_⟩
  ·rw [if_neg c5] at H
   have c5b0 : (a1 == 0) = false := beq_eq_false_iff_ne.mpr c5
   have c5b1 : (a1 != 0) = true := bne_iff_ne.mpr c5
   obtain ⟨ji7, hji7⟩ : ∃ j_ : Int, (mn a0 a1) = j_ := ⟨_, rfl⟩
   replace H : (some ji7) = some r := by first | (rw [hji7] at H; exact H) | (simp only [hji7] at H ⊢; exact H)
   have hji7_ : (if a1 < a0 then a1 else a0) = ji7 := hji7
   obtain rfl := Option.some.inj H
   go_enter Try.func73, Try.ntmps73
   go_wp2
   go_ret
   exact ⟨by first | rfl | (simp [errW_none, errW_some] <;> rfl) | (simp only [← hji7]; first | rfl | (simp [errW_none, errW_some] <;> rfl)) | (simp [*, errW_none, errW_some] <;> rfl), bl_⟩
def conductorref10_Join.f (k : Nat) (a0_0 : Int) (a0_1 : Int) (a0_2 : Int) (a0_3 : Int) (l0_4 : List (S41)) (l0_5 : List (S41)) (a1_0 : Int) (a1_1 : Int) (a1_2 : Int) (a1_3 : Int) (l1_4 : List (S41)) (l1_5 : List (S41)) (a2 : Int) : Option (Int × Int × Int × Int × (List (S41)) × (List (S41))) := (conductorref10_least.f a0_3 a1_3).bind fun t669 => ((conductorref09_Join.f k l0_4 l1_4).bind fun t670 => ((conductorref09_Fit.f k t670 a2).bind fun t673 => ((conductorref09_Join.f k l0_5 l1_5).bind fun t676 => ((conductorref09_Fit.f k t676 a2).bind fun t679 => (some (mn a0_0 a1_0, mx a0_1 a1_1, mx a0_2 a1_2, t669, t673, t679))))))
def conductorref10_Join.T1 : Bool × List (List Nat × List Nat) := (true, [([], []), ([0], [0]), ([], []), ([2], [2]), ([1, 3], [1, 3]), ([], []), ([5], [5]), ([], []), ([7], [7]), ([6, 8], [6, 8]), ([], []), ([10], [10]), ([], []), ([12], [12]), ([11, 13], [11, 13]), ([], []), ([15], [15]), ([], []), ([17], [17]), ([16, 18], [16, 18]), ([], []), ([20], [20]), ([], []), ([22], [22]), ([21, 23, 19], [21, 23]), ([], []), ([24, 25, 24], [24, 25]), ([], []), ([27], [27]), ([], []), ([29], [29]), ([28, 30, 26], [28, 30]), ([], []), ([31, 32, 31], [31, 32]), ([4, 9, 14, 19, 26, 33], [4, 9, 14, 19, 26, 33]), ([34, 33, 0, 1, 2, 3, 4, 5, 6, 7, 8, 9, 10, 11, 12, 13, 14, 15, 16, 17, 18, 19, 20, 21, 22, 23, 24, 25, 26, 27, 28, 29, 30, 31, 32, 33, 34], [34])])
def conductorref10_Join.B1 : List Nat := [0, 1, 0, 4, 15, 0, 32, 0, 128, 480, 0, 1024, 0, 4096, 15360, 0, 32768, 0, 131072, 491520, 0, 1048576, 0, 4194304, 16744448, 0, 67076096, 0, 134217728, 0, 536870912, 2147450880, 0, 8589901824, 17179869183, 34359738367]
theorem conductorref10_Join.tab1 : rtab .any (opsOf Try.f48 1) = conductorref10_Join.T1 := by kernel_rfl
theorem conductorref10_Join.bits1 : waitsOk conductorref10_Join.T1.2 conductorref10_Join.B1 = true := by kernel_rfl
set_option maxHeartbeats 8000000 in
set_option maxRecDepth 100000 in
theorem conductorref10_Join.calls (k : Nat) (a0_0 : Int) (a0_1 : Int) (a0_2 : Int) (a0_3 : Int) (A0_4 : Option Addr) (c0_4 : Nat) (l0_4 : List (S41)) (A0_5 : Option Addr) (c0_5 : Nat) (l0_5 : List (S41)) (a1_0 : Int) (a1_1 : Int) (a1_2 : Int) (a1_3 : Int) (A1_4 : Option Addr) (c1_4 : Nat) (l1_4 : List (S41)) (A1_5 : Option Addr) (c1_5 : Nat) (l1_5 : List (S41)) (a2 : Int) (r1 : Int) (r2 : Int) (r3 : Int) (r4 : Int) (r5 : List (S41)) (r6 : List (S41)) (w : World) (hr0_4 : Kd.C k41 w A0_4 l0_4.length l0_4) (hc0_4 : l0_4.length ≤ c0_4) (hr0_5 : Kd.C k41 w A0_5 l0_5.length l0_5) (hc0_5 : l0_5.length ≤ c0_5) (hr1_4 : Kd.C k41 w A1_4 l1_4.length l1_4) (hc1_4 : l1_4.length ≤ c1_4) (hr1_5 : Kd.C k41 w A1_5 l1_5.length l1_5) (hc1_5 : l1_5.length ≤ c1_5) (h : conductorref10_Join.f k a0_0 a0_1 a0_2 a0_3 l0_4 l0_5 a1_0 a1_1 a1_2 a1_3 l1_4 l1_5 a2 = some (r1, r2, r3, r4, r5, r6)) :
  Calls Try.prog 48 #[.agg #[.int .u64 a0_0, .int .u64 a0_1, .int .u64 a0_2, .int .u64 a0_3, .slice A0_4 l0_4.length c0_4, .slice A0_5 l0_5.length c0_5], .agg #[.int .u64 a1_0, .int .u64 a1_1, .int .u64 a1_2, .int .u64 a1_3, .slice A1_4 l1_4.length c1_4, .slice A1_5 l1_5.length c1_5], .int .i64 a2] w fun e w' => ∃ v4_ v5_ : Value, e = .returned (.agg #[.int .u64 r1, .int .u64 r2, .int .u64 r3, .int .u64 r4, v4_, v5_]) ∧ Kd.R k41 41 w' w.heap.size (fun k_ => some k_ ≠ (v5_ : Value).ownBlock) v4_ r5 ∧ Kd.R k41 41 w' w.heap.size (fun k_ => some k_ ≠ (v4_ : Value).ownBlock) v5_ r6 ∧ Below w.heap.size w w' := by
 have hu26 := Try.underlying26
 have HR0_4 := Aside0.mk hr0_4; have HC0_4 := Aside0.mk hc0_4; clear hr0_4 hc0_4; have HR0_5 := Aside0.mk hr0_5; have HC0_5 := Aside0.mk hc0_5; clear hr0_5 hc0_5; have HR1_4 := Aside0.mk hr1_4; have HC1_4 := Aside0.mk hc1_4; clear hr1_4 hc1_4; have HR1_5 := Aside0.mk hr1_5; have HC1_5 := Aside0.mk hc1_5; clear hr1_5 hc1_5
 have HB := Aside0.mk (Below.refl w.heap.size w)
 have H : ((conductorref10_least.f a0_3 a1_3).bind fun t669 => ((conductorref09_Join.f k l0_4 l1_4).bind fun t670 => ((conductorref09_Fit.f k t670 a2).bind fun t673 => ((conductorref09_Join.f k l0_5 l1_5).bind fun t676 => ((conductorref09_Fit.f k t676 a2).bind fun t679 => (some (mn a0_0 a1_0, mx a0_1 a1_1, mx a0_2 a1_2, t669, t673, t679))))))) = some (r1, r2, r3, r4, r5, r6) := h
 clear h
 obtain ⟨ji4, hji4⟩ : ∃ j_ : Int, (mn a0_0 a1_0) = j_ := ⟨_, rfl⟩
 replace H : ((conductorref10_least.f a0_3 a1_3).bind fun t669 => ((conductorref09_Join.f k l0_4 l1_4).bind fun t670 => ((conductorref09_Fit.f k t670 a2).bind fun t673 => ((conductorref09_Join.f k l0_5 l1_5).bind fun t676 => ((conductorref09_Fit.f k t676 a2).bind fun t679 => (some (ji4, mx a0_1 a1_1, mx a0_2 a1_2, t669, t673, t679))))))) = some (r1, r2, r3, r4, r5, r6) := by first | (rw [hji4] at H; exact H) | (simp only [hji4] at H ⊢; exact H)
 have hji4_ : (if a1_0 < a0_0 then a1_0 else a0_0) = ji4 := hji4
 obtain ⟨ji5, hji5⟩ : ∃ j_ : Int, (mx a0_1 a1_1) = j_ := ⟨_, rfl⟩
 replace H : ((conductorref10_least.f a0_3 a1_3).bind fun t669 => ((conductorref09_Join.f k l0_4 l1_4).bind fun t670 => ((conductorref09_Fit.f k t670 a2).bind fun t673 => ((conductorref09_Join.f k l0_5 l1_5).bind fun t676 => ((conductorref09_Fit.f k t676 a2).bind fun t679 => (some (ji4, ji5, mx a0_2 a1_2, t669, t673, t679))))))) = some (r1, r2, r3, r4, r5, r6) := by first | (rw [hji5] at H; exact H) | (simp only [hji5] at H ⊢; exact H)
 have hji5_ : (if a0_1 < a1_1 then a1_1 else a0_1) = ji5 := hji5
 obtain ⟨ji6, hji6⟩ : ∃ j_ : Int, (mx a0_2 a1_2) = j_ := ⟨_, rfl⟩
 replace H : ((conductorref10_least.f a0_3 a1_3).bind fun t669 => ((conductorref09_Join.f k l0_4 l1_4).bind fun t670 => ((conductorref09_Fit.f k t670 a2).bind fun t673 => ((conductorref09_Join.f k l0_5 l1_5).bind fun t676 => ((conductorref09_Fit.f k t676 a2).bind fun t679 => (some (ji4, ji5, ji6, t669, t673, t679))))))) = some (r1, r2, r3, r4, r5, r6) := by first | (rw [hji6] at H; exact H) | (simp only [hji6] at H ⊢; exact H)
 have hji6_ : (if a0_2 < a1_2 then a1_2 else a0_2) = ji6 := hji6
 replace H := Option.bind_eq_some_iff.mp H; obtain ⟨t669, A70, H⟩ := H
 replace H : ((conductorref09_Join.f k l0_4 l1_4).bind fun t670 => ((conductorref09_Fit.f k t670 a2).bind fun t673 => ((conductorref09_Join.f k l0_5 l1_5).bind fun t676 => ((conductorref09_Fit.f k t676 a2).bind fun t679 => (some (ji4, ji5, ji6, t669, t673, t679)))))) = some (r1, r2, r3, r4, r5, r6) := H
 have A7 := Aside0.mk A70; clear A70; replace H := Option.bind_eq_some_iff.mp H; obtain ⟨t670, A80, H⟩ := H
 replace H : ((conductorref09_Fit.f k t670 a2).bind fun t673 => ((conductorref09_Join.f k l0_5 l1_5).bind fun t676 => ((conductorref09_Fit.f k t676 a2).bind fun t679 => (some (ji4, ji5, ji6, t669, t673, t679))))) = some (r1, r2, r3, r4, r5, r6) := H
 have A8 := Aside0.mk A80; clear A80; replace H := Option.bind_eq_some_iff.mp H; obtain ⟨t673, A90, H⟩ := H
 replace H : ((conductorref09_Join.f k l0_5 l1_5).bind fun t676 => ((conductorref09_Fit.f k t676 a2).bind fun t679 => (some (ji4, ji5, ji6, t669, t673, t679)))) = some (r1, r2, r3, r4, r5, r6) := H
 have A9 := Aside0.mk A90; clear A90; replace H := Option.bind_eq_some_iff.mp H; obtain ⟨t676, A100, H⟩ := H
 replace H : ((conductorref09_Fit.f k t676 a2).bind fun t679 => (some (ji4, ji5, ji6, t669, t673, t679))) = some (r1, r2, r3, r4, r5, r6) := H
 have A10 := Aside0.mk A100; clear A100; replace H := Option.bind_eq_some_iff.mp H; obtain ⟨t679, A110, H⟩ := H
 replace H : (some (ji4, ji5, ji6, t669, t673, t679)) = some (r1, r2, r3, r4, r5, r6) := H
 have A11 := Aside0.mk A110; clear A110
 simp only [Option.some.injEq, Prod.mk.injEq] at H
 obtain ⟨rfl, rfl, rfl, rfl, rfl, rfl⟩ := H
 go_enter Try.func48, Try.ntmps48
 try go_wp2_with (first | ((with_reducible refine gate_dst (N := 3) rfl ?_); refine box_event ?hg (N := 3) ?hd (cs := #[.int .u64 a0_0, .int .u64 a0_1, .int .u64 a0_2, .int .u64 a0_3, .slice A0_4 l0_4.length c0_4, .slice A0_5 l0_5.length c0_5]) (t := 26) ?hr ?_; (case hd => rfl); (case hg => rfl); (case hr => first | (go_simp; done) | (go_simp; rfl)); intro gb666 hg w12 hbox hb; have n0_ := Aside0.mk (below_step bl_ hb); have n1_ := Aside0.mk (hbox); have n2_ := Aside0.mk (bsz_ hg : w.heap.size ≤ gb666); have n3_ := Aside0.mk (bsz_ hg : w.heap.size ≤ gb666); clear HB; have HB := n0_; have BK666 := n1_; have GW666 := n2_; have GE666 := n3_; clear n0_ n1_ n2_ n3_; clear hb hbox hg) | ((with_reducible refine gate_dst (N := 4) rfl ?_); refine box_event ?hg (N := 4) ?hd (cs := #[.int .u64 a1_0, .int .u64 a1_1, .int .u64 a1_2, .int .u64 a1_3, .slice A1_4 l1_4.length c1_4, .slice A1_5 l1_5.length c1_5]) (t := 26) ?hr ?_; (case hd => rfl); (case hg => rfl); (case hr => first | (go_simp; done) | (go_simp; rfl)); intro gb667 hg w13 hbox hb; have n0_ := Aside0.mk (blk_below (g := gb666) (o := .cells #[.int .u64 a0_0, .int .u64 a0_1, .int .u64 a0_2, .int .u64 a0_3, .slice A0_4 l0_4.length c0_4, .slice A0_5 l0_5.length c0_5] 26 (0, 0)) (by (with_reducible repeat (first | refine blk_drewN ?_ _ | refine blk_drew ?_ | refine blk_alloc ?_ _)); exact BK666.out) hb); have n1_ := Aside0.mk (below_step bl_ hb); have n2_ := Aside0.mk (hbox); have n3_ := Aside0.mk (bsz_ hg : w.heap.size ≤ gb667); have n4_ := Aside0.mk (bsz_ hg : w.heap.size ≤ gb667); have n5_ := Aside0.mk ((by rw [hg]; exact Nat.ne_of_lt (blk_lt (g := gb666) (o := .cells #[.int .u64 a0_0, .int .u64 a0_1, .int .u64 a0_2, .int .u64 a0_3, .slice A0_4 l0_4.length c0_4, .slice A0_5 l0_5.length c0_5] 26 (0, 0)) (by (with_reducible repeat (first | refine blk_drewN ?_ _ | refine blk_drew ?_ | refine blk_alloc ?_ _)); exact BK666.out)) : gb666 ≠ gb667)); have n6_ := Aside0.mk ((by rw [hg]; exact Nat.ne_of_gt (blk_lt (g := gb666) (o := .cells #[.int .u64 a0_0, .int .u64 a0_1, .int .u64 a0_2, .int .u64 a0_3, .slice A0_4 l0_4.length c0_4, .slice A0_5 l0_5.length c0_5] 26 (0, 0)) (by (with_reducible repeat (first | refine blk_drewN ?_ _ | refine blk_drew ?_ | refine blk_alloc ?_ _)); exact BK666.out)) : gb667 ≠ gb666)); clear BK666; clear HB; have BK666 := n0_; have HB := n1_; have BK667 := n2_; have GW667 := n3_; have GE667 := n4_; have NB666_667 := n5_; have NB667_666 := n6_; clear n0_ n1_ n2_ n3_ n4_ n5_ n6_; clear hb hbox hg) | ((with_reducible refine gate_dst (N := 6) rfl ?_); refine box_event ?hg (N := 6) ?hd (cs := #[.int .u64 0, .int .u64 0, .int .u64 0, .int .u64 0, .slice none 0 0, .slice none 0 0]) (t := 26) ?hr ?_; (case hd => rfl); (case hg => rfl); (case hr => first | (go_simp; done) | (go_simp; rfl)); intro gb668 hg w14 hbox hb; have n0_ := Aside0.mk (blk_below (g := gb666) (o := .cells #[.int .u64 a0_0, .int .u64 a0_1, .int .u64 a0_2, .int .u64 a0_3, .slice A0_4 l0_4.length c0_4, .slice A0_5 l0_5.length c0_5] 26 (0, 0)) (by (with_reducible repeat (first | refine blk_drewN ?_ _ | refine blk_drew ?_ | refine blk_alloc ?_ _)); exact BK666.out) hb); have n1_ := Aside0.mk (blk_below (g := gb667) (o := .cells #[.int .u64 a1_0, .int .u64 a1_1, .int .u64 a1_2, .int .u64 a1_3, .slice A1_4 l1_4.length c1_4, .slice A1_5 l1_5.length c1_5] 26 (0, 0)) (by (with_reducible repeat (first | refine blk_drewN ?_ _ | refine blk_drew ?_ | refine blk_alloc ?_ _)); exact BK667.out) hb); have n2_ := Aside0.mk (below_step bl_ hb); have n3_ := Aside0.mk (hbox); have n4_ := Aside0.mk (bsz_ hg : w.heap.size ≤ gb668); have n5_ := Aside0.mk (bsz_ hg : w.heap.size ≤ gb668); have n6_ := Aside0.mk ((by rw [hg]; exact Nat.ne_of_lt (blk_lt (g := gb666) (o := .cells #[.int .u64 a0_0, .int .u64 a0_1, .int .u64 a0_2, .int .u64 a0_3, .slice A0_4 l0_4.length c0_4, .slice A0_5 l0_5.length c0_5] 26 (0, 0)) (by (with_reducible repeat (first | refine blk_drewN ?_ _ | refine blk_drew ?_ | refine blk_alloc ?_ _)); exact BK666.out)) : gb666 ≠ gb668)); have n7_ := Aside0.mk ((by rw [hg]; exact Nat.ne_of_gt (blk_lt (g := gb666) (o := .cells #[.int .u64 a0_0, .int .u64 a0_1, .int .u64 a0_2, .int .u64 a0_3, .slice A0_4 l0_4.length c0_4, .slice A0_5 l0_5.length c0_5] 26 (0, 0)) (by (with_reducible repeat (first | refine blk_drewN ?_ _ | refine blk_drew ?_ | refine blk_alloc ?_ _)); exact BK666.out)) : gb668 ≠ gb666)); have n8_ := Aside0.mk ((by rw [hg]; exact Nat.ne_of_lt (blk_lt (g := gb667) (o := .cells #[.int .u64 a1_0, .int .u64 a1_1, .int .u64 a1_2, .int .u64 a1_3, .slice A1_4 l1_4.length c1_4, .slice A1_5 l1_5.length c1_5] 26 (0, 0)) (by (with_reducible repeat (first | refine blk_drewN ?_ _ | refine blk_drew ?_ | refine blk_alloc ?_ _)); exact BK667.out)) : gb667 ≠ gb668)); have n9_ := Aside0.mk ((by rw [hg]; exact Nat.ne_of_gt (blk_lt (g := gb667) (o := .cells #[.int .u64 a1_0, .int .u64 a1_1, .int .u64 a1_2, .int .u64 a1_3, .slice A1_4 l1_4.length c1_4, .slice A1_5 l1_5.length c1_5] 26 (0, 0)) (by (with_reducible repeat (first | refine blk_drewN ?_ _ | refine blk_drew ?_ | refine blk_alloc ?_ _)); exact BK667.out)) : gb668 ≠ gb667)); clear BK666; clear BK667; clear HB; have BK666 := n0_; have BK667 := n1_; have HB := n2_; have BK668 := n3_; have GW668 := n4_; have GE668 := n5_; have NB666_668 := n6_; have NB668_666 := n7_; have NB667_668 := n8_; have NB668_667 := n9_; clear n0_ n1_ n2_ n3_ n4_ n5_ n6_ n7_ n8_ n9_; clear hb hbox hg))
 have n0_ := Aside0.mk (blk_drew BK666.out)
 have n1_ := Aside0.mk (blk_drew BK667.out)
 have n2_ := Aside0.mk (blk_drew BK668.out)
 have n3_ := Aside0.mk (below_drew1 HB.out)
 clear BK666; clear BK667; clear BK668; clear HB; have BK666 := n0_; have BK667 := n1_; have BK668 := n2_; have HB := n3_; clear n0_ n1_ n2_ n3_
 refine start_ (n := 36) (S := fun w' => w'.cell? ⟨gb666, 0, none⟩ = some (.int .u64 a0_0) ∧ w'.cell? ⟨gb666, 1, none⟩ = some (.int .u64 a0_1) ∧ w'.cell? ⟨gb666, 2, none⟩ = some (.int .u64 a0_2) ∧ w'.cell? ⟨gb666, 3, none⟩ = some (.int .u64 a0_3) ∧ w'.cell? ⟨gb666, 4, none⟩ = some (.slice A0_4 l0_4.length c0_4) ∧ w'.cell? ⟨gb666, 5, none⟩ = some (.slice A0_5 l0_5.length c0_5) ∧ w'.cell? ⟨gb667, 0, none⟩ = some (.int .u64 a1_0) ∧ w'.cell? ⟨gb667, 1, none⟩ = some (.int .u64 a1_1) ∧ w'.cell? ⟨gb667, 2, none⟩ = some (.int .u64 a1_2) ∧ w'.cell? ⟨gb667, 3, none⟩ = some (.int .u64 a1_3) ∧ w'.cell? ⟨gb667, 4, none⟩ = some (.slice A1_4 l1_4.length c1_4) ∧ w'.cell? ⟨gb667, 5, none⟩ = some (.slice A1_5 l1_5.length c1_5)) (ds := []) (fst_ 36 0) (by kernel_rfl) rfl rfl ⟨(blk_cell BK666.out 0).trans rfl, (blk_cell BK666.out 1).trans rfl, (blk_cell BK666.out 2).trans rfl, (blk_cell BK666.out 3).trans rfl, (blk_cell BK666.out 4).trans rfl, (blk_cell BK666.out 5).trans rfl, (blk_cell BK667.out 0).trans rfl, (blk_cell BK667.out 1).trans rfl, (blk_cell BK667.out 2).trans rfl, (blk_cell BK667.out 3).trans rfl, (blk_cell BK667.out 4).trans rfl, (blk_cell BK667.out 5).trans rfl⟩ (fun hHeld => ?_); refine with_tabW conductorref10_Join.tab1 conductorref10_Join.bits1 (fun HT_ HW_ => ?_)
 generalize w14.drew = w15 at BK666 BK667 BK668 HB hHeld ⊢
 (refine pk_ (v := ?_) (a' := ?_) HT_.out rfl rfl (by kernel_rfl) (fun _ _ _ h => h) (Or.inl ⟨by rfl, ?_⟩) ?_ ?_; rotate_left; (· intro w'; go_simp; with_reducible rfl); rotate_left; (· simp only [Act.put, List.setIfInBounds_toArray, List.set_cons_zero, List.set_cons_succ, i64_w, i32_w]; rfl))
 refine pure_ (i := 2) (N := some 9) (v := ?_) (a' := ?_) #[true, false, true, false, false, false, false, false, false, false, false, false, false, false, false, false, false, false, false, false, false, false, false, false, false, false, false, false, false, false, false, false, false, false, false, false] rfl rfl (any_of HT_.out (by kernel_rfl)) (fun _ _ _ h => h) (Or.inl ⟨by rfl, ?_⟩) ?_ ?_
 rotate_left
 ·intro w'
  go_simp
  with_reducible rfl
 rotate_left
 ·simp only [Act.put, List.setIfInBounds_toArray, List.set_cons_zero, List.set_cons_succ, i64_w, i32_w]
  rfl
 refine pure_ (i := 5) (N := some 12) (v := ?_) (a' := ?_) #[true, false, true, false, false, true, false, false, false, false, false, false, false, false, false, false, false, false, false, false, false, false, false, false, false, false, false, false, false, false, false, false, false, false, false, false] rfl rfl (any_of HT_.out (by kernel_rfl)) (fun _ _ _ h => h) (Or.inl ⟨by rfl, ?_⟩) ?_ ?_
 rotate_left
 ·intro w'
  go_simp
  with_reducible rfl
 rotate_left
 ·simp only [Act.put, List.setIfInBounds_toArray, List.set_cons_zero, List.set_cons_succ, i64_w, i32_w]
  rfl
 refine pure_ (i := 7) (N := some 14) (v := ?_) (a' := ?_) #[true, false, true, false, false, true, false, true, false, false, false, false, false, false, false, false, false, false, false, false, false, false, false, false, false, false, false, false, false, false, false, false, false, false, false, false] rfl rfl (any_of HT_.out (by kernel_rfl)) (fun _ _ _ h => h) (Or.inl ⟨by rfl, ?_⟩) ?_ ?_
 rotate_left
 ·intro w'
  go_simp
  with_reducible rfl
 rotate_left
 ·simp only [Act.put, List.setIfInBounds_toArray, List.set_cons_zero, List.set_cons_succ, i64_w, i32_w]
  rfl
 refine pure_ (i := 10) (N := some 17) (v := ?_) (a' := ?_) #[true, false, true, false, false, true, false, true, false, false, true, false, false, false, false, false, false, false, false, false, false, false, false, false, false, false, false, false, false, false, false, false, false, false, false, false] rfl rfl (any_of HT_.out (by kernel_rfl)) (fun _ _ _ h => h) (Or.inl ⟨by rfl, ?_⟩) ?_ ?_
 rotate_left
 ·intro w'
  go_simp
  with_reducible rfl
 rotate_left
 ·simp only [Act.put, List.setIfInBounds_toArray, List.set_cons_zero, List.set_cons_succ, i64_w, i32_w]
  rfl
 refine pure_ (i := 12) (N := some 19) (v := ?_) (a' := ?_) #[true, false, true, false, false, true, false, true, false, false, true, false, true, false, false, false, false, false, false, false, false, false, false, false, false, false, false, false, false, false, false, false, false, false, false, false] rfl rfl (any_of HT_.out (by kernel_rfl)) (fun _ _ _ h => h) (Or.inl ⟨by rfl, ?_⟩) ?_ ?_
 rotate_left
 ·intro w'
  go_simp
  with_reducible rfl
 rotate_left
 ·simp only [Act.put, List.setIfInBounds_toArray, List.set_cons_zero, List.set_cons_succ, i64_w, i32_w]
  rfl
 refine pure_ (i := 15) (N := some 22) (v := ?_) (a' := ?_) #[true, false, true, false, false, true, false, true, false, false, true, false, true, false, false, true, false, false, false, false, false, false, false, false, false, false, false, false, false, false, false, false, false, false, false, false] rfl rfl (any_of HT_.out (by kernel_rfl)) (fun _ _ _ h => h) (Or.inl ⟨by rfl, ?_⟩) ?_ ?_
 rotate_left
 ·intro w'
  go_simp
  with_reducible rfl
 rotate_left
 ·simp only [Act.put, List.setIfInBounds_toArray, List.set_cons_zero, List.set_cons_succ, i64_w, i32_w]
  rfl
 refine pure_ (i := 17) (N := some 24) (v := ?_) (a' := ?_) #[true, false, true, false, false, true, false, true, false, false, true, false, true, false, false, true, false, true, false, false, false, false, false, false, false, false, false, false, false, false, false, false, false, false, false, false] rfl rfl (any_of HT_.out (by kernel_rfl)) (fun _ _ _ h => h) (Or.inl ⟨by rfl, ?_⟩) ?_ ?_
 rotate_left
 ·intro w'
  go_simp
  with_reducible rfl
 rotate_left
 ·simp only [Act.put, List.setIfInBounds_toArray, List.set_cons_zero, List.set_cons_succ, i64_w, i32_w]
  rfl
 refine pure_ (i := 20) (N := some 27) (v := ?_) (a' := ?_) #[true, false, true, false, false, true, false, true, false, false, true, false, true, false, false, true, false, true, false, false, true, false, false, false, false, false, false, false, false, false, false, false, false, false, false, false] rfl rfl (any_of HT_.out (by kernel_rfl)) (fun _ _ _ h => h) (Or.inl ⟨by rfl, ?_⟩) ?_ ?_
 rotate_left
 ·intro w'
  go_simp
  with_reducible rfl
 rotate_left
 ·simp only [Act.put, List.setIfInBounds_toArray, List.set_cons_zero, List.set_cons_succ, i64_w, i32_w]
  rfl
 refine pure_ (i := 22) (N := some 29) (v := ?_) (a' := ?_) #[true, false, true, false, false, true, false, true, false, false, true, false, true, false, false, true, false, true, false, false, true, false, true, false, false, false, false, false, false, false, false, false, false, false, false, false] rfl rfl (any_of HT_.out (by kernel_rfl)) (fun _ _ _ h => h) (Or.inl ⟨by rfl, ?_⟩) ?_ ?_
 rotate_left
 ·intro w'
  go_simp
  with_reducible rfl
 rotate_left
 ·simp only [Act.put, List.setIfInBounds_toArray, List.set_cons_zero, List.set_cons_succ, i64_w, i32_w]
  rfl
 refine pure_ (i := 25) (N := some 32) (v := ?_) (a' := ?_) #[true, false, true, false, false, true, false, true, false, false, true, false, true, false, false, true, false, true, false, false, true, false, true, false, false, true, false, false, false, false, false, false, false, false, false, false] rfl rfl (any_of HT_.out (by kernel_rfl)) (fun _ _ _ h => h) (Or.inl ⟨by rfl, ?_⟩) ?_ ?_
 rotate_left
 ·intro w'
  go_simp
  with_reducible rfl
 rotate_left
 ·simp only [Act.put, List.setIfInBounds_toArray, List.set_cons_zero, List.set_cons_succ, i64_w, i32_w]
  rfl
 refine pure_ (i := 27) (N := some 34) (v := ?_) (a' := ?_) #[true, false, true, false, false, true, false, true, false, false, true, false, true, false, false, true, false, true, false, false, true, false, true, false, false, true, false, true, false, false, false, false, false, false, false, false] rfl rfl (any_of HT_.out (by kernel_rfl)) (fun _ _ _ h => h) (Or.inl ⟨by rfl, ?_⟩) ?_ ?_
 rotate_left
 ·intro w'
  go_simp
  with_reducible rfl
 rotate_left
 ·simp only [Act.put, List.setIfInBounds_toArray, List.set_cons_zero, List.set_cons_succ, i64_w, i32_w]
  rfl
 refine pure_ (i := 29) (N := some 36) (v := ?_) (a' := ?_) #[true, false, true, false, false, true, false, true, false, false, true, false, true, false, false, true, false, true, false, false, true, false, true, false, false, true, false, true, false, true, false, false, false, false, false, false] rfl rfl (any_of HT_.out (by kernel_rfl)) (fun _ _ _ h => h) (Or.inl ⟨by rfl, ?_⟩) ?_ ?_
 rotate_left
 ·intro w'
  go_simp
  with_reducible rfl
 rotate_left
 ·simp only [Act.put, List.setIfInBounds_toArray, List.set_cons_zero, List.set_cons_succ, i64_w, i32_w]
  rfl
 refine pure_ (i := 32) (N := some 39) (v := ?_) (a' := ?_) #[true, false, true, false, false, true, false, true, false, false, true, false, true, false, false, true, false, true, false, false, true, false, true, false, false, true, false, true, false, true, false, false, true, false, false, false] rfl rfl (any_of HT_.out (by kernel_rfl)) (fun _ _ _ h => h) (Or.inl ⟨by rfl, ?_⟩) ?_ ?_
 rotate_left
 ·intro w'
  go_simp
  with_reducible rfl
 rotate_left
 ·simp only [Act.put, List.setIfInBounds_toArray, List.set_cons_zero, List.set_cons_succ, i64_w, i32_w]
  rfl
 refine take_ (i := 1) (N := some 8) (v := ?_) (a' := ?_) #[true, true, true, false, false, true, false, true, false, false, true, false, true, false, false, true, false, true, false, false, true, false, true, false, false, true, false, true, false, true, false, false, true, false, false, false] rfl rfl (take_ofW HT_.out HW_.out (by kernel_rfl)) (fun _ _ _ h => h) (Or.inl ⟨by rfl, ?_⟩) hHeld ?_ ?_
 rotate_left
 ·rintro w' ⟨s0, s1, s2, s3, s4, s5, s6, s7, s8, s9, s10, s11⟩
  go_simp
  with_reducible rfl
 rotate_left
 ·simp only [Act.put, List.setIfInBounds_toArray, List.set_cons_zero, List.set_cons_succ, i64_w, i32_w]
  rfl
 refine take_ (i := 3) (N := some 10) (v := ?_) (a' := ?_) #[true, true, true, true, false, true, false, true, false, false, true, false, true, false, false, true, false, true, false, false, true, false, true, false, false, true, false, true, false, true, false, false, true, false, false, false] rfl rfl (take_ofW HT_.out HW_.out (by kernel_rfl)) (fun _ _ _ h => h) (Or.inl ⟨by rfl, ?_⟩) hHeld ?_ ?_
 rotate_left
 ·rintro w' ⟨s0, s1, s2, s3, s4, s5, s6, s7, s8, s9, s10, s11⟩
  go_simp
  with_reducible rfl
 rotate_left
 ·simp only [Act.put, List.setIfInBounds_toArray, List.set_cons_zero, List.set_cons_succ, i64_w, i32_w]
  rfl
 refine pure_ (i := 4) (N := some 11) (v := ?_) (a' := ?_) #[true, true, true, true, true, true, false, true, false, false, true, false, true, false, false, true, false, true, false, false, true, false, true, false, false, true, false, true, false, true, false, false, true, false, false, false] rfl rfl (any_of HT_.out (by kernel_rfl)) (fun _ _ _ h => h) (Or.inl ⟨by rfl, ?_⟩) ?_ ?_
 rotate_left
 ·intro w'
  go_simp
  with_reducible rfl
 rotate_left
 ·simp only [Act.put, List.setIfInBounds_toArray, List.set_cons_zero, List.set_cons_succ, i64_w, i32_w]
  rfl
 refine take_ (i := 6) (N := some 13) (v := ?_) (a' := ?_) #[true, true, true, true, true, true, true, true, false, false, true, false, true, false, false, true, false, true, false, false, true, false, true, false, false, true, false, true, false, true, false, false, true, false, false, false] rfl rfl (take_ofW HT_.out HW_.out (by kernel_rfl)) (fun _ _ _ h => h) (Or.inl ⟨by rfl, ?_⟩) hHeld ?_ ?_
 rotate_left
 ·rintro w' ⟨s0, s1, s2, s3, s4, s5, s6, s7, s8, s9, s10, s11⟩
  go_simp
  with_reducible rfl
 rotate_left
 ·simp only [Act.put, List.setIfInBounds_toArray, List.set_cons_zero, List.set_cons_succ, i64_w, i32_w]
  rfl
 refine take_ (i := 8) (N := some 15) (v := ?_) (a' := ?_) #[true, true, true, true, true, true, true, true, true, false, true, false, true, false, false, true, false, true, false, false, true, false, true, false, false, true, false, true, false, true, false, false, true, false, false, false] rfl rfl (take_ofW HT_.out HW_.out (by kernel_rfl)) (fun _ _ _ h => h) (Or.inl ⟨by rfl, ?_⟩) hHeld ?_ ?_
 rotate_left
 ·rintro w' ⟨s0, s1, s2, s3, s4, s5, s6, s7, s8, s9, s10, s11⟩
  go_simp
  with_reducible rfl
 rotate_left
 ·simp only [Act.put, List.setIfInBounds_toArray, List.set_cons_zero, List.set_cons_succ, i64_w, i32_w]
  rfl
 refine pure_ (i := 9) (N := some 16) (v := ?_) (a' := ?_) #[true, true, true, true, true, true, true, true, true, true, true, false, true, false, false, true, false, true, false, false, true, false, true, false, false, true, false, true, false, true, false, false, true, false, false, false] rfl rfl (any_of HT_.out (by kernel_rfl)) (fun _ _ _ h => h) (Or.inl ⟨by rfl, ?_⟩) ?_ ?_
 rotate_left
 ·intro w'
  go_simp
  with_reducible rfl
 rotate_left
 ·simp only [Act.put, List.setIfInBounds_toArray, List.set_cons_zero, List.set_cons_succ, i64_w, i32_w]
  rfl
 refine take_ (i := 11) (N := some 18) (v := ?_) (a' := ?_) #[true, true, true, true, true, true, true, true, true, true, true, true, true, false, false, true, false, true, false, false, true, false, true, false, false, true, false, true, false, true, false, false, true, false, false, false] rfl rfl (take_ofW HT_.out HW_.out (by kernel_rfl)) (fun _ _ _ h => h) (Or.inl ⟨by rfl, ?_⟩) hHeld ?_ ?_
 rotate_left
 ·rintro w' ⟨s0, s1, s2, s3, s4, s5, s6, s7, s8, s9, s10, s11⟩
  go_simp
  with_reducible rfl
 rotate_left
 ·simp only [Act.put, List.setIfInBounds_toArray, List.set_cons_zero, List.set_cons_succ, i64_w, i32_w]
  rfl
 refine take_ (i := 13) (N := some 20) (v := ?_) (a' := ?_) #[true, true, true, true, true, true, true, true, true, true, true, true, true, true, false, true, false, true, false, false, true, false, true, false, false, true, false, true, false, true, false, false, true, false, false, false] rfl rfl (take_ofW HT_.out HW_.out (by kernel_rfl)) (fun _ _ _ h => h) (Or.inl ⟨by rfl, ?_⟩) hHeld ?_ ?_
 rotate_left
 ·rintro w' ⟨s0, s1, s2, s3, s4, s5, s6, s7, s8, s9, s10, s11⟩
  go_simp
  with_reducible rfl
 rotate_left
 ·simp only [Act.put, List.setIfInBounds_toArray, List.set_cons_zero, List.set_cons_succ, i64_w, i32_w]
  rfl
 refine pure_ (i := 14) (N := some 21) (v := ?_) (a' := ?_) #[true, true, true, true, true, true, true, true, true, true, true, true, true, true, true, true, false, true, false, false, true, false, true, false, false, true, false, true, false, true, false, false, true, false, false, false] rfl rfl (any_of HT_.out (by kernel_rfl)) (fun _ _ _ h => h) (Or.inl ⟨by rfl, ?_⟩) ?_ ?_
 rotate_left
 ·intro w'
  go_simp
  with_reducible rfl
 rotate_left
 ·simp only [Act.put, List.setIfInBounds_toArray, List.set_cons_zero, List.set_cons_succ, i64_w, i32_w]
  rfl
 refine take_ (i := 16) (N := some 23) (v := ?_) (a' := ?_) #[true, true, true, true, true, true, true, true, true, true, true, true, true, true, true, true, true, true, false, false, true, false, true, false, false, true, false, true, false, true, false, false, true, false, false, false] rfl rfl (take_ofW HT_.out HW_.out (by kernel_rfl)) (fun _ _ _ h => h) (Or.inl ⟨by rfl, ?_⟩) hHeld ?_ ?_
 rotate_left
 ·rintro w' ⟨s0, s1, s2, s3, s4, s5, s6, s7, s8, s9, s10, s11⟩
  go_simp
  with_reducible rfl
 rotate_left
 ·simp only [Act.put, List.setIfInBounds_toArray, List.set_cons_zero, List.set_cons_succ, i64_w, i32_w]
  rfl
 refine take_ (i := 18) (N := some 25) (v := ?_) (a' := ?_) #[true, true, true, true, true, true, true, true, true, true, true, true, true, true, true, true, true, true, true, false, true, false, true, false, false, true, false, true, false, true, false, false, true, false, false, false] rfl rfl (take_ofW HT_.out HW_.out (by kernel_rfl)) (fun _ _ _ h => h) (Or.inl ⟨by rfl, ?_⟩) hHeld ?_ ?_
 rotate_left
 ·rintro w' ⟨s0, s1, s2, s3, s4, s5, s6, s7, s8, s9, s10, s11⟩
  go_simp
  with_reducible rfl
 rotate_left
 ·simp only [Act.put, List.setIfInBounds_toArray, List.set_cons_zero, List.set_cons_succ, i64_w, i32_w]
  rfl
 refine take_ (i := 21) (N := some 28) (v := ?_) (a' := ?_) #[true, true, true, true, true, true, true, true, true, true, true, true, true, true, true, true, true, true, true, false, true, true, true, false, false, true, false, true, false, true, false, false, true, false, false, false] rfl rfl (take_ofW HT_.out HW_.out (by kernel_rfl)) (fun _ _ _ h => h) (Or.inl ⟨by rfl, ?_⟩) hHeld ?_ ?_
 rotate_left
 ·rintro w' ⟨s0, s1, s2, s3, s4, s5, s6, s7, s8, s9, s10, s11⟩
  go_simp
  with_reducible rfl
 rotate_left
 ·simp only [Act.put, List.setIfInBounds_toArray, List.set_cons_zero, List.set_cons_succ, i64_w, i32_w]
  rfl
 refine take_ (i := 23) (N := some 30) (v := ?_) (a' := ?_) #[true, true, true, true, true, true, true, true, true, true, true, true, true, true, true, true, true, true, true, false, true, true, true, true, false, true, false, true, false, true, false, false, true, false, false, false] rfl rfl (take_ofW HT_.out HW_.out (by kernel_rfl)) (fun _ _ _ h => h) (Or.inl ⟨by rfl, ?_⟩) hHeld ?_ ?_
 rotate_left
 ·rintro w' ⟨s0, s1, s2, s3, s4, s5, s6, s7, s8, s9, s10, s11⟩
  go_simp
  with_reducible rfl
 rotate_left
 ·simp only [Act.put, List.setIfInBounds_toArray, List.set_cons_zero, List.set_cons_succ, i64_w, i32_w]
  rfl
 refine take_ (i := 28) (N := some 35) (v := ?_) (a' := ?_) #[true, true, true, true, true, true, true, true, true, true, true, true, true, true, true, true, true, true, true, false, true, true, true, true, false, true, false, true, true, true, false, false, true, false, false, false] rfl rfl (take_ofW HT_.out HW_.out (by kernel_rfl)) (fun _ _ _ h => h) (Or.inl ⟨by rfl, ?_⟩) hHeld ?_ ?_
 rotate_left
 ·rintro w' ⟨s0, s1, s2, s3, s4, s5, s6, s7, s8, s9, s10, s11⟩
  go_simp
  with_reducible rfl
 rotate_left
 ·simp only [Act.put, List.setIfInBounds_toArray, List.set_cons_zero, List.set_cons_succ, i64_w, i32_w]
  rfl
 refine take_ (i := 30) (N := some 37) (v := ?_) (a' := ?_) #[true, true, true, true, true, true, true, true, true, true, true, true, true, true, true, true, true, true, true, false, true, true, true, true, false, true, false, true, true, true, true, false, true, false, false, false] rfl rfl (take_ofW HT_.out HW_.out (by kernel_rfl)) (fun _ _ _ h => h) (Or.inl ⟨by rfl, ?_⟩) hHeld ?_ ?_
 rotate_left
 ·rintro w' ⟨s0, s1, s2, s3, s4, s5, s6, s7, s8, s9, s10, s11⟩
  go_simp
  with_reducible rfl
 rotate_left
 ·simp only [Act.put, List.setIfInBounds_toArray, List.set_cons_zero, List.set_cons_succ, i64_w, i32_w]
  rfl
 refine one_ (i := 19) (N := some 26) #[true, true, true, true, true, true, true, true, true, true, true, true, true, true, true, true, true, true, true, true, true, true, true, true, false, true, false, true, true, true, true, false, true, false, false, false] rfl rfl (one_of HT_.out (by kernel_rfl)) (by decide) (fun K hK => ?_)
 refine goes_ Try.func73 (by kernel_rfl) rfl #[.int .u64 a0_3, .int .u64 a1_3] (by rfl) rfl rfl sa_ ?_
 with_reducible refine (conductorref10_least.calls a0_3 a1_3 t669 _ A7.out).mono ?_
 rintro e w16 ⟨rfl, hb⟩
 refine ⟨_, rfl, ?_⟩
 have n0_ := Aside0.mk (blk_below (g := gb666) (o := .cells #[.int .u64 a0_0, .int .u64 a0_1, .int .u64 a0_2, .int .u64 a0_3, .slice A0_4 l0_4.length c0_4, .slice A0_5 l0_5.length c0_5] 26 (0, 0)) (by (with_reducible repeat (first | refine blk_drewN ?_ _ | refine blk_drew ?_ | refine blk_alloc ?_ _)); exact BK666.out) hb)
 have n1_ := Aside0.mk (blk_below (g := gb667) (o := .cells #[.int .u64 a1_0, .int .u64 a1_1, .int .u64 a1_2, .int .u64 a1_3, .slice A1_4 l1_4.length c1_4, .slice A1_5 l1_5.length c1_5] 26 (0, 0)) (by (with_reducible repeat (first | refine blk_drewN ?_ _ | refine blk_drew ?_ | refine blk_alloc ?_ _)); exact BK667.out) hb)
 have n2_ := Aside0.mk (blk_below (g := gb668) (o := .cells #[.int .u64 0, .int .u64 0, .int .u64 0, .int .u64 0, .slice none 0 0, .slice none 0 0] 26 (0, 0)) (by (with_reducible repeat (first | refine blk_drewN ?_ _ | refine blk_drew ?_ | refine blk_alloc ?_ _)); exact BK668.out) hb)
 have n3_ := Aside0.mk (below_step bl_ hb)
 clear BK666; clear BK667; clear BK668; clear HB; have BK666 := n0_; have BK667 := n1_; have BK668 := n2_; have HB := n3_; clear n0_ n1_ n2_ n3_
 (try clear hb)
 (try clear hb2)
 (try clear hk)
 (try clear hi)
 refine hK.out _ _ ⟨(blk_cell BK666.out 0).trans rfl, (blk_cell BK666.out 1).trans rfl, (blk_cell BK666.out 2).trans rfl, (blk_cell BK666.out 3).trans rfl, (blk_cell BK666.out 4).trans rfl, (blk_cell BK666.out 5).trans rfl, (blk_cell BK667.out 0).trans rfl, (blk_cell BK667.out 1).trans rfl, (blk_cell BK667.out 2).trans rfl, (blk_cell BK667.out 3).trans rfl, (blk_cell BK667.out 4).trans rfl, (blk_cell BK667.out 5).trans rfl⟩ (fun hHeld => ?_)
 clear hK K; refine norm_ (a' := ?_) ?_ ?_; rotate_left
 ·show Act.put _ (some 26) _ = _
  simp only [Act.put, List.setIfInBounds_toArray, List.set_cons_zero, List.set_cons_succ, i64_w, i32_w]
  rfl
 refine one_ (i := 24) (N := some 31) #[true, true, true, true, true, true, true, true, true, true, true, true, true, true, true, true, true, true, true, true, true, true, true, true, true, true, false, true, true, true, true, false, true, false, false, false] rfl rfl (one_of HT_.out (by kernel_rfl)) (by decide) (fun K hK => ?_)
 refine goes_ Try.func40 (by kernel_rfl) rfl #[.slice A0_4 l0_4.length c0_4, .slice A1_4 l1_4.length c1_4] (by rfl) rfl rfl sa_ ?_
 with_reducible refine (conductorref09_Join.calls k _ _ l0_4 _ _ l1_4 t670 _ ?side1 ?side2 ?side3 ?side4 A8.out).mono ?_
 (case side1 => exact (Kd.C_below HR0_4.out HB.out))
 (case side2 => exact HC0_4.out)
 (case side3 => exact (Kd.C_below HR1_4.out HB.out))
 (case side4 => exact HC1_4.out)
 rintro e w17 ⟨v671, rfl, ho0, hb⟩
 refine ⟨_, rfl, ?_⟩
 have n0_ := Aside0.mk (Kd.R_lower ho0 (below_size bl_))
 have n1_ := Aside0.mk (blk_below (g := gb666) (o := .cells #[.int .u64 a0_0, .int .u64 a0_1, .int .u64 a0_2, .int .u64 a0_3, .slice A0_4 l0_4.length c0_4, .slice A0_5 l0_5.length c0_5] 26 (0, 0)) (by (with_reducible repeat (first | refine blk_drewN ?_ _ | refine blk_drew ?_ | refine blk_alloc ?_ _)); exact BK666.out) hb)
 have n2_ := Aside0.mk (blk_below (g := gb667) (o := .cells #[.int .u64 a1_0, .int .u64 a1_1, .int .u64 a1_2, .int .u64 a1_3, .slice A1_4 l1_4.length c1_4, .slice A1_5 l1_5.length c1_5] 26 (0, 0)) (by (with_reducible repeat (first | refine blk_drewN ?_ _ | refine blk_drew ?_ | refine blk_alloc ?_ _)); exact BK667.out) hb)
 have n3_ := Aside0.mk (blk_below (g := gb668) (o := .cells #[.int .u64 0, .int .u64 0, .int .u64 0, .int .u64 0, .slice none 0 0, .slice none 0 0] 26 (0, 0)) (by (with_reducible repeat (first | refine blk_drewN ?_ _ | refine blk_drew ?_ | refine blk_alloc ?_ _)); exact BK668.out) hb)
 have n4_ := Aside0.mk (below_step bl_ hb)
 clear BK666; clear BK667; clear BK668; clear HB; have HO672 := n0_; have BK666 := n1_; have BK667 := n2_; have BK668 := n3_; have HB := n4_; clear n0_ n1_ n2_ n3_ n4_
 (try clear hb)
 (try clear hb2)
 (try clear hk)
 (try clear hi)
 (try clear ho0)
 obtain ⟨Ao18, co18, eo18⟩ := Kd.R_slice HO672.out
 (first | subst eo18 | (injection eo18 with f1_ f2_ f3_; have f4_ := f1_.symm; have f5_ := f3_.symm; clear f1_ f2_ f3_; subst f4_; subst f5_))
 refine hK.out _ _ ⟨(blk_cell BK666.out 0).trans rfl, (blk_cell BK666.out 1).trans rfl, (blk_cell BK666.out 2).trans rfl, (blk_cell BK666.out 3).trans rfl, (blk_cell BK666.out 4).trans rfl, (blk_cell BK666.out 5).trans rfl, (blk_cell BK667.out 0).trans rfl, (blk_cell BK667.out 1).trans rfl, (blk_cell BK667.out 2).trans rfl, (blk_cell BK667.out 3).trans rfl, (blk_cell BK667.out 4).trans rfl, (blk_cell BK667.out 5).trans rfl⟩ (fun hHeld => ?_)
 clear hK K; refine norm_ (a' := ?_) ?_ ?_; rotate_left
 ·show Act.put _ (some 31) _ = _
  simp only [Act.put, List.setIfInBounds_toArray, List.set_cons_zero, List.set_cons_succ, i64_w, i32_w]
  rfl
 refine one_ (i := 26) (N := some 33) #[true, true, true, true, true, true, true, true, true, true, true, true, true, true, true, true, true, true, true, true, true, true, true, true, true, true, true, true, true, true, true, false, true, false, false, false] rfl rfl (one_of HT_.out (by kernel_rfl)) (by decide) (fun K hK => ?_)
 refine goes_ Try.func25 (by kernel_rfl) rfl #[.slice Ao18 t670.length co18, .int .i64 a2] (by rfl) rfl rfl sa_ ?_
 with_reducible refine (conductorref09_Fit.calls k _ _ t670 a2 t673 _ ?side1 ?side2 A9.out).mono ?_
 (case side1 => exact (Kd.R_reads' HO672.out).2.2)
 (case side2 => exact (Kd.R_reads' HO672.out).2.1)
 rintro e w19 ⟨v674, rfl, ho0, hb⟩
 refine ⟨_, rfl, ?_⟩
 have n0_ := Aside0.mk (Kd.R_elder' (by exact HO672.out) (Kd.R_base ho0) hb)
 have n1_ := Aside0.mk (Kd.R_lower (Kd.R_new' ho0 (Kd.R_lt (by exact HO672.out))) (below_size bl_))
 have n2_ := Aside0.mk (blk_below (g := gb666) (o := .cells #[.int .u64 a0_0, .int .u64 a0_1, .int .u64 a0_2, .int .u64 a0_3, .slice A0_4 l0_4.length c0_4, .slice A0_5 l0_5.length c0_5] 26 (0, 0)) (by (with_reducible repeat (first | refine blk_drewN ?_ _ | refine blk_drew ?_ | refine blk_alloc ?_ _)); exact BK666.out) hb)
 have n3_ := Aside0.mk (blk_below (g := gb667) (o := .cells #[.int .u64 a1_0, .int .u64 a1_1, .int .u64 a1_2, .int .u64 a1_3, .slice A1_4 l1_4.length c1_4, .slice A1_5 l1_5.length c1_5] 26 (0, 0)) (by (with_reducible repeat (first | refine blk_drewN ?_ _ | refine blk_drew ?_ | refine blk_alloc ?_ _)); exact BK667.out) hb)
 have n4_ := Aside0.mk (blk_below (g := gb668) (o := .cells #[.int .u64 0, .int .u64 0, .int .u64 0, .int .u64 0, .slice none 0 0, .slice none 0 0] 26 (0, 0)) (by (with_reducible repeat (first | refine blk_drewN ?_ _ | refine blk_drew ?_ | refine blk_alloc ?_ _)); exact BK668.out) hb)
 have n5_ := Aside0.mk (below_step bl_ hb)
 clear HO672; clear BK666; clear BK667; clear BK668; clear HB; have HO672 := n0_; have HO675 := n1_; have BK666 := n2_; have BK667 := n3_; have BK668 := n4_; have HB := n5_; clear n0_ n1_ n2_ n3_ n4_ n5_
 (try clear hb)
 (try clear hb2)
 (try clear hk)
 (try clear hi)
 (try clear ho0)
 refine hK.out _ _ ⟨(blk_cell BK666.out 0).trans rfl, (blk_cell BK666.out 1).trans rfl, (blk_cell BK666.out 2).trans rfl, (blk_cell BK666.out 3).trans rfl, (blk_cell BK666.out 4).trans rfl, (blk_cell BK666.out 5).trans rfl, (blk_cell BK667.out 0).trans rfl, (blk_cell BK667.out 1).trans rfl, (blk_cell BK667.out 2).trans rfl, (blk_cell BK667.out 3).trans rfl, (blk_cell BK667.out 4).trans rfl, (blk_cell BK667.out 5).trans rfl⟩ (fun hHeld => ?_)
 clear hK K; refine norm_ (a' := ?_) ?_ ?_; rotate_left
 ·show Act.put _ (some 33) _ = _
  simp only [Act.put, List.setIfInBounds_toArray, List.set_cons_zero, List.set_cons_succ, i64_w, i32_w]
  rfl
 refine one_ (i := 31) (N := some 38) (fst_ 36 33) rfl rfl (one_of HT_.out (by kernel_rfl)) (by decide) (fun K hK => ?_)
 refine goes_ Try.func40 (by kernel_rfl) rfl #[.slice A0_5 l0_5.length c0_5, .slice A1_5 l1_5.length c1_5] (by rfl) rfl rfl sa_ ?_
 with_reducible refine (conductorref09_Join.calls k _ _ l0_5 _ _ l1_5 t676 _ ?side1 ?side2 ?side3 ?side4 A10.out).mono ?_
 (case side1 => exact (Kd.C_below HR0_5.out HB.out))
 (case side2 => exact HC0_5.out)
 (case side3 => exact (Kd.C_below HR1_5.out HB.out))
 (case side4 => exact HC1_5.out)
 rintro e w20 ⟨v677, rfl, ho0, hb⟩
 refine ⟨_, rfl, ?_⟩
 have n0_ := Aside0.mk (Kd.R_elder' (by exact HO672.out) (Kd.R_base ho0) hb)
 have n1_ := Aside0.mk (Kd.R_elder' (by exact HO675.out) (Kd.R_base ho0) hb)
 have n2_ := Aside0.mk (Kd.R_lower (Kd.R_new' (Kd.R_new' ho0 (Kd.R_lt (by exact HO672.out))) (Kd.R_lt (by exact HO675.out))) (below_size bl_))
 have n3_ := Aside0.mk (blk_below (g := gb666) (o := .cells #[.int .u64 a0_0, .int .u64 a0_1, .int .u64 a0_2, .int .u64 a0_3, .slice A0_4 l0_4.length c0_4, .slice A0_5 l0_5.length c0_5] 26 (0, 0)) (by (with_reducible repeat (first | refine blk_drewN ?_ _ | refine blk_drew ?_ | refine blk_alloc ?_ _)); exact BK666.out) hb)
 have n4_ := Aside0.mk (blk_below (g := gb667) (o := .cells #[.int .u64 a1_0, .int .u64 a1_1, .int .u64 a1_2, .int .u64 a1_3, .slice A1_4 l1_4.length c1_4, .slice A1_5 l1_5.length c1_5] 26 (0, 0)) (by (with_reducible repeat (first | refine blk_drewN ?_ _ | refine blk_drew ?_ | refine blk_alloc ?_ _)); exact BK667.out) hb)
 have n5_ := Aside0.mk (blk_below (g := gb668) (o := .cells #[.int .u64 0, .int .u64 0, .int .u64 0, .int .u64 0, .slice none 0 0, .slice none 0 0] 26 (0, 0)) (by (with_reducible repeat (first | refine blk_drewN ?_ _ | refine blk_drew ?_ | refine blk_alloc ?_ _)); exact BK668.out) hb)
 have n6_ := Aside0.mk (below_step bl_ hb)
 clear HO672; clear HO675; clear BK666; clear BK667; clear BK668; clear HB; have HO672 := n0_; have HO675 := n1_; have HO678 := n2_; have BK666 := n3_; have BK667 := n4_; have BK668 := n5_; have HB := n6_; clear n0_ n1_ n2_ n3_ n4_ n5_ n6_
 (try clear hb)
 (try clear hb2)
 (try clear hk)
 (try clear hi)
 (try clear ho0)
 obtain ⟨Ao21, co21, eo21⟩ := Kd.R_slice HO678.out
 (first | subst eo21 | (injection eo21 with f1_ f2_ f3_; have f4_ := f1_.symm; have f5_ := f3_.symm; clear f1_ f2_ f3_; subst f4_; subst f5_))
 refine hK.out _ _ ⟨(blk_cell BK666.out 0).trans rfl, (blk_cell BK666.out 1).trans rfl, (blk_cell BK666.out 2).trans rfl, (blk_cell BK666.out 3).trans rfl, (blk_cell BK666.out 4).trans rfl, (blk_cell BK666.out 5).trans rfl, (blk_cell BK667.out 0).trans rfl, (blk_cell BK667.out 1).trans rfl, (blk_cell BK667.out 2).trans rfl, (blk_cell BK667.out 3).trans rfl, (blk_cell BK667.out 4).trans rfl, (blk_cell BK667.out 5).trans rfl⟩ (fun hHeld => ?_)
 clear hK K; refine norm_ (a' := ?_) ?_ ?_; rotate_left
 ·show Act.put _ (some 38) _ = _
  simp only [Act.put, List.setIfInBounds_toArray, List.set_cons_zero, List.set_cons_succ, i64_w, i32_w]
  rfl
 refine one_ (i := 33) (N := some 40) (fst_ 36 34) rfl rfl (one_of HT_.out (by kernel_rfl)) (by decide) (fun K hK => ?_)
 refine goes_ Try.func25 (by kernel_rfl) rfl #[.slice Ao21 t676.length co21, .int .i64 a2] (by rfl) rfl rfl sa_ ?_
 with_reducible refine (conductorref09_Fit.calls k _ _ t676 a2 t679 _ ?side1 ?side2 A11.out).mono ?_
 (case side1 => exact (Kd.R_reads' HO678.out).2.2)
 (case side2 => exact (Kd.R_reads' HO678.out).2.1)
 rintro e w22 ⟨v680, rfl, ho0, hb⟩
 refine ⟨_, rfl, ?_⟩
 have n0_ := Aside0.mk (Kd.R_elder' (by exact HO672.out) (Kd.R_base ho0) hb)
 have n1_ := Aside0.mk (Kd.R_elder' (by exact HO675.out) (Kd.R_base ho0) hb)
 have n2_ := Aside0.mk (Kd.R_elder' (by exact HO678.out) (Kd.R_base ho0) hb)
 have n3_ := Aside0.mk (Kd.R_lower (Kd.R_new' (Kd.R_new' (Kd.R_new' ho0 (Kd.R_lt (by exact HO672.out))) (Kd.R_lt (by exact HO675.out))) (Kd.R_lt (by exact HO678.out))) (below_size bl_))
 have n4_ := Aside0.mk (blk_below (g := gb666) (o := .cells #[.int .u64 a0_0, .int .u64 a0_1, .int .u64 a0_2, .int .u64 a0_3, .slice A0_4 l0_4.length c0_4, .slice A0_5 l0_5.length c0_5] 26 (0, 0)) (by (with_reducible repeat (first | refine blk_drewN ?_ _ | refine blk_drew ?_ | refine blk_alloc ?_ _)); exact BK666.out) hb)
 have n5_ := Aside0.mk (blk_below (g := gb667) (o := .cells #[.int .u64 a1_0, .int .u64 a1_1, .int .u64 a1_2, .int .u64 a1_3, .slice A1_4 l1_4.length c1_4, .slice A1_5 l1_5.length c1_5] 26 (0, 0)) (by (with_reducible repeat (first | refine blk_drewN ?_ _ | refine blk_drew ?_ | refine blk_alloc ?_ _)); exact BK667.out) hb)
 have n6_ := Aside0.mk (blk_below (g := gb668) (o := .cells #[.int .u64 0, .int .u64 0, .int .u64 0, .int .u64 0, .slice none 0 0, .slice none 0 0] 26 (0, 0)) (by (with_reducible repeat (first | refine blk_drewN ?_ _ | refine blk_drew ?_ | refine blk_alloc ?_ _)); exact BK668.out) hb)
 have n7_ := Aside0.mk (below_step bl_ hb)
 clear HO672; clear HO675; clear HO678; clear BK666; clear BK667; clear BK668; clear HB; have HO672 := n0_; have HO675 := n1_; have HO678 := n2_; have HO681 := n3_; have BK666 := n4_; have BK667 := n5_; have BK668 := n6_; have HB := n7_; clear n0_ n1_ n2_ n3_ n4_ n5_ n6_ n7_
 (try clear hb)
 (try clear hb2)
 (try clear hk)
 (try clear hi)
 (try clear ho0)
 obtain ⟨Ao23, co23, eo23⟩ := Kd.R_slice HO681.out
 (first | subst eo23 | (injection eo23 with f1_ f2_ f3_; have f4_ := f1_.symm; have f5_ := f3_.symm; clear f1_ f2_ f3_; subst f4_; subst f5_))
 obtain ⟨Ao24, co24, eo24⟩ := Kd.R_slice HO675.out
 (first | subst eo24 | (injection eo24 with f1_ f2_ f3_; have f4_ := f1_.symm; have f5_ := f3_.symm; clear f1_ f2_ f3_; subst f4_; subst f5_))
 refine hK.out _ _ ⟨(blk_cell BK666.out 0).trans rfl, (blk_cell BK666.out 1).trans rfl, (blk_cell BK666.out 2).trans rfl, (blk_cell BK666.out 3).trans rfl, (blk_cell BK666.out 4).trans rfl, (blk_cell BK666.out 5).trans rfl, (blk_cell BK667.out 0).trans rfl, (blk_cell BK667.out 1).trans rfl, (blk_cell BK667.out 2).trans rfl, (blk_cell BK667.out 3).trans rfl, (blk_cell BK667.out 4).trans rfl, (blk_cell BK667.out 5).trans rfl⟩ (fun hHeld => ?_)
 clear hK K; refine norm_ (a' := ?_) ?_ ?_; rotate_left
 ·show Act.put _ (some 40) _ = _
  simp only [Act.put, List.setIfInBounds_toArray, List.set_cons_zero, List.set_cons_succ, i64_w, i32_w]
  rfl
 (refine pk_ (v := ?_) (a' := ?_) HT_.out rfl rfl (by kernel_rfl) (fun _ _ _ h => h) (Or.inl ⟨by rfl, ?_⟩) ?_ ?_; rotate_left; (· intro w'; go_simp; with_reducible rfl); rotate_left; (· simp only [Act.put, List.setIfInBounds_toArray, List.set_cons_zero, List.set_cons_succ, i64_w, i32_w]; rfl))
 refine one_ (i := 35) (N := none) (fst_ 36 36) rfl rfl (one_of HT_.out (by kernel_rfl)) (by decide) (fun K hK => ?_)
 have hs25 : w22.cell? ⟨gb668, 0, none⟩ = some (.int .u64 0) := (blk_cell BK668.out 0).trans rfl
 have hfs25 := blk_frozen BK668.out 0
 have hns25_0 := NB666_668.out
 have hns25_1 := NB667_668.out
 have hms25_0 := NB668_666.out
 have hms25_1 := NB668_667.out
 have hs26 : w22.cell? ⟨gb668, 1, none⟩ = some (.int .u64 0) := (blk_cell BK668.out 1).trans rfl
 have hfs26 := blk_frozen BK668.out 1
 have hns26_0 := NB666_668.out
 have hns26_1 := NB667_668.out
 have hms26_0 := NB668_666.out
 have hms26_1 := NB668_667.out
 have hs27 : w22.cell? ⟨gb668, 2, none⟩ = some (.int .u64 0) := (blk_cell BK668.out 2).trans rfl
 have hfs27 := blk_frozen BK668.out 2
 have hns27_0 := NB666_668.out
 have hns27_1 := NB667_668.out
 have hms27_0 := NB668_666.out
 have hms27_1 := NB668_667.out
 have hs28 : w22.cell? ⟨gb668, 3, none⟩ = some (.int .u64 0) := (blk_cell BK668.out 3).trans rfl
 have hfs28 := blk_frozen BK668.out 3
 have hns28_0 := NB666_668.out
 have hns28_1 := NB667_668.out
 have hms28_0 := NB668_666.out
 have hms28_1 := NB668_667.out
 have hs29 : w22.cell? ⟨gb668, 4, none⟩ = some (.slice none 0 0) := (blk_cell BK668.out 4).trans rfl
 have hfs29 := blk_frozen BK668.out 4
 have hns29_0 := NB666_668.out
 have hns29_1 := NB667_668.out
 have hms29_0 := NB668_666.out
 have hms29_1 := NB668_667.out
 have hs30 : w22.cell? ⟨gb668, 5, none⟩ = some (.slice none 0 0) := (blk_cell BK668.out 5).trans rfl
 have hfs30 := blk_frozen BK668.out 5
 have hns30_0 := NB666_668.out
 have hns30_1 := NB667_668.out
 have hms30_0 := NB668_666.out
 have hms30_1 := NB668_667.out
 refine skip_ (w1 := ?_) (by rfl) rfl ?_ ?_
 rotate_left
 ·go_simp
  rfl
 refine hK.out _ _ ⟨((cell_far (p := ⟨gb668, _, none⟩) NB666_668.out _).trans (((cell_far (p := ⟨gb668, _, none⟩) NB666_668.out _).trans (((cell_far (p := ⟨gb668, _, none⟩) NB666_668.out _).trans (((cell_far (p := ⟨gb668, _, none⟩) NB666_668.out _).trans (((cell_far (p := ⟨gb668, _, none⟩) NB666_668.out _).trans (((cell_far (p := ⟨gb668, _, none⟩) NB666_668.out _).trans (hHeld.1)))))))))))), ((cell_far (p := ⟨gb668, _, none⟩) NB666_668.out _).trans (((cell_far (p := ⟨gb668, _, none⟩) NB666_668.out _).trans (((cell_far (p := ⟨gb668, _, none⟩) NB666_668.out _).trans (((cell_far (p := ⟨gb668, _, none⟩) NB666_668.out _).trans (((cell_far (p := ⟨gb668, _, none⟩) NB666_668.out _).trans (((cell_far (p := ⟨gb668, _, none⟩) NB666_668.out _).trans (hHeld.2.1)))))))))))), ((cell_far (p := ⟨gb668, _, none⟩) NB666_668.out _).trans (((cell_far (p := ⟨gb668, _, none⟩) NB666_668.out _).trans (((cell_far (p := ⟨gb668, _, none⟩) NB666_668.out _).trans (((cell_far (p := ⟨gb668, _, none⟩) NB666_668.out _).trans (((cell_far (p := ⟨gb668, _, none⟩) NB666_668.out _).trans (((cell_far (p := ⟨gb668, _, none⟩) NB666_668.out _).trans (hHeld.2.2.1)))))))))))), ((cell_far (p := ⟨gb668, _, none⟩) NB666_668.out _).trans (((cell_far (p := ⟨gb668, _, none⟩) NB666_668.out _).trans (((cell_far (p := ⟨gb668, _, none⟩) NB666_668.out _).trans (((cell_far (p := ⟨gb668, _, none⟩) NB666_668.out _).trans (((cell_far (p := ⟨gb668, _, none⟩) NB666_668.out _).trans (((cell_far (p := ⟨gb668, _, none⟩) NB666_668.out _).trans (hHeld.2.2.2.1)))))))))))), ((cell_far (p := ⟨gb668, _, none⟩) NB666_668.out _).trans (((cell_far (p := ⟨gb668, _, none⟩) NB666_668.out _).trans (((cell_far (p := ⟨gb668, _, none⟩) NB666_668.out _).trans (((cell_far (p := ⟨gb668, _, none⟩) NB666_668.out _).trans (((cell_far (p := ⟨gb668, _, none⟩) NB666_668.out _).trans (((cell_far (p := ⟨gb668, _, none⟩) NB666_668.out _).trans (hHeld.2.2.2.2.1)))))))))))), ((cell_far (p := ⟨gb668, _, none⟩) NB666_668.out _).trans (((cell_far (p := ⟨gb668, _, none⟩) NB666_668.out _).trans (((cell_far (p := ⟨gb668, _, none⟩) NB666_668.out _).trans (((cell_far (p := ⟨gb668, _, none⟩) NB666_668.out _).trans (((cell_far (p := ⟨gb668, _, none⟩) NB666_668.out _).trans (((cell_far (p := ⟨gb668, _, none⟩) NB666_668.out _).trans (hHeld.2.2.2.2.2.1)))))))))))), ((cell_far (p := ⟨gb668, _, none⟩) NB667_668.out _).trans (((cell_far (p := ⟨gb668, _, none⟩) NB667_668.out _).trans (((cell_far (p := ⟨gb668, _, none⟩) NB667_668.out _).trans (((cell_far (p := ⟨gb668, _, none⟩) NB667_668.out _).trans (((cell_far (p := ⟨gb668, _, none⟩) NB667_668.out _).trans (((cell_far (p := ⟨gb668, _, none⟩) NB667_668.out _).trans (hHeld.2.2.2.2.2.2.1)))))))))))), ((cell_far (p := ⟨gb668, _, none⟩) NB667_668.out _).trans (((cell_far (p := ⟨gb668, _, none⟩) NB667_668.out _).trans (((cell_far (p := ⟨gb668, _, none⟩) NB667_668.out _).trans (((cell_far (p := ⟨gb668, _, none⟩) NB667_668.out _).trans (((cell_far (p := ⟨gb668, _, none⟩) NB667_668.out _).trans (((cell_far (p := ⟨gb668, _, none⟩) NB667_668.out _).trans (hHeld.2.2.2.2.2.2.2.1)))))))))))), ((cell_far (p := ⟨gb668, _, none⟩) NB667_668.out _).trans (((cell_far (p := ⟨gb668, _, none⟩) NB667_668.out _).trans (((cell_far (p := ⟨gb668, _, none⟩) NB667_668.out _).trans (((cell_far (p := ⟨gb668, _, none⟩) NB667_668.out _).trans (((cell_far (p := ⟨gb668, _, none⟩) NB667_668.out _).trans (((cell_far (p := ⟨gb668, _, none⟩) NB667_668.out _).trans (hHeld.2.2.2.2.2.2.2.2.1)))))))))))), ((cell_far (p := ⟨gb668, _, none⟩) NB667_668.out _).trans (((cell_far (p := ⟨gb668, _, none⟩) NB667_668.out _).trans (((cell_far (p := ⟨gb668, _, none⟩) NB667_668.out _).trans (((cell_far (p := ⟨gb668, _, none⟩) NB667_668.out _).trans (((cell_far (p := ⟨gb668, _, none⟩) NB667_668.out _).trans (((cell_far (p := ⟨gb668, _, none⟩) NB667_668.out _).trans (hHeld.2.2.2.2.2.2.2.2.2.1)))))))))))), ((cell_far (p := ⟨gb668, _, none⟩) NB667_668.out _).trans (((cell_far (p := ⟨gb668, _, none⟩) NB667_668.out _).trans (((cell_far (p := ⟨gb668, _, none⟩) NB667_668.out _).trans (((cell_far (p := ⟨gb668, _, none⟩) NB667_668.out _).trans (((cell_far (p := ⟨gb668, _, none⟩) NB667_668.out _).trans (((cell_far (p := ⟨gb668, _, none⟩) NB667_668.out _).trans (hHeld.2.2.2.2.2.2.2.2.2.2.1)))))))))))), ((cell_far (p := ⟨gb668, _, none⟩) NB667_668.out _).trans (((cell_far (p := ⟨gb668, _, none⟩) NB667_668.out _).trans (((cell_far (p := ⟨gb668, _, none⟩) NB667_668.out _).trans (((cell_far (p := ⟨gb668, _, none⟩) NB667_668.out _).trans (((cell_far (p := ⟨gb668, _, none⟩) NB667_668.out _).trans (((cell_far (p := ⟨gb668, _, none⟩) NB667_668.out _).trans (hHeld.2.2.2.2.2.2.2.2.2.2.2))))))))))))⟩ (fun hHeld => ?_)
 clear hK K
 refine done_ (done_of HT_.out (by kernel_rfl)) ?_
 try go_wp2
 refine bodyPost_ret (results_cell_row rfl _ _ gb668 26 #[.int .u64 ji4, .int .u64 ji5, .int .u64 ji6, .int .u64 t669, .slice Ao24 t673.length co24, .slice Ao23 t679.length co23] (0, 0) _ rfl (by (with_reducible repeat (first | refine blk_drewN ?_ _ | refine blk_drew ?_ | refine blk_alloc ?_ _)); refine blk_put (cs := #[.int .u64 ji4, .int .u64 ji5, .int .u64 ji6, .int .u64 t669, .slice Ao24 t673.length co24, .slice none 0 0]) ?_ 5 _ rfl; refine blk_put (cs := #[.int .u64 ji4, .int .u64 ji5, .int .u64 ji6, .int .u64 t669, .slice none 0 0, .slice none 0 0]) ?_ 4 _ rfl; refine blk_put (cs := #[.int .u64 ji4, .int .u64 ji5, .int .u64 ji6, .int .u64 0, .slice none 0 0, .slice none 0 0]) ?_ 3 _ rfl; refine blk_put (cs := #[.int .u64 ji4, .int .u64 ji5, .int .u64 0, .int .u64 0, .slice none 0 0, .slice none 0 0]) ?_ 2 _ rfl; refine blk_put (cs := #[.int .u64 ji4, .int .u64 0, .int .u64 0, .int .u64 0, .slice none 0 0, .slice none 0 0]) ?_ 1 _ rfl; refine blk_put (cs := #[.int .u64 0, .int .u64 0, .int .u64 0, .int .u64 0, .slice none 0 0, .slice none 0 0]) ?_ 0 _ rfl; exact BK668.out) Try.underlying26 rfl (by kernel_rfl)) rfl ?_
 exact ⟨_, _, by first | rfl | (simp [errW_none, errW_some] <;> rfl) | (simp only [← hji4, ← hji5, ← hji6]; first | rfl | (simp [errW_none, errW_some] <;> rfl)) | (simp [*, errW_none, errW_some] <;> rfl), by exact Kd.R_mono (Kd.R_far (p := ⟨gb668, 5, none⟩) (Kd.R_far (p := ⟨gb668, 4, none⟩) (Kd.R_far (p := ⟨gb668, 3, none⟩) (Kd.R_far (p := ⟨gb668, 2, none⟩) (Kd.R_far (p := ⟨gb668, 1, none⟩) (Kd.R_far (p := ⟨gb668, 0, none⟩) (Kd.R_types HO675.out BK668.out (by decide)) (fun _ hk => hk.2) (.int .u64 ji4)) (fun _ hk => hk.2) (.int .u64 ji5)) (fun _ hk => hk.2) (.int .u64 ji6)) (fun _ hk => hk.2) (.int .u64 t669)) (fun _ hk => hk.2) (.slice Ao24 t673.length co24)) (fun _ hk => hk.2) (.slice Ao23 t679.length co23)) (fun _ hk => hk.1.2), by exact Kd.R_mono (Kd.R_far (p := ⟨gb668, 5, none⟩) (Kd.R_far (p := ⟨gb668, 4, none⟩) (Kd.R_far (p := ⟨gb668, 3, none⟩) (Kd.R_far (p := ⟨gb668, 2, none⟩) (Kd.R_far (p := ⟨gb668, 1, none⟩) (Kd.R_far (p := ⟨gb668, 0, none⟩) (Kd.R_types HO681.out BK668.out (by decide)) (fun _ hk => hk.2) (.int .u64 ji4)) (fun _ hk => hk.2) (.int .u64 ji5)) (fun _ hk => hk.2) (.int .u64 ji6)) (fun _ hk => hk.2) (.int .u64 t669)) (fun _ hk => hk.2) (.slice Ao24 t673.length co24)) (fun _ hk => hk.2) (.slice Ao23 t679.length co23)) (fun _ hk => hk.1.1.2), bl_⟩
def conductorref10_Same.l0 : Nat → List (S26) → List (S26) → Int → Int → Option (Bool)
 | 0, _, _, _, _ => none
 | k + 1, x0, x1, x12, x13 => if x13 < x12 then (if 0 ≤ x13 then (if x13 < (x0.length : Int) then (if x13 < (x1.length : Int) then ((conductorref10_SameOne.f k ((rd_T26 x0 x13).f0) ((rd_T26 x0 x13).f1) ((rd_T26 x0 x13).f2) ((rd_T26 x0 x13).f3) ((rd_T26 x0 x13).f4) ((rd_T26 x0 x13).f5) ((rd_T26 x1 x13).f0) ((rd_T26 x1 x13).f1) ((rd_T26 x1 x13).f2) ((rd_T26 x1 x13).f3) ((rd_T26 x1 x13).f4) ((rd_T26 x1 x13).f5)).bind fun t684 => (if t684 = true then (conductorref10_Same.l0 k x0 x1 x12 (wrap64 (x13 + 1))) else (some false))) else (none)) else (none)) else (none)) else (some true)
def conductorref10_Same.f (k : Nat) (l0 : List (S26)) (l1 : List (S26)) : Option (Bool) := if (l0.length : Int) = (l1.length : Int) then (conductorref10_Same.l0 k l0 l1 (l0.length : Int) 0) else (some false)
def conductorref10_Same.T6 : Bool × List (List Nat × List Nat) := (true, [([], []), ([], []), ([0, 1], [0, 1]), ([2], [2]), ([], []), ([], []), ([4, 5], [4, 5]), ([6], [6]), ([3, 7], [3, 7]), ([8], [8])])
def conductorref10_Same.B6 : List Nat := [0, 0, 3, 7, 0, 0, 48, 112, 255, 511]
theorem conductorref10_Same.tab6 : rtab .any (opsOf Try.f49 6) = conductorref10_Same.T6 := by kernel_rfl
theorem conductorref10_Same.bits6 : waitsOk conductorref10_Same.T6.2 conductorref10_Same.B6 = true := by kernel_rfl
set_option maxHeartbeats 8000000 in
set_option maxRecDepth 100000 in
theorem conductorref10_Same.calls (k : Nat) (A0 : Option Addr) (c0 : Nat) (l0 : List (S26)) (A1 : Option Addr) (c1 : Nat) (l1 : List (S26)) (r : Bool) (w : World) (hr0 : Kd.C k26 w A0 l0.length l0) (hc0 : l0.length ≤ c0) (hr1 : Kd.C k26 w A1 l1.length l1) (hc1 : l1.length ≤ c1) (h : conductorref10_Same.f k l0 l1 = some r) :
  Calls Try.prog 49 #[.slice A0 l0.length c0, .slice A1 l1.length c1] w fun e w' => e = .returned (.bool r) ∧ Below w.heap.size w w' := by
 have hu26 := Try.underlying26
 have HR0 := Aside0.mk hr0; have HC0 := Aside0.mk hc0; clear hr0 hc0; have HR1 := Aside0.mk hr1; have HC1 := Aside0.mk hc1; clear hr1 hc1
 have HB := Aside0.mk (Below.refl w.heap.size w)
 have H : (if (l0.length : Int) = (l1.length : Int) then (conductorref10_Same.l0 k l0 l1 (l0.length : Int) 0) else (some false)) = some r := h
 clear h
 by_cases c3 : (l0.length : Int) = (l1.length : Int)
 ·rw [if_pos c3] at H
  have c3b0 : ((l0.length : Int) == (l1.length : Int)) = true := beq_iff_eq.mpr c3
  have c3b1 : ((l0.length : Int) != (l1.length : Int)) = false := bne_eq_false_iff_eq.mpr c3
  have c3b2 : (l0.length == l1.length) = true := by first | simpa using c3 | (simp at c3 ⊢; omega)
  clear c3; have H' := Aside0.mk H; clear H
  go_enter Try.func49, Try.ntmps49
  go_wp2
  go_loopg [13] k (fun kq v13 w' => ∃ (x13_1 : Int), v13 = .int .i64 x13_1 ∧ Aside0 (conductorref10_Same.l0 kq l0 l1 (l0.length : Int) x13_1 = some r) ∧ Aside0 (kq ≤ k) ∧ Aside0 (Below w.heap.size w w'))
  case atStart => exact ⟨(0), (by first | rfl | (simp; done) | (simp [*]; done)), H', ⟨Nat.le_refl _⟩, ⟨bl_⟩⟩
  case round =>
   clear H'; obtain ⟨x13_1, rfl, HA, HK1, HB⟩ := hrel
   cases gk with
   | zero => exact absurd HA.out (by simp [conductorref10_Same.l0])
   | succ k1 =>
    have H := HA.out
    clear HA
    simp only [conductorref10_Same.l0] at H
    by_cases c4 : x13_1 < (l0.length : Int)
    ·rw [if_pos c4] at H
     have c4b0 : decide (x13_1 < (l0.length : Int)) = true := decide_eq_true c4
     clear c4
     by_cases c5 : 0 ≤ x13_1
     ·rw [if_pos c5] at H
      have c5b0 : decide (0 ≤ x13_1) = true := decide_eq_true c5
      clear c5
      by_cases c6 : x13_1 < (l0.length : Int)
      ·rw [if_pos c6] at H
       have c6b0 : decide (x13_1 < (l0.length : Int)) = true := decide_eq_true c6
       clear c6
       by_cases c7 : x13_1 < (l1.length : Int)
       ·rw [if_pos c7] at H
        have c7b0 : decide (x13_1 < (l1.length : Int)) = true := decide_eq_true c7
        clear c7; replace H := Option.bind_eq_some_iff.mp H; obtain ⟨t684, A80, H⟩ := H
        replace H : (if t684 = true then (conductorref10_Same.l0 k1 l0 l1 (l0.length : Int) (wrap64 (x13_1 + 1))) else (some false)) = some r := H
        have A8 := Aside0.mk A80; clear A80
        by_cases c9 : t684 = true
        ·subst c9
         have H1 : (conductorref10_Same.l0 k1 l0 l1 (l0.length : Int) (wrap64 (x13_1 + 1))) = some r := by rw [if_pos rfl] at H; exact H
         clear H; have H := H1; clear H1; have H' := Aside0.mk H; clear H
         try go_wp2
         have n0_ := Aside0.mk (below_drew1 HB.out)
         clear HB; have HB := n0_; clear n0_
         have p682 : 0 ≤ (x13_1 : Int) := od_
         have q682 : x13_1 < (l0.length : Int) := od_
         obtain ⟨ad682, A682_4, c682_4, A682_5, c682_5, e682, hx682_0, hx682_1, hx682_2, hx682_3, hx682_4, hx682_5, hl682_4, hi682_4, hl682_5, hi682_5⟩ := at_T26 HR0.out x13_1 p682 q682
         have hw682_5 := hx682_5
         have hw682_4 := hx682_4
         have hw682_3 := hx682_3
         have hw682_2 := hx682_2
         have hw682_1 := hx682_1
         have hw682_0 := hx682_0
         cases e682
         replace hx682_0 := up_ HB.out hx682_0
         replace hx682_1 := up_ HB.out hx682_1
         replace hx682_2 := up_ HB.out hx682_2
         replace hx682_3 := up_ HB.out hx682_3
         replace hx682_4 := up_ HB.out hx682_4
         replace hx682_5 := up_ HB.out hx682_5
         have HR682_4 := Aside0.mk hi682_4; have HC682_4 := Aside0.mk hl682_4; clear hi682_4 hl682_4; have HR682_5 := Aside0.mk hi682_5; have HC682_5 := Aside0.mk hl682_5; clear hi682_5 hl682_5; replace p682 := eq_true p682; replace q682 := eq_true q682
         have p683 : 0 ≤ (x13_1 : Int) := od_
         have q683 : x13_1 < (l1.length : Int) := od_
         obtain ⟨ad683, A683_4, c683_4, A683_5, c683_5, e683, hx683_0, hx683_1, hx683_2, hx683_3, hx683_4, hx683_5, hl683_4, hi683_4, hl683_5, hi683_5⟩ := at_T26 HR1.out x13_1 p683 q683
         have hw683_5 := hx683_5
         have hw683_4 := hx683_4
         have hw683_3 := hx683_3
         have hw683_2 := hx683_2
         have hw683_1 := hx683_1
         have hw683_0 := hx683_0
         cases e683
         replace hx683_0 := up_ HB.out hx683_0
         replace hx683_1 := up_ HB.out hx683_1
         replace hx683_2 := up_ HB.out hx683_2
         replace hx683_3 := up_ HB.out hx683_3
         replace hx683_4 := up_ HB.out hx683_4
         replace hx683_5 := up_ HB.out hx683_5
         have HR683_4 := Aside0.mk hi683_4; have HC683_4 := Aside0.mk hl683_4; clear hi683_4 hl683_4; have HR683_5 := Aside0.mk hi683_5; have HC683_5 := Aside0.mk hl683_5; clear hi683_5 hl683_5; replace p683 := eq_true p683; replace q683 := eq_true q683
         refine start_ (n := 10) (S := fun w' => w'.cell? (ad682.add ((x13_1).toNat * 6)) = some (.int .u64 ((rd_T26 l0 x13_1).f0)) ∧ w'.cell? ⟨(ad682.add ((x13_1).toNat * 6)).block, (ad682.add ((x13_1).toNat * 6)).off + 1, none⟩ = some (.int .u64 ((rd_T26 l0 x13_1).f1)) ∧ w'.cell? ⟨(ad682.add ((x13_1).toNat * 6)).block, (ad682.add ((x13_1).toNat * 6)).off + 2, none⟩ = some (.int .u64 ((rd_T26 l0 x13_1).f2)) ∧ w'.cell? ⟨(ad682.add ((x13_1).toNat * 6)).block, (ad682.add ((x13_1).toNat * 6)).off + 3, none⟩ = some (.int .u64 ((rd_T26 l0 x13_1).f3)) ∧ w'.cell? ⟨(ad682.add ((x13_1).toNat * 6)).block, (ad682.add ((x13_1).toNat * 6)).off + 4, none⟩ = some (.slice A682_4 ((rd_T26 l0 x13_1).f4).length c682_4) ∧ w'.cell? ⟨(ad682.add ((x13_1).toNat * 6)).block, (ad682.add ((x13_1).toNat * 6)).off + 5, none⟩ = some (.slice A682_5 ((rd_T26 l0 x13_1).f5).length c682_5) ∧ w'.cell? (ad683.add ((x13_1).toNat * 6)) = some (.int .u64 ((rd_T26 l1 x13_1).f0)) ∧ w'.cell? ⟨(ad683.add ((x13_1).toNat * 6)).block, (ad683.add ((x13_1).toNat * 6)).off + 1, none⟩ = some (.int .u64 ((rd_T26 l1 x13_1).f1)) ∧ w'.cell? ⟨(ad683.add ((x13_1).toNat * 6)).block, (ad683.add ((x13_1).toNat * 6)).off + 2, none⟩ = some (.int .u64 ((rd_T26 l1 x13_1).f2)) ∧ w'.cell? ⟨(ad683.add ((x13_1).toNat * 6)).block, (ad683.add ((x13_1).toNat * 6)).off + 3, none⟩ = some (.int .u64 ((rd_T26 l1 x13_1).f3)) ∧ w'.cell? ⟨(ad683.add ((x13_1).toNat * 6)).block, (ad683.add ((x13_1).toNat * 6)).off + 4, none⟩ = some (.slice A683_4 ((rd_T26 l1 x13_1).f4).length c683_4) ∧ w'.cell? ⟨(ad683.add ((x13_1).toNat * 6)).block, (ad683.add ((x13_1).toNat * 6)).off + 5, none⟩ = some (.slice A683_5 ((rd_T26 l1 x13_1).f5).length c683_5)) (ds := []) (fst_ 10 0) (by kernel_rfl) rfl rfl ⟨((HB.out.cell (World.block_lt_of_cell? w _ hw682_0)).trans hw682_0), ((HB.out.cell (World.block_lt_of_cell? w _ hw682_1)).trans hw682_1), ((HB.out.cell (World.block_lt_of_cell? w _ hw682_2)).trans hw682_2), ((HB.out.cell (World.block_lt_of_cell? w _ hw682_3)).trans hw682_3), ((HB.out.cell (World.block_lt_of_cell? w _ hw682_4)).trans hw682_4), ((HB.out.cell (World.block_lt_of_cell? w _ hw682_5)).trans hw682_5), ((HB.out.cell (World.block_lt_of_cell? w _ hw683_0)).trans hw683_0), ((HB.out.cell (World.block_lt_of_cell? w _ hw683_1)).trans hw683_1), ((HB.out.cell (World.block_lt_of_cell? w _ hw683_2)).trans hw683_2), ((HB.out.cell (World.block_lt_of_cell? w _ hw683_3)).trans hw683_3), ((HB.out.cell (World.block_lt_of_cell? w _ hw683_4)).trans hw683_4), ((HB.out.cell (World.block_lt_of_cell? w _ hw683_5)).trans hw683_5)⟩ (fun hHeld => ?_); refine with_tabW conductorref10_Same.tab6 conductorref10_Same.bits6 (fun HT_ HW_ => ?_)
         generalize wr.drew = w10 at HB HR682_4 HR682_5 HR683_4 HR683_5 hx682_0 hx682_1 hx682_2 hx682_3 hx682_4 hx682_5 hx683_0 hx683_1 hx683_2 hx683_3 hx683_4 hx683_5 hHeld ⊢
         iterate 3 (refine pk_ (v := ?_) (a' := ?_) HT_.out rfl rfl (by kernel_rfl) (fun _ _ _ h => h) (Or.inl ⟨by rfl, ?_⟩) ?_ ?_; rotate_left; (· intro w'; go_simp; with_reducible rfl); rotate_left; (· simp only [Act.put, List.setIfInBounds_toArray, List.set_cons_zero, List.set_cons_succ, i64_w, i32_w]; rfl))
         refine pure_ (i := 4) (N := some 20) (v := ?_) (a' := ?_) #[true, true, true, false, true, false, false, false, false, false] rfl rfl (any_of HT_.out (by kernel_rfl)) (fun _ _ _ h => h) (Or.inl ⟨by rfl, ?_⟩) ?_ ?_
         rotate_left
         ·intro w'
          go_simp
          with_reducible rfl
         rotate_left
         ·simp only [Act.put, List.setIfInBounds_toArray, List.set_cons_zero, List.set_cons_succ, i64_w, i32_w]
          rfl
         refine pure_ (i := 5) (N := some 21) (v := ?_) (a' := ?_) #[true, true, true, false, true, true, false, false, false, false] rfl rfl (any_of HT_.out (by kernel_rfl)) (fun _ _ _ h => h) (Or.inl ⟨by rfl, ?_⟩) ?_ ?_
         rotate_left
         ·intro w'
          go_simp
          with_reducible rfl
         rotate_left
         ·simp only [Act.put, List.setIfInBounds_toArray, List.set_cons_zero, List.set_cons_succ, i64_w, i32_w]
          rfl
         refine pure_ (i := 6) (N := some 22) (v := ?_) (a' := ?_) #[true, true, true, false, true, true, true, false, false, false] rfl rfl (any_of HT_.out (by kernel_rfl)) (fun _ _ _ h => h) (Or.inl ⟨by rfl, ?_⟩) ?_ ?_
         rotate_left
         ·intro w'
          go_simp
          with_reducible rfl
         rotate_left
         ·simp only [Act.put, List.setIfInBounds_toArray, List.set_cons_zero, List.set_cons_succ, i64_w, i32_w]
          rfl
         refine take_ (i := 3) (N := some 19) (v := ?_) (a' := ?_) (fst_ 10 7) rfl rfl (take_ofW HT_.out HW_.out (by kernel_rfl)) (fun _ _ _ h => h) (Or.inl ⟨by rfl, ?_⟩) hHeld ?_ ?_
         rotate_left
         ·rintro w' ⟨s0, s1, s2, s3, s4, s5, s6, s7, s8, s9, s10, s11⟩
          go_simp
          with_reducible rfl
         rotate_left
         ·simp only [Act.put, List.setIfInBounds_toArray, List.set_cons_zero, List.set_cons_succ, i64_w, i32_w]
          rfl
         refine tk_ (v := ?_) (a' := ?_) HT_.out HW_.out rfl rfl (by kernel_rfl) (fun _ _ _ h => h) (Or.inl ⟨by rfl, ?_⟩) hHeld ?_ ?_
         rotate_left
         ·rintro w' ⟨s0, s1, s2, s3, s4, s5, s6, s7, s8, s9, s10, s11⟩
          go_simp
          with_reducible rfl
         rotate_left
         ·simp only [Act.put, List.setIfInBounds_toArray, List.set_cons_zero, List.set_cons_succ, i64_w, i32_w]
          rfl
         refine one_ (i := 8) (N := some 24) (fst_ 10 9) rfl rfl (one_of HT_.out (by kernel_rfl)) (by decide) (fun K hK => ?_)
         refine goes_ Try.func46 (by kernel_rfl) rfl #[.agg #[.int .u64 ((rd_T26 l0 x13_1).f0), .int .u64 ((rd_T26 l0 x13_1).f1), .int .u64 ((rd_T26 l0 x13_1).f2), .int .u64 ((rd_T26 l0 x13_1).f3), .slice A682_4 ((rd_T26 l0 x13_1).f4).length c682_4, .slice A682_5 ((rd_T26 l0 x13_1).f5).length c682_5], .agg #[.int .u64 ((rd_T26 l1 x13_1).f0), .int .u64 ((rd_T26 l1 x13_1).f1), .int .u64 ((rd_T26 l1 x13_1).f2), .int .u64 ((rd_T26 l1 x13_1).f3), .slice A683_4 ((rd_T26 l1 x13_1).f4).length c683_4, .slice A683_5 ((rd_T26 l1 x13_1).f5).length c683_5]] (by rfl) rfl rfl sa_ ?_
         with_reducible refine (conductorref10_SameOne.calls k1 ((rd_T26 l0 x13_1).f0) ((rd_T26 l0 x13_1).f1) ((rd_T26 l0 x13_1).f2) ((rd_T26 l0 x13_1).f3) _ _ ((rd_T26 l0 x13_1).f4) _ _ ((rd_T26 l0 x13_1).f5) ((rd_T26 l1 x13_1).f0) ((rd_T26 l1 x13_1).f1) ((rd_T26 l1 x13_1).f2) ((rd_T26 l1 x13_1).f3) _ _ ((rd_T26 l1 x13_1).f4) _ _ ((rd_T26 l1 x13_1).f5) true _ ?side1 ?side2 ?side3 ?side4 ?side5 ?side6 ?side7 ?side8 A8.out).mono ?_
         (case side1 => exact (Kd.C_below HR682_4.out HB.out))
         (case side2 => exact HC682_4.out)
         (case side3 => exact (Kd.C_below HR682_5.out HB.out))
         (case side4 => exact HC682_5.out)
         (case side5 => exact (Kd.C_below HR683_4.out HB.out))
         (case side6 => exact HC683_4.out)
         (case side7 => exact (Kd.C_below HR683_5.out HB.out))
         (case side8 => exact HC683_5.out)
         rintro e w11 ⟨rfl, hb⟩
         refine ⟨_, rfl, ?_⟩
         have n0_ := Aside0.mk (below_step bl_ hb)
         clear HB; have HB := n0_; clear n0_
         (try clear hb)
         (try clear hb2)
         (try clear hk)
         (try clear hi)
         refine hK.out _ _ ⟨((HB.out.cell (World.block_lt_of_cell? w _ hw682_0)).trans hw682_0), ((HB.out.cell (World.block_lt_of_cell? w _ hw682_1)).trans hw682_1), ((HB.out.cell (World.block_lt_of_cell? w _ hw682_2)).trans hw682_2), ((HB.out.cell (World.block_lt_of_cell? w _ hw682_3)).trans hw682_3), ((HB.out.cell (World.block_lt_of_cell? w _ hw682_4)).trans hw682_4), ((HB.out.cell (World.block_lt_of_cell? w _ hw682_5)).trans hw682_5), ((HB.out.cell (World.block_lt_of_cell? w _ hw683_0)).trans hw683_0), ((HB.out.cell (World.block_lt_of_cell? w _ hw683_1)).trans hw683_1), ((HB.out.cell (World.block_lt_of_cell? w _ hw683_2)).trans hw683_2), ((HB.out.cell (World.block_lt_of_cell? w _ hw683_3)).trans hw683_3), ((HB.out.cell (World.block_lt_of_cell? w _ hw683_4)).trans hw683_4), ((HB.out.cell (World.block_lt_of_cell? w _ hw683_5)).trans hw683_5)⟩ (fun hHeld => ?_)
         clear hK K; refine norm_ (a' := ?_) ?_ ?_; rotate_left
         ·show Act.put _ (some 24) _ = _
          simp only [Act.put, List.setIfInBounds_toArray, List.set_cons_zero, List.set_cons_succ, i64_w, i32_w]
          rfl
         (refine pk_ (v := ?_) (a' := ?_) HT_.out rfl rfl (by kernel_rfl) (fun _ _ _ h => h) (Or.inl ⟨by rfl, ?_⟩) ?_ ?_; rotate_left; (· intro w'; go_simp; with_reducible rfl); rotate_left; (· simp only [Act.put, List.setIfInBounds_toArray, List.set_cons_zero, List.set_cons_succ, i64_w, i32_w]; rfl))
         refine done_ (done_of HT_.out (by kernel_rfl)) ?_
         try go_wp2
         go_roundg k1
         case measure => have := HK1.out; omega
         case rel => exact ⟨(wrap64 (x13_1 + 1)), (by first | rfl | (simp; done) | (simp [*]; done)), H', ⟨by have := HK1.out; omega⟩, ⟨bl_⟩⟩
        ·replace c9 := Bool.eq_false_iff.mpr c9
         subst c9
         have H1 : (some false) = some r := by rw [if_neg (show ¬ (false = true) by decide)] at H; exact H
         clear H; have H := H1; clear H1; obtain rfl := Option.some.inj H
         try go_wp2
         have n0_ := Aside0.mk (below_drew1 HB.out)
         clear HB; have HB := n0_; clear n0_
         have p682 : 0 ≤ (x13_1 : Int) := od_
         have q682 : x13_1 < (l0.length : Int) := od_
         obtain ⟨ad682, A682_4, c682_4, A682_5, c682_5, e682, hx682_0, hx682_1, hx682_2, hx682_3, hx682_4, hx682_5, hl682_4, hi682_4, hl682_5, hi682_5⟩ := at_T26 HR0.out x13_1 p682 q682
         have hw682_5 := hx682_5
         have hw682_4 := hx682_4
         have hw682_3 := hx682_3
         have hw682_2 := hx682_2
         have hw682_1 := hx682_1
         have hw682_0 := hx682_0
         cases e682
         replace hx682_0 := up_ HB.out hx682_0
         replace hx682_1 := up_ HB.out hx682_1
         replace hx682_2 := up_ HB.out hx682_2
         replace hx682_3 := up_ HB.out hx682_3
         replace hx682_4 := up_ HB.out hx682_4
         replace hx682_5 := up_ HB.out hx682_5
         have HR682_4 := Aside0.mk hi682_4; have HC682_4 := Aside0.mk hl682_4; clear hi682_4 hl682_4; have HR682_5 := Aside0.mk hi682_5; have HC682_5 := Aside0.mk hl682_5; clear hi682_5 hl682_5; replace p682 := eq_true p682; replace q682 := eq_true q682
         have p683 : 0 ≤ (x13_1 : Int) := od_
         have q683 : x13_1 < (l1.length : Int) := od_
         obtain ⟨ad683, A683_4, c683_4, A683_5, c683_5, e683, hx683_0, hx683_1, hx683_2, hx683_3, hx683_4, hx683_5, hl683_4, hi683_4, hl683_5, hi683_5⟩ := at_T26 HR1.out x13_1 p683 q683
         have hw683_5 := hx683_5
         have hw683_4 := hx683_4
         have hw683_3 := hx683_3
         have hw683_2 := hx683_2
         have hw683_1 := hx683_1
         have hw683_0 := hx683_0
         cases e683
         replace hx683_0 := up_ HB.out hx683_0
         replace hx683_1 := up_ HB.out hx683_1
         replace hx683_2 := up_ HB.out hx683_2
         replace hx683_3 := up_ HB.out hx683_3
         replace hx683_4 := up_ HB.out hx683_4
         replace hx683_5 := up_ HB.out hx683_5
         have HR683_4 := Aside0.mk hi683_4; have HC683_4 := Aside0.mk hl683_4; clear hi683_4 hl683_4; have HR683_5 := Aside0.mk hi683_5; have HC683_5 := Aside0.mk hl683_5; clear hi683_5 hl683_5; replace p683 := eq_true p683; replace q683 := eq_true q683
         refine start_ (n := 10) (S := fun w' => w'.cell? (ad682.add ((x13_1).toNat * 6)) = some (.int .u64 ((rd_T26 l0 x13_1).f0)) ∧ w'.cell? ⟨(ad682.add ((x13_1).toNat * 6)).block, (ad682.add ((x13_1).toNat * 6)).off + 1, none⟩ = some (.int .u64 ((rd_T26 l0 x13_1).f1)) ∧ w'.cell? ⟨(ad682.add ((x13_1).toNat * 6)).block, (ad682.add ((x13_1).toNat * 6)).off + 2, none⟩ = some (.int .u64 ((rd_T26 l0 x13_1).f2)) ∧ w'.cell? ⟨(ad682.add ((x13_1).toNat * 6)).block, (ad682.add ((x13_1).toNat * 6)).off + 3, none⟩ = some (.int .u64 ((rd_T26 l0 x13_1).f3)) ∧ w'.cell? ⟨(ad682.add ((x13_1).toNat * 6)).block, (ad682.add ((x13_1).toNat * 6)).off + 4, none⟩ = some (.slice A682_4 ((rd_T26 l0 x13_1).f4).length c682_4) ∧ w'.cell? ⟨(ad682.add ((x13_1).toNat * 6)).block, (ad682.add ((x13_1).toNat * 6)).off + 5, none⟩ = some (.slice A682_5 ((rd_T26 l0 x13_1).f5).length c682_5) ∧ w'.cell? (ad683.add ((x13_1).toNat * 6)) = some (.int .u64 ((rd_T26 l1 x13_1).f0)) ∧ w'.cell? ⟨(ad683.add ((x13_1).toNat * 6)).block, (ad683.add ((x13_1).toNat * 6)).off + 1, none⟩ = some (.int .u64 ((rd_T26 l1 x13_1).f1)) ∧ w'.cell? ⟨(ad683.add ((x13_1).toNat * 6)).block, (ad683.add ((x13_1).toNat * 6)).off + 2, none⟩ = some (.int .u64 ((rd_T26 l1 x13_1).f2)) ∧ w'.cell? ⟨(ad683.add ((x13_1).toNat * 6)).block, (ad683.add ((x13_1).toNat * 6)).off + 3, none⟩ = some (.int .u64 ((rd_T26 l1 x13_1).f3)) ∧ w'.cell? ⟨(ad683.add ((x13_1).toNat * 6)).block, (ad683.add ((x13_1).toNat * 6)).off + 4, none⟩ = some (.slice A683_4 ((rd_T26 l1 x13_1).f4).length c683_4) ∧ w'.cell? ⟨(ad683.add ((x13_1).toNat * 6)).block, (ad683.add ((x13_1).toNat * 6)).off + 5, none⟩ = some (.slice A683_5 ((rd_T26 l1 x13_1).f5).length c683_5)) (ds := []) (fst_ 10 0) (by kernel_rfl) rfl rfl ⟨((HB.out.cell (World.block_lt_of_cell? w _ hw682_0)).trans hw682_0), ((HB.out.cell (World.block_lt_of_cell? w _ hw682_1)).trans hw682_1), ((HB.out.cell (World.block_lt_of_cell? w _ hw682_2)).trans hw682_2), ((HB.out.cell (World.block_lt_of_cell? w _ hw682_3)).trans hw682_3), ((HB.out.cell (World.block_lt_of_cell? w _ hw682_4)).trans hw682_4), ((HB.out.cell (World.block_lt_of_cell? w _ hw682_5)).trans hw682_5), ((HB.out.cell (World.block_lt_of_cell? w _ hw683_0)).trans hw683_0), ((HB.out.cell (World.block_lt_of_cell? w _ hw683_1)).trans hw683_1), ((HB.out.cell (World.block_lt_of_cell? w _ hw683_2)).trans hw683_2), ((HB.out.cell (World.block_lt_of_cell? w _ hw683_3)).trans hw683_3), ((HB.out.cell (World.block_lt_of_cell? w _ hw683_4)).trans hw683_4), ((HB.out.cell (World.block_lt_of_cell? w _ hw683_5)).trans hw683_5)⟩ (fun hHeld => ?_); refine with_tabW conductorref10_Same.tab6 conductorref10_Same.bits6 (fun HT_ HW_ => ?_)
         generalize wr.drew = w12 at HB HR682_4 HR682_5 HR683_4 HR683_5 hx682_0 hx682_1 hx682_2 hx682_3 hx682_4 hx682_5 hx683_0 hx683_1 hx683_2 hx683_3 hx683_4 hx683_5 hHeld ⊢
         iterate 3 (refine pk_ (v := ?_) (a' := ?_) HT_.out rfl rfl (by kernel_rfl) (fun _ _ _ h => h) (Or.inl ⟨by rfl, ?_⟩) ?_ ?_; rotate_left; (· intro w'; go_simp; with_reducible rfl); rotate_left; (· simp only [Act.put, List.setIfInBounds_toArray, List.set_cons_zero, List.set_cons_succ, i64_w, i32_w]; rfl))
         refine pure_ (i := 4) (N := some 20) (v := ?_) (a' := ?_) #[true, true, true, false, true, false, false, false, false, false] rfl rfl (any_of HT_.out (by kernel_rfl)) (fun _ _ _ h => h) (Or.inl ⟨by rfl, ?_⟩) ?_ ?_
         rotate_left
         ·intro w'
          go_simp
          with_reducible rfl
         rotate_left
         ·simp only [Act.put, List.setIfInBounds_toArray, List.set_cons_zero, List.set_cons_succ, i64_w, i32_w]
          rfl
         refine pure_ (i := 5) (N := some 21) (v := ?_) (a' := ?_) #[true, true, true, false, true, true, false, false, false, false] rfl rfl (any_of HT_.out (by kernel_rfl)) (fun _ _ _ h => h) (Or.inl ⟨by rfl, ?_⟩) ?_ ?_
         rotate_left
         ·intro w'
          go_simp
          with_reducible rfl
         rotate_left
         ·simp only [Act.put, List.setIfInBounds_toArray, List.set_cons_zero, List.set_cons_succ, i64_w, i32_w]
          rfl
         refine pure_ (i := 6) (N := some 22) (v := ?_) (a' := ?_) #[true, true, true, false, true, true, true, false, false, false] rfl rfl (any_of HT_.out (by kernel_rfl)) (fun _ _ _ h => h) (Or.inl ⟨by rfl, ?_⟩) ?_ ?_
         rotate_left
         ·intro w'
          go_simp
          with_reducible rfl
         rotate_left
         ·simp only [Act.put, List.setIfInBounds_toArray, List.set_cons_zero, List.set_cons_succ, i64_w, i32_w]
          rfl
         refine take_ (i := 3) (N := some 19) (v := ?_) (a' := ?_) (fst_ 10 7) rfl rfl (take_ofW HT_.out HW_.out (by kernel_rfl)) (fun _ _ _ h => h) (Or.inl ⟨by rfl, ?_⟩) hHeld ?_ ?_
         rotate_left
         ·rintro w' ⟨s0, s1, s2, s3, s4, s5, s6, s7, s8, s9, s10, s11⟩
          go_simp
          with_reducible rfl
         rotate_left
         ·simp only [Act.put, List.setIfInBounds_toArray, List.set_cons_zero, List.set_cons_succ, i64_w, i32_w]
          rfl
         refine tk_ (v := ?_) (a' := ?_) HT_.out HW_.out rfl rfl (by kernel_rfl) (fun _ _ _ h => h) (Or.inl ⟨by rfl, ?_⟩) hHeld ?_ ?_
         rotate_left
         ·rintro w' ⟨s0, s1, s2, s3, s4, s5, s6, s7, s8, s9, s10, s11⟩
          go_simp
          with_reducible rfl
         rotate_left
         ·simp only [Act.put, List.setIfInBounds_toArray, List.set_cons_zero, List.set_cons_succ, i64_w, i32_w]
          rfl
         refine one_ (i := 8) (N := some 24) (fst_ 10 9) rfl rfl (one_of HT_.out (by kernel_rfl)) (by decide) (fun K hK => ?_)
         refine goes_ Try.func46 (by kernel_rfl) rfl #[.agg #[.int .u64 ((rd_T26 l0 x13_1).f0), .int .u64 ((rd_T26 l0 x13_1).f1), .int .u64 ((rd_T26 l0 x13_1).f2), .int .u64 ((rd_T26 l0 x13_1).f3), .slice A682_4 ((rd_T26 l0 x13_1).f4).length c682_4, .slice A682_5 ((rd_T26 l0 x13_1).f5).length c682_5], .agg #[.int .u64 ((rd_T26 l1 x13_1).f0), .int .u64 ((rd_T26 l1 x13_1).f1), .int .u64 ((rd_T26 l1 x13_1).f2), .int .u64 ((rd_T26 l1 x13_1).f3), .slice A683_4 ((rd_T26 l1 x13_1).f4).length c683_4, .slice A683_5 ((rd_T26 l1 x13_1).f5).length c683_5]] (by rfl) rfl rfl sa_ ?_
         with_reducible refine (conductorref10_SameOne.calls k1 ((rd_T26 l0 x13_1).f0) ((rd_T26 l0 x13_1).f1) ((rd_T26 l0 x13_1).f2) ((rd_T26 l0 x13_1).f3) _ _ ((rd_T26 l0 x13_1).f4) _ _ ((rd_T26 l0 x13_1).f5) ((rd_T26 l1 x13_1).f0) ((rd_T26 l1 x13_1).f1) ((rd_T26 l1 x13_1).f2) ((rd_T26 l1 x13_1).f3) _ _ ((rd_T26 l1 x13_1).f4) _ _ ((rd_T26 l1 x13_1).f5) false _ ?side1 ?side2 ?side3 ?side4 ?side5 ?side6 ?side7 ?side8 A8.out).mono ?_
         (case side1 => exact (Kd.C_below HR682_4.out HB.out))
         (case side2 => exact HC682_4.out)
         (case side3 => exact (Kd.C_below HR682_5.out HB.out))
         (case side4 => exact HC682_5.out)
         (case side5 => exact (Kd.C_below HR683_4.out HB.out))
         (case side6 => exact HC683_4.out)
         (case side7 => exact (Kd.C_below HR683_5.out HB.out))
         (case side8 => exact HC683_5.out)
         rintro e w13 ⟨rfl, hb⟩
         refine ⟨_, rfl, ?_⟩
         have n0_ := Aside0.mk (below_step bl_ hb)
         clear HB; have HB := n0_; clear n0_
         (try clear hb)
         (try clear hb2)
         (try clear hk)
         (try clear hi)
         refine hK.out _ _ ⟨((HB.out.cell (World.block_lt_of_cell? w _ hw682_0)).trans hw682_0), ((HB.out.cell (World.block_lt_of_cell? w _ hw682_1)).trans hw682_1), ((HB.out.cell (World.block_lt_of_cell? w _ hw682_2)).trans hw682_2), ((HB.out.cell (World.block_lt_of_cell? w _ hw682_3)).trans hw682_3), ((HB.out.cell (World.block_lt_of_cell? w _ hw682_4)).trans hw682_4), ((HB.out.cell (World.block_lt_of_cell? w _ hw682_5)).trans hw682_5), ((HB.out.cell (World.block_lt_of_cell? w _ hw683_0)).trans hw683_0), ((HB.out.cell (World.block_lt_of_cell? w _ hw683_1)).trans hw683_1), ((HB.out.cell (World.block_lt_of_cell? w _ hw683_2)).trans hw683_2), ((HB.out.cell (World.block_lt_of_cell? w _ hw683_3)).trans hw683_3), ((HB.out.cell (World.block_lt_of_cell? w _ hw683_4)).trans hw683_4), ((HB.out.cell (World.block_lt_of_cell? w _ hw683_5)).trans hw683_5)⟩ (fun hHeld => ?_)
         clear hK K; refine norm_ (a' := ?_) ?_ ?_; rotate_left
         ·show Act.put _ (some 24) _ = _
          simp only [Act.put, List.setIfInBounds_toArray, List.set_cons_zero, List.set_cons_succ, i64_w, i32_w]
          rfl
         (refine pk_ (v := ?_) (a' := ?_) HT_.out rfl rfl (by kernel_rfl) (fun _ _ _ h => h) (Or.inl ⟨by rfl, ?_⟩) ?_ ?_; rotate_left; (· intro w'; go_simp; with_reducible rfl); rotate_left; (· simp only [Act.put, List.setIfInBounds_toArray, List.set_cons_zero, List.set_cons_succ, i64_w, i32_w]; rfl))
         refine done_ (done_of HT_.out (by kernel_rfl)) ?_
         try go_wp2
         go_ret
         exact ⟨by first | rfl | (simp [errW_none, errW_some] <;> rfl) | (simp [*, errW_none, errW_some] <;> rfl), bl_⟩
       ·rw [if_neg c7] at H
        exact absurd H (by simp)
      ·rw [if_neg c6] at H
       exact absurd H (by simp)
     ·rw [if_neg c5] at H
      exact absurd H (by simp)
    ·rw [if_neg c4] at H
     have c4b0 : decide (x13_1 < (l0.length : Int)) = false := decide_eq_false c4
     clear c4; obtain rfl := Option.some.inj H
     go_wp2
     go_ret
     exact ⟨by first | rfl | (simp [errW_none, errW_some] <;> rfl) | (simp [*, errW_none, errW_some] <;> rfl), bl_⟩
 ·rw [if_neg c3] at H
  have c3b0 : ((l0.length : Int) == (l1.length : Int)) = false := beq_eq_false_iff_ne.mpr c3
  have c3b1 : ((l0.length : Int) != (l1.length : Int)) = true := bne_iff_ne.mpr c3
  have c3b2 : (l0.length == l1.length) = false := by first | simpa using c3 | (simp at c3 ⊢; omega)
  obtain rfl := Option.some.inj H
  go_enter Try.func49, Try.ntmps49
  go_wp2
  go_ret
  exact ⟨by first | rfl | (simp [errW_none, errW_some] <;> rfl) | (simp [*, errW_none, errW_some] <;> rfl), bl_⟩
end Go.Proofs.Ytjefihcbhdennaa.S
