/- Texts of this session, merged for the law SsiNeverLess: S53, S54, S72. No condition. -/
import Derived.Test.YtjefihcbhdennaaZSsiNeverLessd
import Derived.Test.YtjefihcbhdennaaZSsiNeverLesso
import Derived.Test.YtjefihcbhdennaaZSsiNeverLessv
import Derived.Test.YtjefihcbhdennaaZSsiNeverLesss
namespace Go.Proofs.Ytjefihcbhdennaa.S
open Go.RowKit Go.Proofs.YtjefihcbhdennaaW.PrintWords Go.Proofs.YtjefihcbhdennaaW.PrintLast Go.Proofs.YtjefihcbhdennaaW.PrintMore
attribute [local go_sem] max2_int min2_int max2_str min2_str str_leq str_gtr str_geq max_two min_two max_three min_three max_four min_four   -- for this text's walks alone
set_option linter.unusedVariables false
set_option linter.unusedSimpArgs false
def ssi_Join.f (k : Nat) (a0_0 : Int) (a0_1 : Int) (a0_2 : Int) (a0_3 : Int) (l0_4 : List (S41)) (l0_5 : List (S41)) (a1_0 : Int) (a1_1 : Int) (a1_2 : Int) (a1_3 : Int) (l1_4 : List (S41)) (l1_5 : List (S41)) (a2 : Int) : Option (Int × Int × Int × Int × (List (S41)) × (List (S41))) := (ssi_least.f a0_3 a1_3).bind fun t599 => ((span_Join.f k l0_4 l1_4).bind fun t600 => ((span_Fit.f k t600 a2).bind fun t603 => ((span_Join.f k l0_5 l1_5).bind fun t606 => ((span_Fit.f k t606 a2).bind fun t609 => (some (mn a0_0 a1_0, mx a0_1 a1_1, mx a0_2 a1_2, t599, t603, t609))))))
def ssi_Join.T1 : Bool × List (List Nat × List Nat) := (true, [([], []), ([0], [0]), ([], []), ([2], [2]), ([1, 3], [1, 3]), ([], []), ([5], [5]), ([], []), ([7], [7]), ([6, 8], [6, 8]), ([], []), ([10], [10]), ([], []), ([12], [12]), ([11, 13], [11, 13]), ([], []), ([15], [15]), ([], []), ([17], [17]), ([16, 18], [16, 18]), ([], []), ([20], [20]), ([], []), ([22], [22]), ([21, 23, 19], [21, 23]), ([], []), ([24, 25, 24], [24, 25]), ([], []), ([27], [27]), ([], []), ([29], [29]), ([28, 30, 26], [28, 30]), ([], []), ([31, 32, 31], [31, 32]), ([4, 9, 14, 19, 26, 33], [4, 9, 14, 19, 26, 33]), ([34, 33, 0, 1, 2, 3, 4, 5, 6, 7, 8, 9, 10, 11, 12, 13, 14, 15, 16, 17, 18, 19, 20, 21, 22, 23, 24, 25, 26, 27, 28, 29, 30, 31, 32, 33, 34], [34])])
def ssi_Join.B1 : List Nat := [0, 1, 0, 4, 15, 0, 32, 0, 128, 480, 0, 1024, 0, 4096, 15360, 0, 32768, 0, 131072, 491520, 0, 1048576, 0, 4194304, 16744448, 0, 67076096, 0, 134217728, 0, 536870912, 2147450880, 0, 8589901824, 17179869183, 34359738367]
theorem ssi_Join.tab1 : rtab .any (opsOf Try.f47 1) = ssi_Join.T1 := by kernel_rfl
theorem ssi_Join.bits1 : waitsOk ssi_Join.T1.2 ssi_Join.B1 = true := by kernel_rfl
set_option maxHeartbeats 8000000 in
set_option maxRecDepth 100000 in
theorem ssi_Join.calls (k : Nat) (a0_0 : Int) (a0_1 : Int) (a0_2 : Int) (a0_3 : Int) (A0_4 : Option Addr) (c0_4 : Nat) (l0_4 : List (S41)) (A0_5 : Option Addr) (c0_5 : Nat) (l0_5 : List (S41)) (a1_0 : Int) (a1_1 : Int) (a1_2 : Int) (a1_3 : Int) (A1_4 : Option Addr) (c1_4 : Nat) (l1_4 : List (S41)) (A1_5 : Option Addr) (c1_5 : Nat) (l1_5 : List (S41)) (a2 : Int) (r1 : Int) (r2 : Int) (r3 : Int) (r4 : Int) (r5 : List (S41)) (r6 : List (S41)) (w : World) (hr0_4 : Kd.C k41 w A0_4 l0_4.length l0_4) (hc0_4 : l0_4.length ≤ c0_4) (hr0_5 : Kd.C k41 w A0_5 l0_5.length l0_5) (hc0_5 : l0_5.length ≤ c0_5) (hr1_4 : Kd.C k41 w A1_4 l1_4.length l1_4) (hc1_4 : l1_4.length ≤ c1_4) (hr1_5 : Kd.C k41 w A1_5 l1_5.length l1_5) (hc1_5 : l1_5.length ≤ c1_5) (h : ssi_Join.f k a0_0 a0_1 a0_2 a0_3 l0_4 l0_5 a1_0 a1_1 a1_2 a1_3 l1_4 l1_5 a2 = some (r1, r2, r3, r4, r5, r6)) :
  Calls Try.prog 47 #[.agg #[.int .u64 a0_0, .int .u64 a0_1, .int .u64 a0_2, .int .u64 a0_3, .slice A0_4 l0_4.length c0_4, .slice A0_5 l0_5.length c0_5], .agg #[.int .u64 a1_0, .int .u64 a1_1, .int .u64 a1_2, .int .u64 a1_3, .slice A1_4 l1_4.length c1_4, .slice A1_5 l1_5.length c1_5], .int .i64 a2] w fun e w' => ∃ v4_ v5_ : Value, e = .returned (.agg #[.int .u64 r1, .int .u64 r2, .int .u64 r3, .int .u64 r4, v4_, v5_]) ∧ Kd.R k41 41 w' w.heap.size (fun k_ => some k_ ≠ (v5_ : Value).ownBlock) v4_ r5 ∧ Kd.R k41 41 w' w.heap.size (fun k_ => some k_ ≠ (v4_ : Value).ownBlock) v5_ r6 ∧ Below w.heap.size w w' := by
 have hu26 := Try.underlying26
 have HR0_4 := Aside0.mk hr0_4; have HC0_4 := Aside0.mk hc0_4; clear hr0_4 hc0_4; have HR0_5 := Aside0.mk hr0_5; have HC0_5 := Aside0.mk hc0_5; clear hr0_5 hc0_5; have HR1_4 := Aside0.mk hr1_4; have HC1_4 := Aside0.mk hc1_4; clear hr1_4 hc1_4; have HR1_5 := Aside0.mk hr1_5; have HC1_5 := Aside0.mk hc1_5; clear hr1_5 hc1_5
 have HB := Aside0.mk (Below.refl w.heap.size w)
 have H : ((ssi_least.f a0_3 a1_3).bind fun t599 => ((span_Join.f k l0_4 l1_4).bind fun t600 => ((span_Fit.f k t600 a2).bind fun t603 => ((span_Join.f k l0_5 l1_5).bind fun t606 => ((span_Fit.f k t606 a2).bind fun t609 => (some (mn a0_0 a1_0, mx a0_1 a1_1, mx a0_2 a1_2, t599, t603, t609))))))) = some (r1, r2, r3, r4, r5, r6) := h
 clear h
 obtain ⟨ji4, hji4⟩ : ∃ j_ : Int, (mn a0_0 a1_0) = j_ := ⟨_, rfl⟩
 replace H : ((ssi_least.f a0_3 a1_3).bind fun t599 => ((span_Join.f k l0_4 l1_4).bind fun t600 => ((span_Fit.f k t600 a2).bind fun t603 => ((span_Join.f k l0_5 l1_5).bind fun t606 => ((span_Fit.f k t606 a2).bind fun t609 => (some (ji4, mx a0_1 a1_1, mx a0_2 a1_2, t599, t603, t609))))))) = some (r1, r2, r3, r4, r5, r6) := by first | (rw [hji4] at H; exact H) | (simp only [hji4] at H ⊢; exact H)
 have hji4_ : (if a1_0 < a0_0 then a1_0 else a0_0) = ji4 := hji4
 obtain ⟨ji5, hji5⟩ : ∃ j_ : Int, (mx a0_1 a1_1) = j_ := ⟨_, rfl⟩
 replace H : ((ssi_least.f a0_3 a1_3).bind fun t599 => ((span_Join.f k l0_4 l1_4).bind fun t600 => ((span_Fit.f k t600 a2).bind fun t603 => ((span_Join.f k l0_5 l1_5).bind fun t606 => ((span_Fit.f k t606 a2).bind fun t609 => (some (ji4, ji5, mx a0_2 a1_2, t599, t603, t609))))))) = some (r1, r2, r3, r4, r5, r6) := by first | (rw [hji5] at H; exact H) | (simp only [hji5] at H ⊢; exact H)
 have hji5_ : (if a0_1 < a1_1 then a1_1 else a0_1) = ji5 := hji5
 obtain ⟨ji6, hji6⟩ : ∃ j_ : Int, (mx a0_2 a1_2) = j_ := ⟨_, rfl⟩
 replace H : ((ssi_least.f a0_3 a1_3).bind fun t599 => ((span_Join.f k l0_4 l1_4).bind fun t600 => ((span_Fit.f k t600 a2).bind fun t603 => ((span_Join.f k l0_5 l1_5).bind fun t606 => ((span_Fit.f k t606 a2).bind fun t609 => (some (ji4, ji5, ji6, t599, t603, t609))))))) = some (r1, r2, r3, r4, r5, r6) := by first | (rw [hji6] at H; exact H) | (simp only [hji6] at H ⊢; exact H)
 have hji6_ : (if a0_2 < a1_2 then a1_2 else a0_2) = ji6 := hji6
 replace H := Option.bind_eq_some_iff.mp H; obtain ⟨t599, A70, H⟩ := H
 replace H : ((span_Join.f k l0_4 l1_4).bind fun t600 => ((span_Fit.f k t600 a2).bind fun t603 => ((span_Join.f k l0_5 l1_5).bind fun t606 => ((span_Fit.f k t606 a2).bind fun t609 => (some (ji4, ji5, ji6, t599, t603, t609)))))) = some (r1, r2, r3, r4, r5, r6) := H
 have A7 := Aside0.mk A70; clear A70; replace H := Option.bind_eq_some_iff.mp H; obtain ⟨t600, A80, H⟩ := H
 replace H : ((span_Fit.f k t600 a2).bind fun t603 => ((span_Join.f k l0_5 l1_5).bind fun t606 => ((span_Fit.f k t606 a2).bind fun t609 => (some (ji4, ji5, ji6, t599, t603, t609))))) = some (r1, r2, r3, r4, r5, r6) := H
 have A8 := Aside0.mk A80; clear A80; replace H := Option.bind_eq_some_iff.mp H; obtain ⟨t603, A90, H⟩ := H
 replace H : ((span_Join.f k l0_5 l1_5).bind fun t606 => ((span_Fit.f k t606 a2).bind fun t609 => (some (ji4, ji5, ji6, t599, t603, t609)))) = some (r1, r2, r3, r4, r5, r6) := H
 have A9 := Aside0.mk A90; clear A90; replace H := Option.bind_eq_some_iff.mp H; obtain ⟨t606, A100, H⟩ := H
 replace H : ((span_Fit.f k t606 a2).bind fun t609 => (some (ji4, ji5, ji6, t599, t603, t609))) = some (r1, r2, r3, r4, r5, r6) := H
 have A10 := Aside0.mk A100; clear A100; replace H := Option.bind_eq_some_iff.mp H; obtain ⟨t609, A110, H⟩ := H
 replace H : (some (ji4, ji5, ji6, t599, t603, t609)) = some (r1, r2, r3, r4, r5, r6) := H
 have A11 := Aside0.mk A110; clear A110
 simp only [Option.some.injEq, Prod.mk.injEq] at H
 obtain ⟨rfl, rfl, rfl, rfl, rfl, rfl⟩ := H
 go_enter Try.func47, Try.ntmps47
 try go_wp2_with (first | ((with_reducible refine gate_dst (N := 3) rfl ?_); refine box_event ?hg (N := 3) ?hd (cs := #[.int .u64 a0_0, .int .u64 a0_1, .int .u64 a0_2, .int .u64 a0_3, .slice A0_4 l0_4.length c0_4, .slice A0_5 l0_5.length c0_5]) (t := 26) ?hr ?_; (case hd => rfl); (case hg => rfl); (case hr => first | (go_simp; done) | (go_simp; rfl)); intro gb596 hg w12 hbox hb; have n0_ := Aside0.mk (below_step bl_ hb); have n1_ := Aside0.mk (hbox); have n2_ := Aside0.mk ((by rw [hg]; exact (below_size bl_) : w.heap.size ≤ gb596)); have n3_ := Aside0.mk ((by rw [hg]; exact (below_size bl_) : w.heap.size ≤ gb596)); clear HB; have HB := n0_; have BK596 := n1_; have GW596 := n2_; have GE596 := n3_; clear n0_ n1_ n2_ n3_; clear hb hbox hg) | ((with_reducible refine gate_dst (N := 4) rfl ?_); refine box_event ?hg (N := 4) ?hd (cs := #[.int .u64 a1_0, .int .u64 a1_1, .int .u64 a1_2, .int .u64 a1_3, .slice A1_4 l1_4.length c1_4, .slice A1_5 l1_5.length c1_5]) (t := 26) ?hr ?_; (case hd => rfl); (case hg => rfl); (case hr => first | (go_simp; done) | (go_simp; rfl)); intro gb597 hg w13 hbox hb; have n0_ := Aside0.mk (blk_below (g := gb596) (o := .cells #[.int .u64 a0_0, .int .u64 a0_1, .int .u64 a0_2, .int .u64 a0_3, .slice A0_4 l0_4.length c0_4, .slice A0_5 l0_5.length c0_5] 26 (0, 0)) (by (with_reducible repeat (first | refine blk_drewN ?_ _ | refine blk_drew ?_ | refine blk_alloc ?_ _)); exact BK596.out) hb); have n1_ := Aside0.mk (below_step bl_ hb); have n2_ := Aside0.mk (hbox); have n3_ := Aside0.mk ((by rw [hg]; exact (below_size bl_) : w.heap.size ≤ gb597)); have n4_ := Aside0.mk ((by rw [hg]; exact (below_size bl_) : w.heap.size ≤ gb597)); have n5_ := Aside0.mk ((by rw [hg]; exact Nat.ne_of_lt (blk_lt (g := gb596) (o := .cells #[.int .u64 a0_0, .int .u64 a0_1, .int .u64 a0_2, .int .u64 a0_3, .slice A0_4 l0_4.length c0_4, .slice A0_5 l0_5.length c0_5] 26 (0, 0)) (by (with_reducible repeat (first | refine blk_drewN ?_ _ | refine blk_drew ?_ | refine blk_alloc ?_ _)); exact BK596.out)) : gb596 ≠ gb597)); have n6_ := Aside0.mk ((by rw [hg]; exact Nat.ne_of_gt (blk_lt (g := gb596) (o := .cells #[.int .u64 a0_0, .int .u64 a0_1, .int .u64 a0_2, .int .u64 a0_3, .slice A0_4 l0_4.length c0_4, .slice A0_5 l0_5.length c0_5] 26 (0, 0)) (by (with_reducible repeat (first | refine blk_drewN ?_ _ | refine blk_drew ?_ | refine blk_alloc ?_ _)); exact BK596.out)) : gb597 ≠ gb596)); clear BK596; clear HB; have BK596 := n0_; have HB := n1_; have BK597 := n2_; have GW597 := n3_; have GE597 := n4_; have NB596_597 := n5_; have NB597_596 := n6_; clear n0_ n1_ n2_ n3_ n4_ n5_ n6_; clear hb hbox hg) | ((with_reducible refine gate_dst (N := 6) rfl ?_); refine box_event ?hg (N := 6) ?hd (cs := #[.int .u64 0, .int .u64 0, .int .u64 0, .int .u64 0, .slice none 0 0, .slice none 0 0]) (t := 26) ?hr ?_; (case hd => rfl); (case hg => rfl); (case hr => first | (go_simp; done) | (go_simp; rfl)); intro gb598 hg w14 hbox hb; have n0_ := Aside0.mk (blk_below (g := gb596) (o := .cells #[.int .u64 a0_0, .int .u64 a0_1, .int .u64 a0_2, .int .u64 a0_3, .slice A0_4 l0_4.length c0_4, .slice A0_5 l0_5.length c0_5] 26 (0, 0)) (by (with_reducible repeat (first | refine blk_drewN ?_ _ | refine blk_drew ?_ | refine blk_alloc ?_ _)); exact BK596.out) hb); have n1_ := Aside0.mk (blk_below (g := gb597) (o := .cells #[.int .u64 a1_0, .int .u64 a1_1, .int .u64 a1_2, .int .u64 a1_3, .slice A1_4 l1_4.length c1_4, .slice A1_5 l1_5.length c1_5] 26 (0, 0)) (by (with_reducible repeat (first | refine blk_drewN ?_ _ | refine blk_drew ?_ | refine blk_alloc ?_ _)); exact BK597.out) hb); have n2_ := Aside0.mk (below_step bl_ hb); have n3_ := Aside0.mk (hbox); have n4_ := Aside0.mk ((by rw [hg]; exact (below_size bl_) : w.heap.size ≤ gb598)); have n5_ := Aside0.mk ((by rw [hg]; exact (below_size bl_) : w.heap.size ≤ gb598)); have n6_ := Aside0.mk ((by rw [hg]; exact Nat.ne_of_lt (blk_lt (g := gb596) (o := .cells #[.int .u64 a0_0, .int .u64 a0_1, .int .u64 a0_2, .int .u64 a0_3, .slice A0_4 l0_4.length c0_4, .slice A0_5 l0_5.length c0_5] 26 (0, 0)) (by (with_reducible repeat (first | refine blk_drewN ?_ _ | refine blk_drew ?_ | refine blk_alloc ?_ _)); exact BK596.out)) : gb596 ≠ gb598)); have n7_ := Aside0.mk ((by rw [hg]; exact Nat.ne_of_gt (blk_lt (g := gb596) (o := .cells #[.int .u64 a0_0, .int .u64 a0_1, .int .u64 a0_2, .int .u64 a0_3, .slice A0_4 l0_4.length c0_4, .slice A0_5 l0_5.length c0_5] 26 (0, 0)) (by (with_reducible repeat (first | refine blk_drewN ?_ _ | refine blk_drew ?_ | refine blk_alloc ?_ _)); exact BK596.out)) : gb598 ≠ gb596)); have n8_ := Aside0.mk ((by rw [hg]; exact Nat.ne_of_lt (blk_lt (g := gb597) (o := .cells #[.int .u64 a1_0, .int .u64 a1_1, .int .u64 a1_2, .int .u64 a1_3, .slice A1_4 l1_4.length c1_4, .slice A1_5 l1_5.length c1_5] 26 (0, 0)) (by (with_reducible repeat (first | refine blk_drewN ?_ _ | refine blk_drew ?_ | refine blk_alloc ?_ _)); exact BK597.out)) : gb597 ≠ gb598)); have n9_ := Aside0.mk ((by rw [hg]; exact Nat.ne_of_gt (blk_lt (g := gb597) (o := .cells #[.int .u64 a1_0, .int .u64 a1_1, .int .u64 a1_2, .int .u64 a1_3, .slice A1_4 l1_4.length c1_4, .slice A1_5 l1_5.length c1_5] 26 (0, 0)) (by (with_reducible repeat (first | refine blk_drewN ?_ _ | refine blk_drew ?_ | refine blk_alloc ?_ _)); exact BK597.out)) : gb598 ≠ gb597)); clear BK596; clear BK597; clear HB; have BK596 := n0_; have BK597 := n1_; have HB := n2_; have BK598 := n3_; have GW598 := n4_; have GE598 := n5_; have NB596_598 := n6_; have NB598_596 := n7_; have NB597_598 := n8_; have NB598_597 := n9_; clear n0_ n1_ n2_ n3_ n4_ n5_ n6_ n7_ n8_ n9_; clear hb hbox hg))
 have n0_ := Aside0.mk (blk_drew BK596.out)
 have n1_ := Aside0.mk (blk_drew BK597.out)
 have n2_ := Aside0.mk (blk_drew BK598.out)
 have n3_ := Aside0.mk (below_drew1 HB.out)
 clear BK596; clear BK597; clear BK598; clear HB; have BK596 := n0_; have BK597 := n1_; have BK598 := n2_; have HB := n3_; clear n0_ n1_ n2_ n3_
 refine start_ (n := 36) (S := fun w' => w'.cell? ⟨gb596, 0, none⟩ = some (.int .u64 a0_0) ∧ w'.cell? ⟨gb596, 1, none⟩ = some (.int .u64 a0_1) ∧ w'.cell? ⟨gb596, 2, none⟩ = some (.int .u64 a0_2) ∧ w'.cell? ⟨gb596, 3, none⟩ = some (.int .u64 a0_3) ∧ w'.cell? ⟨gb596, 4, none⟩ = some (.slice A0_4 l0_4.length c0_4) ∧ w'.cell? ⟨gb596, 5, none⟩ = some (.slice A0_5 l0_5.length c0_5) ∧ w'.cell? ⟨gb597, 0, none⟩ = some (.int .u64 a1_0) ∧ w'.cell? ⟨gb597, 1, none⟩ = some (.int .u64 a1_1) ∧ w'.cell? ⟨gb597, 2, none⟩ = some (.int .u64 a1_2) ∧ w'.cell? ⟨gb597, 3, none⟩ = some (.int .u64 a1_3) ∧ w'.cell? ⟨gb597, 4, none⟩ = some (.slice A1_4 l1_4.length c1_4) ∧ w'.cell? ⟨gb597, 5, none⟩ = some (.slice A1_5 l1_5.length c1_5)) (ds := []) (fst_ 36 0) (by kernel_rfl) rfl rfl ⟨(blk_cell BK596.out 0).trans rfl, (blk_cell BK596.out 1).trans rfl, (blk_cell BK596.out 2).trans rfl, (blk_cell BK596.out 3).trans rfl, (blk_cell BK596.out 4).trans rfl, (blk_cell BK596.out 5).trans rfl, (blk_cell BK597.out 0).trans rfl, (blk_cell BK597.out 1).trans rfl, (blk_cell BK597.out 2).trans rfl, (blk_cell BK597.out 3).trans rfl, (blk_cell BK597.out 4).trans rfl, (blk_cell BK597.out 5).trans rfl⟩ (fun hHeld => ?_); refine with_tabW ssi_Join.tab1 ssi_Join.bits1 (fun HT_ HW_ => ?_)
 generalize w14.drew = w15 at BK596 BK597 BK598 HB hHeld ⊢
 (refine pk_ (v := ?_) (a' := ?_) HT_.out rfl rfl (by kernel_rfl) (fun _ _ _ h => h) (Or.inl ⟨by rfl, ?_⟩) ?_ ?_; rotate_left; (· intro w'; go_simp; with_reducible rfl); rotate_left; (· simp only [Act.put, List.setIfInBounds_toArray, List.set_cons_zero, List.set_cons_succ, i64_w, i32_w]; rfl))
 refine pure_ (i := 2) (N := some 9) (v := ?_) (a' := ?_) #[true, false, true, false, false, false, false, false, false, false, false, false, false, false, false, false, false, false, false, false, false, false, false, false, false, false, false, false, false, false, false, false, false, false, false, false] rfl rfl (any_of HT_.out (by kernel_rfl)) (fun _ _ _ h => h) (Or.inl ⟨by rfl, ?_⟩) ?_ ?_
 rotate_left
 ·intro w'
  go_simp
  with_reducible rfl
 rotate_left
 ·simp only [Act.put, List.setIfInBounds_toArray, List.set_cons_zero, List.set_cons_succ, i64_w, i32_w]
  rfl
 refine pure_ (i := 5) (N := some 12) (v := ?_) (a' := ?_) #[true, false, true, false, false, true, false, false, false, false, false, false, false, false, false, false, false, false, false, false, false, false, false, false, false, false, false, false, false, false, false, false, false, false, false, false] rfl rfl (any_of HT_.out (by kernel_rfl)) (fun _ _ _ h => h) (Or.inl ⟨by rfl, ?_⟩) ?_ ?_
 rotate_left
 ·intro w'
  go_simp
  with_reducible rfl
 rotate_left
 ·simp only [Act.put, List.setIfInBounds_toArray, List.set_cons_zero, List.set_cons_succ, i64_w, i32_w]
  rfl
 refine pure_ (i := 7) (N := some 14) (v := ?_) (a' := ?_) #[true, false, true, false, false, true, false, true, false, false, false, false, false, false, false, false, false, false, false, false, false, false, false, false, false, false, false, false, false, false, false, false, false, false, false, false] rfl rfl (any_of HT_.out (by kernel_rfl)) (fun _ _ _ h => h) (Or.inl ⟨by rfl, ?_⟩) ?_ ?_
 rotate_left
 ·intro w'
  go_simp
  with_reducible rfl
 rotate_left
 ·simp only [Act.put, List.setIfInBounds_toArray, List.set_cons_zero, List.set_cons_succ, i64_w, i32_w]
  rfl
 refine pure_ (i := 10) (N := some 17) (v := ?_) (a' := ?_) #[true, false, true, false, false, true, false, true, false, false, true, false, false, false, false, false, false, false, false, false, false, false, false, false, false, false, false, false, false, false, false, false, false, false, false, false] rfl rfl (any_of HT_.out (by kernel_rfl)) (fun _ _ _ h => h) (Or.inl ⟨by rfl, ?_⟩) ?_ ?_
 rotate_left
 ·intro w'
  go_simp
  with_reducible rfl
 rotate_left
 ·simp only [Act.put, List.setIfInBounds_toArray, List.set_cons_zero, List.set_cons_succ, i64_w, i32_w]
  rfl
 refine pure_ (i := 12) (N := some 19) (v := ?_) (a' := ?_) #[true, false, true, false, false, true, false, true, false, false, true, false, true, false, false, false, false, false, false, false, false, false, false, false, false, false, false, false, false, false, false, false, false, false, false, false] rfl rfl (any_of HT_.out (by kernel_rfl)) (fun _ _ _ h => h) (Or.inl ⟨by rfl, ?_⟩) ?_ ?_
 rotate_left
 ·intro w'
  go_simp
  with_reducible rfl
 rotate_left
 ·simp only [Act.put, List.setIfInBounds_toArray, List.set_cons_zero, List.set_cons_succ, i64_w, i32_w]
  rfl
 refine pure_ (i := 15) (N := some 22) (v := ?_) (a' := ?_) #[true, false, true, false, false, true, false, true, false, false, true, false, true, false, false, true, false, false, false, false, false, false, false, false, false, false, false, false, false, false, false, false, false, false, false, false] rfl rfl (any_of HT_.out (by kernel_rfl)) (fun _ _ _ h => h) (Or.inl ⟨by rfl, ?_⟩) ?_ ?_
 rotate_left
 ·intro w'
  go_simp
  with_reducible rfl
 rotate_left
 ·simp only [Act.put, List.setIfInBounds_toArray, List.set_cons_zero, List.set_cons_succ, i64_w, i32_w]
  rfl
 refine pure_ (i := 17) (N := some 24) (v := ?_) (a' := ?_) #[true, false, true, false, false, true, false, true, false, false, true, false, true, false, false, true, false, true, false, false, false, false, false, false, false, false, false, false, false, false, false, false, false, false, false, false] rfl rfl (any_of HT_.out (by kernel_rfl)) (fun _ _ _ h => h) (Or.inl ⟨by rfl, ?_⟩) ?_ ?_
 rotate_left
 ·intro w'
  go_simp
  with_reducible rfl
 rotate_left
 ·simp only [Act.put, List.setIfInBounds_toArray, List.set_cons_zero, List.set_cons_succ, i64_w, i32_w]
  rfl
 refine pure_ (i := 20) (N := some 27) (v := ?_) (a' := ?_) #[true, false, true, false, false, true, false, true, false, false, true, false, true, false, false, true, false, true, false, false, true, false, false, false, false, false, false, false, false, false, false, false, false, false, false, false] rfl rfl (any_of HT_.out (by kernel_rfl)) (fun _ _ _ h => h) (Or.inl ⟨by rfl, ?_⟩) ?_ ?_
 rotate_left
 ·intro w'
  go_simp
  with_reducible rfl
 rotate_left
 ·simp only [Act.put, List.setIfInBounds_toArray, List.set_cons_zero, List.set_cons_succ, i64_w, i32_w]
  rfl
 refine pure_ (i := 22) (N := some 29) (v := ?_) (a' := ?_) #[true, false, true, false, false, true, false, true, false, false, true, false, true, false, false, true, false, true, false, false, true, false, true, false, false, false, false, false, false, false, false, false, false, false, false, false] rfl rfl (any_of HT_.out (by kernel_rfl)) (fun _ _ _ h => h) (Or.inl ⟨by rfl, ?_⟩) ?_ ?_
 rotate_left
 ·intro w'
  go_simp
  with_reducible rfl
 rotate_left
 ·simp only [Act.put, List.setIfInBounds_toArray, List.set_cons_zero, List.set_cons_succ, i64_w, i32_w]
  rfl
 refine pure_ (i := 25) (N := some 32) (v := ?_) (a' := ?_) #[true, false, true, false, false, true, false, true, false, false, true, false, true, false, false, true, false, true, false, false, true, false, true, false, false, true, false, false, false, false, false, false, false, false, false, false] rfl rfl (any_of HT_.out (by kernel_rfl)) (fun _ _ _ h => h) (Or.inl ⟨by rfl, ?_⟩) ?_ ?_
 rotate_left
 ·intro w'
  go_simp
  with_reducible rfl
 rotate_left
 ·simp only [Act.put, List.setIfInBounds_toArray, List.set_cons_zero, List.set_cons_succ, i64_w, i32_w]
  rfl
 refine pure_ (i := 27) (N := some 34) (v := ?_) (a' := ?_) #[true, false, true, false, false, true, false, true, false, false, true, false, true, false, false, true, false, true, false, false, true, false, true, false, false, true, false, true, false, false, false, false, false, false, false, false] rfl rfl (any_of HT_.out (by kernel_rfl)) (fun _ _ _ h => h) (Or.inl ⟨by rfl, ?_⟩) ?_ ?_
 rotate_left
 ·intro w'
  go_simp
  with_reducible rfl
 rotate_left
 ·simp only [Act.put, List.setIfInBounds_toArray, List.set_cons_zero, List.set_cons_succ, i64_w, i32_w]
  rfl
 refine pure_ (i := 29) (N := some 36) (v := ?_) (a' := ?_) #[true, false, true, false, false, true, false, true, false, false, true, false, true, false, false, true, false, true, false, false, true, false, true, false, false, true, false, true, false, true, false, false, false, false, false, false] rfl rfl (any_of HT_.out (by kernel_rfl)) (fun _ _ _ h => h) (Or.inl ⟨by rfl, ?_⟩) ?_ ?_
 rotate_left
 ·intro w'
  go_simp
  with_reducible rfl
 rotate_left
 ·simp only [Act.put, List.setIfInBounds_toArray, List.set_cons_zero, List.set_cons_succ, i64_w, i32_w]
  rfl
 refine pure_ (i := 32) (N := some 39) (v := ?_) (a' := ?_) #[true, false, true, false, false, true, false, true, false, false, true, false, true, false, false, true, false, true, false, false, true, false, true, false, false, true, false, true, false, true, false, false, true, false, false, false] rfl rfl (any_of HT_.out (by kernel_rfl)) (fun _ _ _ h => h) (Or.inl ⟨by rfl, ?_⟩) ?_ ?_
 rotate_left
 ·intro w'
  go_simp
  with_reducible rfl
 rotate_left
 ·simp only [Act.put, List.setIfInBounds_toArray, List.set_cons_zero, List.set_cons_succ, i64_w, i32_w]
  rfl
 refine take_ (i := 1) (N := some 8) (v := ?_) (a' := ?_) #[true, true, true, false, false, true, false, true, false, false, true, false, true, false, false, true, false, true, false, false, true, false, true, false, false, true, false, true, false, true, false, false, true, false, false, false] rfl rfl (take_ofW HT_.out HW_.out (by kernel_rfl)) (fun _ _ _ h => h) (Or.inl ⟨by rfl, ?_⟩) hHeld ?_ ?_
 rotate_left
 ·rintro w' ⟨s0, s1, s2, s3, s4, s5, s6, s7, s8, s9, s10, s11⟩
  go_simp
  with_reducible rfl
 rotate_left
 ·simp only [Act.put, List.setIfInBounds_toArray, List.set_cons_zero, List.set_cons_succ, i64_w, i32_w]
  rfl
 refine take_ (i := 3) (N := some 10) (v := ?_) (a' := ?_) #[true, true, true, true, false, true, false, true, false, false, true, false, true, false, false, true, false, true, false, false, true, false, true, false, false, true, false, true, false, true, false, false, true, false, false, false] rfl rfl (take_ofW HT_.out HW_.out (by kernel_rfl)) (fun _ _ _ h => h) (Or.inl ⟨by rfl, ?_⟩) hHeld ?_ ?_
 rotate_left
 ·rintro w' ⟨s0, s1, s2, s3, s4, s5, s6, s7, s8, s9, s10, s11⟩
  go_simp
  with_reducible rfl
 rotate_left
 ·simp only [Act.put, List.setIfInBounds_toArray, List.set_cons_zero, List.set_cons_succ, i64_w, i32_w]
  rfl
 refine pure_ (i := 4) (N := some 11) (v := ?_) (a' := ?_) #[true, true, true, true, true, true, false, true, false, false, true, false, true, false, false, true, false, true, false, false, true, false, true, false, false, true, false, true, false, true, false, false, true, false, false, false] rfl rfl (any_of HT_.out (by kernel_rfl)) (fun _ _ _ h => h) (Or.inl ⟨by rfl, ?_⟩) ?_ ?_
 rotate_left
 ·intro w'
  go_simp
  with_reducible rfl
 rotate_left
 ·simp only [Act.put, List.setIfInBounds_toArray, List.set_cons_zero, List.set_cons_succ, i64_w, i32_w]
  rfl
 refine take_ (i := 6) (N := some 13) (v := ?_) (a' := ?_) #[true, true, true, true, true, true, true, true, false, false, true, false, true, false, false, true, false, true, false, false, true, false, true, false, false, true, false, true, false, true, false, false, true, false, false, false] rfl rfl (take_ofW HT_.out HW_.out (by kernel_rfl)) (fun _ _ _ h => h) (Or.inl ⟨by rfl, ?_⟩) hHeld ?_ ?_
 rotate_left
 ·rintro w' ⟨s0, s1, s2, s3, s4, s5, s6, s7, s8, s9, s10, s11⟩
  go_simp
  with_reducible rfl
 rotate_left
 ·simp only [Act.put, List.setIfInBounds_toArray, List.set_cons_zero, List.set_cons_succ, i64_w, i32_w]
  rfl
 refine take_ (i := 8) (N := some 15) (v := ?_) (a' := ?_) #[true, true, true, true, true, true, true, true, true, false, true, false, true, false, false, true, false, true, false, false, true, false, true, false, false, true, false, true, false, true, false, false, true, false, false, false] rfl rfl (take_ofW HT_.out HW_.out (by kernel_rfl)) (fun _ _ _ h => h) (Or.inl ⟨by rfl, ?_⟩) hHeld ?_ ?_
 rotate_left
 ·rintro w' ⟨s0, s1, s2, s3, s4, s5, s6, s7, s8, s9, s10, s11⟩
  go_simp
  with_reducible rfl
 rotate_left
 ·simp only [Act.put, List.setIfInBounds_toArray, List.set_cons_zero, List.set_cons_succ, i64_w, i32_w]
  rfl
 refine pure_ (i := 9) (N := some 16) (v := ?_) (a' := ?_) #[true, true, true, true, true, true, true, true, true, true, true, false, true, false, false, true, false, true, false, false, true, false, true, false, false, true, false, true, false, true, false, false, true, false, false, false] rfl rfl (any_of HT_.out (by kernel_rfl)) (fun _ _ _ h => h) (Or.inl ⟨by rfl, ?_⟩) ?_ ?_
 rotate_left
 ·intro w'
  go_simp
  with_reducible rfl
 rotate_left
 ·simp only [Act.put, List.setIfInBounds_toArray, List.set_cons_zero, List.set_cons_succ, i64_w, i32_w]
  rfl
 refine take_ (i := 11) (N := some 18) (v := ?_) (a' := ?_) #[true, true, true, true, true, true, true, true, true, true, true, true, true, false, false, true, false, true, false, false, true, false, true, false, false, true, false, true, false, true, false, false, true, false, false, false] rfl rfl (take_ofW HT_.out HW_.out (by kernel_rfl)) (fun _ _ _ h => h) (Or.inl ⟨by rfl, ?_⟩) hHeld ?_ ?_
 rotate_left
 ·rintro w' ⟨s0, s1, s2, s3, s4, s5, s6, s7, s8, s9, s10, s11⟩
  go_simp
  with_reducible rfl
 rotate_left
 ·simp only [Act.put, List.setIfInBounds_toArray, List.set_cons_zero, List.set_cons_succ, i64_w, i32_w]
  rfl
 refine take_ (i := 13) (N := some 20) (v := ?_) (a' := ?_) #[true, true, true, true, true, true, true, true, true, true, true, true, true, true, false, true, false, true, false, false, true, false, true, false, false, true, false, true, false, true, false, false, true, false, false, false] rfl rfl (take_ofW HT_.out HW_.out (by kernel_rfl)) (fun _ _ _ h => h) (Or.inl ⟨by rfl, ?_⟩) hHeld ?_ ?_
 rotate_left
 ·rintro w' ⟨s0, s1, s2, s3, s4, s5, s6, s7, s8, s9, s10, s11⟩
  go_simp
  with_reducible rfl
 rotate_left
 ·simp only [Act.put, List.setIfInBounds_toArray, List.set_cons_zero, List.set_cons_succ, i64_w, i32_w]
  rfl
 refine pure_ (i := 14) (N := some 21) (v := ?_) (a' := ?_) #[true, true, true, true, true, true, true, true, true, true, true, true, true, true, true, true, false, true, false, false, true, false, true, false, false, true, false, true, false, true, false, false, true, false, false, false] rfl rfl (any_of HT_.out (by kernel_rfl)) (fun _ _ _ h => h) (Or.inl ⟨by rfl, ?_⟩) ?_ ?_
 rotate_left
 ·intro w'
  go_simp
  with_reducible rfl
 rotate_left
 ·simp only [Act.put, List.setIfInBounds_toArray, List.set_cons_zero, List.set_cons_succ, i64_w, i32_w]
  rfl
 refine take_ (i := 16) (N := some 23) (v := ?_) (a' := ?_) #[true, true, true, true, true, true, true, true, true, true, true, true, true, true, true, true, true, true, false, false, true, false, true, false, false, true, false, true, false, true, false, false, true, false, false, false] rfl rfl (take_ofW HT_.out HW_.out (by kernel_rfl)) (fun _ _ _ h => h) (Or.inl ⟨by rfl, ?_⟩) hHeld ?_ ?_
 rotate_left
 ·rintro w' ⟨s0, s1, s2, s3, s4, s5, s6, s7, s8, s9, s10, s11⟩
  go_simp
  with_reducible rfl
 rotate_left
 ·simp only [Act.put, List.setIfInBounds_toArray, List.set_cons_zero, List.set_cons_succ, i64_w, i32_w]
  rfl
 refine take_ (i := 18) (N := some 25) (v := ?_) (a' := ?_) #[true, true, true, true, true, true, true, true, true, true, true, true, true, true, true, true, true, true, true, false, true, false, true, false, false, true, false, true, false, true, false, false, true, false, false, false] rfl rfl (take_ofW HT_.out HW_.out (by kernel_rfl)) (fun _ _ _ h => h) (Or.inl ⟨by rfl, ?_⟩) hHeld ?_ ?_
 rotate_left
 ·rintro w' ⟨s0, s1, s2, s3, s4, s5, s6, s7, s8, s9, s10, s11⟩
  go_simp
  with_reducible rfl
 rotate_left
 ·simp only [Act.put, List.setIfInBounds_toArray, List.set_cons_zero, List.set_cons_succ, i64_w, i32_w]
  rfl
 refine take_ (i := 21) (N := some 28) (v := ?_) (a' := ?_) #[true, true, true, true, true, true, true, true, true, true, true, true, true, true, true, true, true, true, true, false, true, true, true, false, false, true, false, true, false, true, false, false, true, false, false, false] rfl rfl (take_ofW HT_.out HW_.out (by kernel_rfl)) (fun _ _ _ h => h) (Or.inl ⟨by rfl, ?_⟩) hHeld ?_ ?_
 rotate_left
 ·rintro w' ⟨s0, s1, s2, s3, s4, s5, s6, s7, s8, s9, s10, s11⟩
  go_simp
  with_reducible rfl
 rotate_left
 ·simp only [Act.put, List.setIfInBounds_toArray, List.set_cons_zero, List.set_cons_succ, i64_w, i32_w]
  rfl
 refine take_ (i := 23) (N := some 30) (v := ?_) (a' := ?_) #[true, true, true, true, true, true, true, true, true, true, true, true, true, true, true, true, true, true, true, false, true, true, true, true, false, true, false, true, false, true, false, false, true, false, false, false] rfl rfl (take_ofW HT_.out HW_.out (by kernel_rfl)) (fun _ _ _ h => h) (Or.inl ⟨by rfl, ?_⟩) hHeld ?_ ?_
 rotate_left
 ·rintro w' ⟨s0, s1, s2, s3, s4, s5, s6, s7, s8, s9, s10, s11⟩
  go_simp
  with_reducible rfl
 rotate_left
 ·simp only [Act.put, List.setIfInBounds_toArray, List.set_cons_zero, List.set_cons_succ, i64_w, i32_w]
  rfl
 refine take_ (i := 28) (N := some 35) (v := ?_) (a' := ?_) #[true, true, true, true, true, true, true, true, true, true, true, true, true, true, true, true, true, true, true, false, true, true, true, true, false, true, false, true, true, true, false, false, true, false, false, false] rfl rfl (take_ofW HT_.out HW_.out (by kernel_rfl)) (fun _ _ _ h => h) (Or.inl ⟨by rfl, ?_⟩) hHeld ?_ ?_
 rotate_left
 ·rintro w' ⟨s0, s1, s2, s3, s4, s5, s6, s7, s8, s9, s10, s11⟩
  go_simp
  with_reducible rfl
 rotate_left
 ·simp only [Act.put, List.setIfInBounds_toArray, List.set_cons_zero, List.set_cons_succ, i64_w, i32_w]
  rfl
 refine take_ (i := 30) (N := some 37) (v := ?_) (a' := ?_) #[true, true, true, true, true, true, true, true, true, true, true, true, true, true, true, true, true, true, true, false, true, true, true, true, false, true, false, true, true, true, true, false, true, false, false, false] rfl rfl (take_ofW HT_.out HW_.out (by kernel_rfl)) (fun _ _ _ h => h) (Or.inl ⟨by rfl, ?_⟩) hHeld ?_ ?_
 rotate_left
 ·rintro w' ⟨s0, s1, s2, s3, s4, s5, s6, s7, s8, s9, s10, s11⟩
  go_simp
  with_reducible rfl
 rotate_left
 ·simp only [Act.put, List.setIfInBounds_toArray, List.set_cons_zero, List.set_cons_succ, i64_w, i32_w]
  rfl
 refine one_ (i := 19) (N := some 26) #[true, true, true, true, true, true, true, true, true, true, true, true, true, true, true, true, true, true, true, true, true, true, true, true, false, true, false, true, true, true, true, false, true, false, false, false] rfl rfl (one_of HT_.out (by kernel_rfl)) (by decide) (fun K hK => ?_)
 refine goes_ Try.func72 (by kernel_rfl) rfl #[.int .u64 a0_3, .int .u64 a1_3] (by rfl) rfl rfl sa_ ?_
 with_reducible refine (ssi_least.calls a0_3 a1_3 t599 _ A7.out).mono ?_
 rintro e w' ⟨rfl, ⟨nd, rfl⟩⟩
 refine ⟨_, rfl, ?_⟩
 refine hK.out _ _ ⟨(blk_cell BK596.out 0).trans rfl, (blk_cell BK596.out 1).trans rfl, (blk_cell BK596.out 2).trans rfl, (blk_cell BK596.out 3).trans rfl, (blk_cell BK596.out 4).trans rfl, (blk_cell BK596.out 5).trans rfl, (blk_cell BK597.out 0).trans rfl, (blk_cell BK597.out 1).trans rfl, (blk_cell BK597.out 2).trans rfl, (blk_cell BK597.out 3).trans rfl, (blk_cell BK597.out 4).trans rfl, (blk_cell BK597.out 5).trans rfl⟩ (fun hHeld => ?_)
 clear hK K; refine norm_ (a' := ?_) ?_ ?_; rotate_left
 ·show Act.put _ (some 26) _ = _
  simp only [Act.put, List.setIfInBounds_toArray, List.set_cons_zero, List.set_cons_succ, i64_w, i32_w]
  rfl
 refine one_ (i := 24) (N := some 31) #[true, true, true, true, true, true, true, true, true, true, true, true, true, true, true, true, true, true, true, true, true, true, true, true, true, true, false, true, true, true, true, false, true, false, false, false] rfl rfl (one_of HT_.out (by kernel_rfl)) (by decide) (fun K hK => ?_)
 refine goes_ Try.func27 (by kernel_rfl) rfl #[.slice A0_4 l0_4.length c0_4, .slice A1_4 l1_4.length c1_4] (by rfl) rfl rfl sa_ ?_
 with_reducible refine (span_Join.calls k _ _ l0_4 _ _ l1_4 t600 _ ?side1 ?side2 ?side3 ?side4 A8.out).mono ?_
 (case side1 => repeat (first | exact (Kd.C_below HR0_4.out bl_) | (with_reducible refine Kd.C_alloc ?_ _) | (with_reducible refine Kd.C_drewN ?_ _) | (with_reducible refine Kd.C_drew ?_)))
 (case side2 => exact HC0_4.out)
 (case side3 => repeat (first | exact (Kd.C_below HR1_4.out bl_) | (with_reducible refine Kd.C_alloc ?_ _) | (with_reducible refine Kd.C_drewN ?_ _) | (with_reducible refine Kd.C_drew ?_)))
 (case side4 => exact HC1_4.out)
 rintro e w16 ⟨v601, rfl, ho0, hb⟩
 refine ⟨_, rfl, ?_⟩
 have n0_ := Aside0.mk (Kd.R_lower ho0 (below_size bl_))
 have n1_ := Aside0.mk (blk_below (g := gb596) (o := .cells #[.int .u64 a0_0, .int .u64 a0_1, .int .u64 a0_2, .int .u64 a0_3, .slice A0_4 l0_4.length c0_4, .slice A0_5 l0_5.length c0_5] 26 (0, 0)) (by (with_reducible repeat (first | refine blk_drewN ?_ _ | refine blk_drew ?_ | refine blk_alloc ?_ _)); exact BK596.out) hb)
 have n2_ := Aside0.mk (blk_below (g := gb597) (o := .cells #[.int .u64 a1_0, .int .u64 a1_1, .int .u64 a1_2, .int .u64 a1_3, .slice A1_4 l1_4.length c1_4, .slice A1_5 l1_5.length c1_5] 26 (0, 0)) (by (with_reducible repeat (first | refine blk_drewN ?_ _ | refine blk_drew ?_ | refine blk_alloc ?_ _)); exact BK597.out) hb)
 have n3_ := Aside0.mk (blk_below (g := gb598) (o := .cells #[.int .u64 0, .int .u64 0, .int .u64 0, .int .u64 0, .slice none 0 0, .slice none 0 0] 26 (0, 0)) (by (with_reducible repeat (first | refine blk_drewN ?_ _ | refine blk_drew ?_ | refine blk_alloc ?_ _)); exact BK598.out) hb)
 have n4_ := Aside0.mk (below_step bl_ hb)
 clear BK596; clear BK597; clear BK598; clear HB; have HO602 := n0_; have BK596 := n1_; have BK597 := n2_; have BK598 := n3_; have HB := n4_; clear n0_ n1_ n2_ n3_ n4_
 (try clear hb)
 (try clear hb2)
 (try clear hk)
 (try clear hi)
 (try clear ho0)
 obtain ⟨Ao17, co17, eo17⟩ := Kd.R_slice HO602.out
 (first | subst eo17 | (injection eo17 with f1_ f2_ f3_; have f4_ := f1_.symm; have f5_ := f3_.symm; clear f1_ f2_ f3_; subst f4_; subst f5_))
 refine hK.out _ _ ⟨(blk_cell BK596.out 0).trans rfl, (blk_cell BK596.out 1).trans rfl, (blk_cell BK596.out 2).trans rfl, (blk_cell BK596.out 3).trans rfl, (blk_cell BK596.out 4).trans rfl, (blk_cell BK596.out 5).trans rfl, (blk_cell BK597.out 0).trans rfl, (blk_cell BK597.out 1).trans rfl, (blk_cell BK597.out 2).trans rfl, (blk_cell BK597.out 3).trans rfl, (blk_cell BK597.out 4).trans rfl, (blk_cell BK597.out 5).trans rfl⟩ (fun hHeld => ?_)
 clear hK K; refine norm_ (a' := ?_) ?_ ?_; rotate_left
 ·show Act.put _ (some 31) _ = _
  simp only [Act.put, List.setIfInBounds_toArray, List.set_cons_zero, List.set_cons_succ, i64_w, i32_w]
  rfl
 refine one_ (i := 26) (N := some 33) #[true, true, true, true, true, true, true, true, true, true, true, true, true, true, true, true, true, true, true, true, true, true, true, true, true, true, true, true, true, true, true, false, true, false, false, false] rfl rfl (one_of HT_.out (by kernel_rfl)) (by decide) (fun K hK => ?_)
 refine goes_ Try.func24 (by kernel_rfl) rfl #[.slice Ao17 t600.length co17, .int .i64 a2] (by rfl) rfl rfl sa_ ?_
 with_reducible refine (span_Fit.calls k _ _ t600 a2 t603 _ ?side1 ?side2 A9.out).mono ?_
 (case side1 => repeat (first | exact (Kd.R_reads' HO602.out).2.2 | (with_reducible refine Kd.C_alloc ?_ _) | (with_reducible refine Kd.C_drewN ?_ _) | (with_reducible refine Kd.C_drew ?_)))
 (case side2 => exact (Kd.R_reads' HO602.out).2.1)
 rintro e w18 ⟨v604, rfl, ho0, hb⟩
 refine ⟨_, rfl, ?_⟩
 have n0_ := Aside0.mk (Kd.R_elder' (by exact HO602.out) (Kd.R_base ho0) hb)
 have n1_ := Aside0.mk (Kd.R_lower (Kd.R_new' ho0 (Kd.R_lt (by exact HO602.out))) (below_size bl_))
 have n2_ := Aside0.mk (blk_below (g := gb596) (o := .cells #[.int .u64 a0_0, .int .u64 a0_1, .int .u64 a0_2, .int .u64 a0_3, .slice A0_4 l0_4.length c0_4, .slice A0_5 l0_5.length c0_5] 26 (0, 0)) (by (with_reducible repeat (first | refine blk_drewN ?_ _ | refine blk_drew ?_ | refine blk_alloc ?_ _)); exact BK596.out) hb)
 have n3_ := Aside0.mk (blk_below (g := gb597) (o := .cells #[.int .u64 a1_0, .int .u64 a1_1, .int .u64 a1_2, .int .u64 a1_3, .slice A1_4 l1_4.length c1_4, .slice A1_5 l1_5.length c1_5] 26 (0, 0)) (by (with_reducible repeat (first | refine blk_drewN ?_ _ | refine blk_drew ?_ | refine blk_alloc ?_ _)); exact BK597.out) hb)
 have n4_ := Aside0.mk (blk_below (g := gb598) (o := .cells #[.int .u64 0, .int .u64 0, .int .u64 0, .int .u64 0, .slice none 0 0, .slice none 0 0] 26 (0, 0)) (by (with_reducible repeat (first | refine blk_drewN ?_ _ | refine blk_drew ?_ | refine blk_alloc ?_ _)); exact BK598.out) hb)
 have n5_ := Aside0.mk (below_step bl_ hb)
 clear HO602; clear BK596; clear BK597; clear BK598; clear HB; have HO602 := n0_; have HO605 := n1_; have BK596 := n2_; have BK597 := n3_; have BK598 := n4_; have HB := n5_; clear n0_ n1_ n2_ n3_ n4_ n5_
 (try clear hb)
 (try clear hb2)
 (try clear hk)
 (try clear hi)
 (try clear ho0)
 refine hK.out _ _ ⟨(blk_cell BK596.out 0).trans rfl, (blk_cell BK596.out 1).trans rfl, (blk_cell BK596.out 2).trans rfl, (blk_cell BK596.out 3).trans rfl, (blk_cell BK596.out 4).trans rfl, (blk_cell BK596.out 5).trans rfl, (blk_cell BK597.out 0).trans rfl, (blk_cell BK597.out 1).trans rfl, (blk_cell BK597.out 2).trans rfl, (blk_cell BK597.out 3).trans rfl, (blk_cell BK597.out 4).trans rfl, (blk_cell BK597.out 5).trans rfl⟩ (fun hHeld => ?_)
 clear hK K; refine norm_ (a' := ?_) ?_ ?_; rotate_left
 ·show Act.put _ (some 33) _ = _
  simp only [Act.put, List.setIfInBounds_toArray, List.set_cons_zero, List.set_cons_succ, i64_w, i32_w]
  rfl
 refine one_ (i := 31) (N := some 38) (fst_ 36 33) rfl rfl (one_of HT_.out (by kernel_rfl)) (by decide) (fun K hK => ?_)
 refine goes_ Try.func27 (by kernel_rfl) rfl #[.slice A0_5 l0_5.length c0_5, .slice A1_5 l1_5.length c1_5] (by rfl) rfl rfl sa_ ?_
 with_reducible refine (span_Join.calls k _ _ l0_5 _ _ l1_5 t606 _ ?side1 ?side2 ?side3 ?side4 A10.out).mono ?_
 (case side1 => repeat (first | exact (Kd.C_below HR0_5.out HB.out) | (with_reducible refine Kd.C_alloc ?_ _) | (with_reducible refine Kd.C_drewN ?_ _) | (with_reducible refine Kd.C_drew ?_)))
 (case side2 => exact HC0_5.out)
 (case side3 => repeat (first | exact (Kd.C_below HR1_5.out HB.out) | (with_reducible refine Kd.C_alloc ?_ _) | (with_reducible refine Kd.C_drewN ?_ _) | (with_reducible refine Kd.C_drew ?_)))
 (case side4 => exact HC1_5.out)
 rintro e w19 ⟨v607, rfl, ho0, hb⟩
 refine ⟨_, rfl, ?_⟩
 have n0_ := Aside0.mk (Kd.R_elder' (by exact HO602.out) (Kd.R_base ho0) hb)
 have n1_ := Aside0.mk (Kd.R_elder' (by exact HO605.out) (Kd.R_base ho0) hb)
 have n2_ := Aside0.mk (Kd.R_lower (Kd.R_new' (Kd.R_new' ho0 (Kd.R_lt (by exact HO602.out))) (Kd.R_lt (by exact HO605.out))) (below_size bl_))
 have n3_ := Aside0.mk (blk_below (g := gb596) (o := .cells #[.int .u64 a0_0, .int .u64 a0_1, .int .u64 a0_2, .int .u64 a0_3, .slice A0_4 l0_4.length c0_4, .slice A0_5 l0_5.length c0_5] 26 (0, 0)) (by (with_reducible repeat (first | refine blk_drewN ?_ _ | refine blk_drew ?_ | refine blk_alloc ?_ _)); exact BK596.out) hb)
 have n4_ := Aside0.mk (blk_below (g := gb597) (o := .cells #[.int .u64 a1_0, .int .u64 a1_1, .int .u64 a1_2, .int .u64 a1_3, .slice A1_4 l1_4.length c1_4, .slice A1_5 l1_5.length c1_5] 26 (0, 0)) (by (with_reducible repeat (first | refine blk_drewN ?_ _ | refine blk_drew ?_ | refine blk_alloc ?_ _)); exact BK597.out) hb)
 have n5_ := Aside0.mk (blk_below (g := gb598) (o := .cells #[.int .u64 0, .int .u64 0, .int .u64 0, .int .u64 0, .slice none 0 0, .slice none 0 0] 26 (0, 0)) (by (with_reducible repeat (first | refine blk_drewN ?_ _ | refine blk_drew ?_ | refine blk_alloc ?_ _)); exact BK598.out) hb)
 have n6_ := Aside0.mk (below_step bl_ hb)
 clear HO602; clear HO605; clear BK596; clear BK597; clear BK598; clear HB; have HO602 := n0_; have HO605 := n1_; have HO608 := n2_; have BK596 := n3_; have BK597 := n4_; have BK598 := n5_; have HB := n6_; clear n0_ n1_ n2_ n3_ n4_ n5_ n6_
 (try clear hb)
 (try clear hb2)
 (try clear hk)
 (try clear hi)
 (try clear ho0)
 obtain ⟨Ao20, co20, eo20⟩ := Kd.R_slice HO608.out
 (first | subst eo20 | (injection eo20 with f1_ f2_ f3_; have f4_ := f1_.symm; have f5_ := f3_.symm; clear f1_ f2_ f3_; subst f4_; subst f5_))
 refine hK.out _ _ ⟨(blk_cell BK596.out 0).trans rfl, (blk_cell BK596.out 1).trans rfl, (blk_cell BK596.out 2).trans rfl, (blk_cell BK596.out 3).trans rfl, (blk_cell BK596.out 4).trans rfl, (blk_cell BK596.out 5).trans rfl, (blk_cell BK597.out 0).trans rfl, (blk_cell BK597.out 1).trans rfl, (blk_cell BK597.out 2).trans rfl, (blk_cell BK597.out 3).trans rfl, (blk_cell BK597.out 4).trans rfl, (blk_cell BK597.out 5).trans rfl⟩ (fun hHeld => ?_)
 clear hK K; refine norm_ (a' := ?_) ?_ ?_; rotate_left
 ·show Act.put _ (some 38) _ = _
  simp only [Act.put, List.setIfInBounds_toArray, List.set_cons_zero, List.set_cons_succ, i64_w, i32_w]
  rfl
 refine one_ (i := 33) (N := some 40) (fst_ 36 34) rfl rfl (one_of HT_.out (by kernel_rfl)) (by decide) (fun K hK => ?_)
 refine goes_ Try.func24 (by kernel_rfl) rfl #[.slice Ao20 t606.length co20, .int .i64 a2] (by rfl) rfl rfl sa_ ?_
 with_reducible refine (span_Fit.calls k _ _ t606 a2 t609 _ ?side1 ?side2 A11.out).mono ?_
 (case side1 => repeat (first | exact (Kd.R_reads' HO608.out).2.2 | (with_reducible refine Kd.C_alloc ?_ _) | (with_reducible refine Kd.C_drewN ?_ _) | (with_reducible refine Kd.C_drew ?_)))
 (case side2 => exact (Kd.R_reads' HO608.out).2.1)
 rintro e w21 ⟨v610, rfl, ho0, hb⟩
 refine ⟨_, rfl, ?_⟩
 have n0_ := Aside0.mk (Kd.R_elder' (by exact HO602.out) (Kd.R_base ho0) hb)
 have n1_ := Aside0.mk (Kd.R_elder' (by exact HO605.out) (Kd.R_base ho0) hb)
 have n2_ := Aside0.mk (Kd.R_elder' (by exact HO608.out) (Kd.R_base ho0) hb)
 have n3_ := Aside0.mk (Kd.R_lower (Kd.R_new' (Kd.R_new' (Kd.R_new' ho0 (Kd.R_lt (by exact HO602.out))) (Kd.R_lt (by exact HO605.out))) (Kd.R_lt (by exact HO608.out))) (below_size bl_))
 have n4_ := Aside0.mk (blk_below (g := gb596) (o := .cells #[.int .u64 a0_0, .int .u64 a0_1, .int .u64 a0_2, .int .u64 a0_3, .slice A0_4 l0_4.length c0_4, .slice A0_5 l0_5.length c0_5] 26 (0, 0)) (by (with_reducible repeat (first | refine blk_drewN ?_ _ | refine blk_drew ?_ | refine blk_alloc ?_ _)); exact BK596.out) hb)
 have n5_ := Aside0.mk (blk_below (g := gb597) (o := .cells #[.int .u64 a1_0, .int .u64 a1_1, .int .u64 a1_2, .int .u64 a1_3, .slice A1_4 l1_4.length c1_4, .slice A1_5 l1_5.length c1_5] 26 (0, 0)) (by (with_reducible repeat (first | refine blk_drewN ?_ _ | refine blk_drew ?_ | refine blk_alloc ?_ _)); exact BK597.out) hb)
 have n6_ := Aside0.mk (blk_below (g := gb598) (o := .cells #[.int .u64 0, .int .u64 0, .int .u64 0, .int .u64 0, .slice none 0 0, .slice none 0 0] 26 (0, 0)) (by (with_reducible repeat (first | refine blk_drewN ?_ _ | refine blk_drew ?_ | refine blk_alloc ?_ _)); exact BK598.out) hb)
 have n7_ := Aside0.mk (below_step bl_ hb)
 clear HO602; clear HO605; clear HO608; clear BK596; clear BK597; clear BK598; clear HB; have HO602 := n0_; have HO605 := n1_; have HO608 := n2_; have HO611 := n3_; have BK596 := n4_; have BK597 := n5_; have BK598 := n6_; have HB := n7_; clear n0_ n1_ n2_ n3_ n4_ n5_ n6_ n7_
 (try clear hb)
 (try clear hb2)
 (try clear hk)
 (try clear hi)
 (try clear ho0)
 obtain ⟨Ao22, co22, eo22⟩ := Kd.R_slice HO611.out
 (first | subst eo22 | (injection eo22 with f1_ f2_ f3_; have f4_ := f1_.symm; have f5_ := f3_.symm; clear f1_ f2_ f3_; subst f4_; subst f5_))
 obtain ⟨Ao23, co23, eo23⟩ := Kd.R_slice HO605.out
 (first | subst eo23 | (injection eo23 with f1_ f2_ f3_; have f4_ := f1_.symm; have f5_ := f3_.symm; clear f1_ f2_ f3_; subst f4_; subst f5_))
 refine hK.out _ _ ⟨(blk_cell BK596.out 0).trans rfl, (blk_cell BK596.out 1).trans rfl, (blk_cell BK596.out 2).trans rfl, (blk_cell BK596.out 3).trans rfl, (blk_cell BK596.out 4).trans rfl, (blk_cell BK596.out 5).trans rfl, (blk_cell BK597.out 0).trans rfl, (blk_cell BK597.out 1).trans rfl, (blk_cell BK597.out 2).trans rfl, (blk_cell BK597.out 3).trans rfl, (blk_cell BK597.out 4).trans rfl, (blk_cell BK597.out 5).trans rfl⟩ (fun hHeld => ?_)
 clear hK K; refine norm_ (a' := ?_) ?_ ?_; rotate_left
 ·show Act.put _ (some 40) _ = _
  simp only [Act.put, List.setIfInBounds_toArray, List.set_cons_zero, List.set_cons_succ, i64_w, i32_w]
  rfl
 (refine pk_ (v := ?_) (a' := ?_) HT_.out rfl rfl (by kernel_rfl) (fun _ _ _ h => h) (Or.inl ⟨by rfl, ?_⟩) ?_ ?_; rotate_left; (· intro w'; go_simp; with_reducible rfl); rotate_left; (· simp only [Act.put, List.setIfInBounds_toArray, List.set_cons_zero, List.set_cons_succ, i64_w, i32_w]; rfl))
 refine one_ (i := 35) (N := none) (fst_ 36 36) rfl rfl (one_of HT_.out (by kernel_rfl)) (by decide) (fun K hK => ?_)
 have hs24 : w21.cell? ⟨gb598, 0, none⟩ = some (.int .u64 0) := (blk_cell BK598.out 0).trans rfl
 have hfs24 := blk_frozen BK598.out 0
 have hns24_0 := NB596_598.out
 have hns24_1 := NB597_598.out
 have hms24_0 := NB598_596.out
 have hms24_1 := NB598_597.out
 have hs25 : w21.cell? ⟨gb598, 1, none⟩ = some (.int .u64 0) := (blk_cell BK598.out 1).trans rfl
 have hfs25 := blk_frozen BK598.out 1
 have hns25_0 := NB596_598.out
 have hns25_1 := NB597_598.out
 have hms25_0 := NB598_596.out
 have hms25_1 := NB598_597.out
 have hs26 : w21.cell? ⟨gb598, 2, none⟩ = some (.int .u64 0) := (blk_cell BK598.out 2).trans rfl
 have hfs26 := blk_frozen BK598.out 2
 have hns26_0 := NB596_598.out
 have hns26_1 := NB597_598.out
 have hms26_0 := NB598_596.out
 have hms26_1 := NB598_597.out
 have hs27 : w21.cell? ⟨gb598, 3, none⟩ = some (.int .u64 0) := (blk_cell BK598.out 3).trans rfl
 have hfs27 := blk_frozen BK598.out 3
 have hns27_0 := NB596_598.out
 have hns27_1 := NB597_598.out
 have hms27_0 := NB598_596.out
 have hms27_1 := NB598_597.out
 have hs28 : w21.cell? ⟨gb598, 4, none⟩ = some (.slice none 0 0) := (blk_cell BK598.out 4).trans rfl
 have hfs28 := blk_frozen BK598.out 4
 have hns28_0 := NB596_598.out
 have hns28_1 := NB597_598.out
 have hms28_0 := NB598_596.out
 have hms28_1 := NB598_597.out
 have hs29 : w21.cell? ⟨gb598, 5, none⟩ = some (.slice none 0 0) := (blk_cell BK598.out 5).trans rfl
 have hfs29 := blk_frozen BK598.out 5
 have hns29_0 := NB596_598.out
 have hns29_1 := NB597_598.out
 have hms29_0 := NB598_596.out
 have hms29_1 := NB598_597.out
 refine skip_ (w1 := ?_) (by rfl) rfl ?_ ?_
 rotate_left
 ·go_simp
  rfl
 refine hK.out _ _ ⟨((cell_far (p := ⟨gb598, _, none⟩) NB596_598.out _).trans (((cell_far (p := ⟨gb598, _, none⟩) NB596_598.out _).trans (((cell_far (p := ⟨gb598, _, none⟩) NB596_598.out _).trans (((cell_far (p := ⟨gb598, _, none⟩) NB596_598.out _).trans (((cell_far (p := ⟨gb598, _, none⟩) NB596_598.out _).trans (((cell_far (p := ⟨gb598, _, none⟩) NB596_598.out _).trans (hHeld.1)))))))))))), ((cell_far (p := ⟨gb598, _, none⟩) NB596_598.out _).trans (((cell_far (p := ⟨gb598, _, none⟩) NB596_598.out _).trans (((cell_far (p := ⟨gb598, _, none⟩) NB596_598.out _).trans (((cell_far (p := ⟨gb598, _, none⟩) NB596_598.out _).trans (((cell_far (p := ⟨gb598, _, none⟩) NB596_598.out _).trans (((cell_far (p := ⟨gb598, _, none⟩) NB596_598.out _).trans (hHeld.2.1)))))))))))), ((cell_far (p := ⟨gb598, _, none⟩) NB596_598.out _).trans (((cell_far (p := ⟨gb598, _, none⟩) NB596_598.out _).trans (((cell_far (p := ⟨gb598, _, none⟩) NB596_598.out _).trans (((cell_far (p := ⟨gb598, _, none⟩) NB596_598.out _).trans (((cell_far (p := ⟨gb598, _, none⟩) NB596_598.out _).trans (((cell_far (p := ⟨gb598, _, none⟩) NB596_598.out _).trans (hHeld.2.2.1)))))))))))), ((cell_far (p := ⟨gb598, _, none⟩) NB596_598.out _).trans (((cell_far (p := ⟨gb598, _, none⟩) NB596_598.out _).trans (((cell_far (p := ⟨gb598, _, none⟩) NB596_598.out _).trans (((cell_far (p := ⟨gb598, _, none⟩) NB596_598.out _).trans (((cell_far (p := ⟨gb598, _, none⟩) NB596_598.out _).trans (((cell_far (p := ⟨gb598, _, none⟩) NB596_598.out _).trans (hHeld.2.2.2.1)))))))))))), ((cell_far (p := ⟨gb598, _, none⟩) NB596_598.out _).trans (((cell_far (p := ⟨gb598, _, none⟩) NB596_598.out _).trans (((cell_far (p := ⟨gb598, _, none⟩) NB596_598.out _).trans (((cell_far (p := ⟨gb598, _, none⟩) NB596_598.out _).trans (((cell_far (p := ⟨gb598, _, none⟩) NB596_598.out _).trans (((cell_far (p := ⟨gb598, _, none⟩) NB596_598.out _).trans (hHeld.2.2.2.2.1)))))))))))), ((cell_far (p := ⟨gb598, _, none⟩) NB596_598.out _).trans (((cell_far (p := ⟨gb598, _, none⟩) NB596_598.out _).trans (((cell_far (p := ⟨gb598, _, none⟩) NB596_598.out _).trans (((cell_far (p := ⟨gb598, _, none⟩) NB596_598.out _).trans (((cell_far (p := ⟨gb598, _, none⟩) NB596_598.out _).trans (((cell_far (p := ⟨gb598, _, none⟩) NB596_598.out _).trans (hHeld.2.2.2.2.2.1)))))))))))), ((cell_far (p := ⟨gb598, _, none⟩) NB597_598.out _).trans (((cell_far (p := ⟨gb598, _, none⟩) NB597_598.out _).trans (((cell_far (p := ⟨gb598, _, none⟩) NB597_598.out _).trans (((cell_far (p := ⟨gb598, _, none⟩) NB597_598.out _).trans (((cell_far (p := ⟨gb598, _, none⟩) NB597_598.out _).trans (((cell_far (p := ⟨gb598, _, none⟩) NB597_598.out _).trans (hHeld.2.2.2.2.2.2.1)))))))))))), ((cell_far (p := ⟨gb598, _, none⟩) NB597_598.out _).trans (((cell_far (p := ⟨gb598, _, none⟩) NB597_598.out _).trans (((cell_far (p := ⟨gb598, _, none⟩) NB597_598.out _).trans (((cell_far (p := ⟨gb598, _, none⟩) NB597_598.out _).trans (((cell_far (p := ⟨gb598, _, none⟩) NB597_598.out _).trans (((cell_far (p := ⟨gb598, _, none⟩) NB597_598.out _).trans (hHeld.2.2.2.2.2.2.2.1)))))))))))), ((cell_far (p := ⟨gb598, _, none⟩) NB597_598.out _).trans (((cell_far (p := ⟨gb598, _, none⟩) NB597_598.out _).trans (((cell_far (p := ⟨gb598, _, none⟩) NB597_598.out _).trans (((cell_far (p := ⟨gb598, _, none⟩) NB597_598.out _).trans (((cell_far (p := ⟨gb598, _, none⟩) NB597_598.out _).trans (((cell_far (p := ⟨gb598, _, none⟩) NB597_598.out _).trans (hHeld.2.2.2.2.2.2.2.2.1)))))))))))), ((cell_far (p := ⟨gb598, _, none⟩) NB597_598.out _).trans (((cell_far (p := ⟨gb598, _, none⟩) NB597_598.out _).trans (((cell_far (p := ⟨gb598, _, none⟩) NB597_598.out _).trans (((cell_far (p := ⟨gb598, _, none⟩) NB597_598.out _).trans (((cell_far (p := ⟨gb598, _, none⟩) NB597_598.out _).trans (((cell_far (p := ⟨gb598, _, none⟩) NB597_598.out _).trans (hHeld.2.2.2.2.2.2.2.2.2.1)))))))))))), ((cell_far (p := ⟨gb598, _, none⟩) NB597_598.out _).trans (((cell_far (p := ⟨gb598, _, none⟩) NB597_598.out _).trans (((cell_far (p := ⟨gb598, _, none⟩) NB597_598.out _).trans (((cell_far (p := ⟨gb598, _, none⟩) NB597_598.out _).trans (((cell_far (p := ⟨gb598, _, none⟩) NB597_598.out _).trans (((cell_far (p := ⟨gb598, _, none⟩) NB597_598.out _).trans (hHeld.2.2.2.2.2.2.2.2.2.2.1)))))))))))), ((cell_far (p := ⟨gb598, _, none⟩) NB597_598.out _).trans (((cell_far (p := ⟨gb598, _, none⟩) NB597_598.out _).trans (((cell_far (p := ⟨gb598, _, none⟩) NB597_598.out _).trans (((cell_far (p := ⟨gb598, _, none⟩) NB597_598.out _).trans (((cell_far (p := ⟨gb598, _, none⟩) NB597_598.out _).trans (((cell_far (p := ⟨gb598, _, none⟩) NB597_598.out _).trans (hHeld.2.2.2.2.2.2.2.2.2.2.2))))))))))))⟩ (fun hHeld => ?_)
 clear hK K
 refine done_ (done_of HT_.out (by kernel_rfl)) ?_
 try go_wp2
 refine bodyPost_ret (results_cell_row rfl _ _ gb598 26 #[.int .u64 ji4, .int .u64 ji5, .int .u64 ji6, .int .u64 t599, .slice Ao23 t603.length co23, .slice Ao22 t609.length co22] (0, 0) _ rfl (by (with_reducible repeat (first | refine blk_drewN ?_ _ | refine blk_drew ?_ | refine blk_alloc ?_ _)); refine blk_put (cs := #[.int .u64 ji4, .int .u64 ji5, .int .u64 ji6, .int .u64 t599, .slice Ao23 t603.length co23, .slice none 0 0]) ?_ 5 _ rfl; refine blk_put (cs := #[.int .u64 ji4, .int .u64 ji5, .int .u64 ji6, .int .u64 t599, .slice none 0 0, .slice none 0 0]) ?_ 4 _ rfl; refine blk_put (cs := #[.int .u64 ji4, .int .u64 ji5, .int .u64 ji6, .int .u64 0, .slice none 0 0, .slice none 0 0]) ?_ 3 _ rfl; refine blk_put (cs := #[.int .u64 ji4, .int .u64 ji5, .int .u64 0, .int .u64 0, .slice none 0 0, .slice none 0 0]) ?_ 2 _ rfl; refine blk_put (cs := #[.int .u64 ji4, .int .u64 0, .int .u64 0, .int .u64 0, .slice none 0 0, .slice none 0 0]) ?_ 1 _ rfl; refine blk_put (cs := #[.int .u64 0, .int .u64 0, .int .u64 0, .int .u64 0, .slice none 0 0, .slice none 0 0]) ?_ 0 _ rfl; exact BK598.out) Try.underlying26 rfl (by kernel_rfl)) rfl ?_
 exact ⟨_, _, by first | rfl | (simp [errW_none, errW_some] <;> rfl) | (simp only [← hji4, ← hji5, ← hji6]; first | rfl | (simp [errW_none, errW_some] <;> rfl)) | (simp [*, errW_none, errW_some] <;> rfl), by exact Kd.R_mono (Kd.R_far (p := ⟨gb598, 5, none⟩) (Kd.R_far (p := ⟨gb598, 4, none⟩) (Kd.R_far (p := ⟨gb598, 3, none⟩) (Kd.R_far (p := ⟨gb598, 2, none⟩) (Kd.R_far (p := ⟨gb598, 1, none⟩) (Kd.R_far (p := ⟨gb598, 0, none⟩) (Kd.R_types HO605.out BK598.out (by decide)) (fun _ hk => hk.2) (.int .u64 ji4)) (fun _ hk => hk.2) (.int .u64 ji5)) (fun _ hk => hk.2) (.int .u64 ji6)) (fun _ hk => hk.2) (.int .u64 t599)) (fun _ hk => hk.2) (.slice Ao23 t603.length co23)) (fun _ hk => hk.2) (.slice Ao22 t609.length co22)) (fun _ hk => hk.1.2), by exact Kd.R_mono (Kd.R_far (p := ⟨gb598, 5, none⟩) (Kd.R_far (p := ⟨gb598, 4, none⟩) (Kd.R_far (p := ⟨gb598, 3, none⟩) (Kd.R_far (p := ⟨gb598, 2, none⟩) (Kd.R_far (p := ⟨gb598, 1, none⟩) (Kd.R_far (p := ⟨gb598, 0, none⟩) (Kd.R_types HO611.out BK598.out (by decide)) (fun _ hk => hk.2) (.int .u64 ji4)) (fun _ hk => hk.2) (.int .u64 ji5)) (fun _ hk => hk.2) (.int .u64 ji6)) (fun _ hk => hk.2) (.int .u64 t599)) (fun _ hk => hk.2) (.slice Ao23 t603.length co23)) (fun _ hk => hk.2) (.slice Ao22 t609.length co22)) (fun _ hk => hk.1.1.2), bl_⟩
end Go.Proofs.Ytjefihcbhdennaa.S
namespace Go.Proofs.Ytjefihcbhdennaa.S
open Go.RowKit Go.Proofs.YtjefihcbhdennaaW.PrintWords Go.Proofs.YtjefihcbhdennaaW.PrintLast Go.Proofs.YtjefihcbhdennaaW.PrintMore
attribute [local go_sem] max2_int min2_int max2_str min2_str str_leq str_gtr str_geq max_two min_two max_three min_three max_four min_four   -- for this text's walks alone
set_option linter.unusedVariables false
set_option linter.unusedSimpArgs false
def api_Record_71.f (l0 : List S26) : Option (List S26) := if l0.length < 1759218604441 then some l0 else none
set_option maxHeartbeats 1000000 in
theorem api_Record_71.calls (P0_ : Nat → Prop) (A0 : Option Addr) (c0 : Nat) (l0 : List S26) (r : List S26) (w : World) (hs0 : Kd.V k26 26 w w.heap.size (fun k_ => P0_ k_) (.slice A0 l0.length c0) l0) (h : api_Record_71.f l0 = some r) :
  Calls Try.prog 71 #[.slice A0 l0.length c0] w fun e w' => ∃ v0_ : Value, e = .returned (v0_) ∧ Kd.N k26 26 w' w.heap.size (fun k_ => (P0_ k_ ∨ w.heap.size ≤ k_)) v0_ r ∧ Below w.heap.size w w' := by
 unfold api_Record_71.f at h
 by_cases hl : l0.length < 1759218604441
 ·rw [if_pos hl] at h
  obtain rfl := Option.some.inj h; have HL := Aside0.mk hl; clear h hl; obtain ⟨A0', c0', he, hc0, hF0⟩ := hs0
  injection he with he1 _ he2
  subst he1 he2
  have hF := Kd.F_bound hF0
  cases A0 with
  | none =>
   have hn : l0 = [] := by
    cases l0 with
    | nil => rfl
    | cons x t => have := (Kd.F_now hF).2.2 (by simp); obtain ⟨ad, h1, _⟩ := this; cases h1
   subst hn; clear hF hF0
   have heq := fun W => Lib.run_eql_slice_nil (P := Try.prog) W 22 26 (none : Option Addr) 0 c0 0 0 Try.underlying22
   go_enter Try.func71, Try.ntmps71
   go_wp2
   go_ret
   exact ⟨_, rfl, Kd.N_nil _ _ _ _ _, Below.refl _ _⟩
  | some ad =>
   have HF := Aside0.mk hF; have HC := Aside0.mk hc0
   have heq := fun W => Lib.run_eql_slice_nil (P := Try.prog) W 22 26 (some ad) l0.length c0 0 0 Try.underlying22
   clear hF hF0 hc0
   go_enter Try.func71, Try.ntmps71
   go_wp2_with (first
    | ((with_reducible refine gate_dst (N := 5) rfl ?_); refine Kd.N_lit k26 _ 26 ?hg (N' := 5) ?hd (xs := ([] : List S26)) (inner := []) (ok := fun k_ => (P0_ k_ ∨ w.heap.size ≤ k_)) (okp := fun _ => False) ?hr ?hp (fun _ hk => hk.elim) (.inr (Nat.le_refl _)) (Below.refl w.heap.size w) (Nat.le_refl _) (by simp) ?_; (case hd => rfl); (case hg => rfl); (case hr => first | (go_simp; done) | (go_simp; rfl)); (case hp => exact Reps.none _ _); intro v1 w1 ho1 hb1 hg_ hnew_; clear hg_; have HO1 := Aside0.mk ho1; have HB1 := Aside0.mk hb1; have HN1 := Aside0.mk hnew_; clear ho1 hb1 hnew_)
    | ((with_reducible refine gate_builtin (b := .append) (xs := #[.tmp 5, .tmp 6]) rfl ?_); at_builtin; refine Kd.N_append_rows k26 (w0 := w) w.heap.size rfl (.tmp 5) (.tmp 6) 22 26 (.agg #[(.int .u64 0), (.int .u64 0), (.int .u64 0), (.int .u64 0), (.slice none 0 0), (.slice none 0 0)]) 80 rfl Try.underlying22 info26 rfl (by decide) (by omega) v1 [] l0 _ _ _ (fun k_ => (P0_ k_ ∨ w.heap.size ≤ k_)) (fun k_ => P0_ k_ ∧ k_ < w.heap.size) rfl rfl ?aO ?aR (fun k_ hk => ⟨.inl hk.1, fun e => by obtain ⟨b, hb, hle⟩ := HN1.out; rw [hb] at e; injection e with e; have := hk.2; omega⟩) ?aF ?aB ?aS ?aL ?_; (case aR => exact Kd.F_step HF.out (fun k_ hk _ => HB1.out.block k_ hk.2)); (case aF => exact (fun k_ hk => .inr (Nat.le_trans HB1.out.size hk))); (case aO => exact HO1.out); (case aB => exact HB1.out); (case aS => exact HB1.out.size); (case aL => have := HL.out; simp only [List.length_nil]; omega); intro v2 w2 ho2 hb2 hg_ hnew2_; clear hg_ hnew2_; have HO2 := Aside0.mk ho2; have HB2 := Aside0.mk hb2; clear ho2 hb2))
   go_ret
   exact ⟨_, rfl, HO2.out, HB2.out⟩
 ·rw [if_neg hl] at h; cases h
-- NOT PRINTED: function 44 (ssi_Fit)
end Go.Proofs.Ytjefihcbhdennaa.S
namespace Go.Proofs.Ytjefihcbhdennaa.S
open Go.RowKit Go.Proofs.YtjefihcbhdennaaW.PrintWords Go.Proofs.YtjefihcbhdennaaW.PrintLast Go.Proofs.YtjefihcbhdennaaW.PrintMore
attribute [local go_sem] max2_int min2_int max2_str min2_str str_leq str_gtr str_geq max_two min_two max_three min_three max_four min_four   -- for this text's walks alone
set_option linter.unusedVariables false
set_option linter.unusedSimpArgs false
def ssi_Fit.l1 : Nat → Int → Int → List S26 → Option (List S26)
  | 0, _, _, _ => none
  | k + 1, n, a2, x7 => if (x7.length : Int) > n then (if 1 < (x7.length : Int) then ((ssi_Join.f k (rd_T26 x7 0).f0 (rd_T26 x7 0).f1 (rd_T26 x7 0).f2 (rd_T26 x7 0).f3 (rd_T26 x7 0).f4 (rd_T26 x7 0).f5 (rd_T26 x7 1).f0 (rd_T26 x7 1).f1 (rd_T26 x7 1).f2 (rd_T26 x7 1).f3 (rd_T26 x7 1).f4 (rd_T26 x7 1).f5 a2).bind fun bt => ssi_Fit.l1 k n a2 ((⟨bt.1, bt.2.1, bt.2.2.1, bt.2.2.2.1, bt.2.2.2.2.1, bt.2.2.2.2.2⟩ : S26) :: x7.drop 2)) else none) else api_Record_71.f x7
def ssi_Fit.l0 : Nat → Int → Int → List S26 → List S26 → Int → Option (List S26)
  | 0, _, _, _, _, _ => none
  | k + 1, n, a2, x7, l0, x17 => if x17 < (l0.length : Int) then (if 0 ≤ x17 then ((ssi_own.f (rd_T26 l0 x17).f0 (rd_T26 l0 x17).f1 (rd_T26 l0 x17).f2 (rd_T26 l0 x17).f3 (rd_T26 l0 x17).f4 (rd_T26 l0 x17).f5).bind fun bt => if x7.length < 1759218604441 then ssi_Fit.l0 k n a2 (x7 ++ [(⟨bt.1, bt.2.1, bt.2.2.1, bt.2.2.2.1, bt.2.2.2.2.1, bt.2.2.2.2.2⟩ : S26)]) l0 (wrap64 (x17 + 1)) else none) else none) else ssi_Fit.l1 k n a2 x7
def ssi_Fit.f (k : Nat) (l0 : List S26) (a1 : Int) (a2 : Int) : Option (List S26) := if l0.length ≤ 3518437208883 then ssi_Fit.l0 k (mx a1 1) a2 [] l0 0 else none
/-- The list that is made fewer: it is read as it stands; where it has two or more, it is the rest of a row of the call's own. -/
def Qn (W : World) (base : Nat) (v : Value) (xs : List S26) : Prop :=
  Kd.V k26 26 W base (fun k_ => base ≤ k_) v xs ∧ (2 ≤ xs.length → ∃ (g cap m : Nat) (ys : List S26), v = .slice (some ⟨g, m * 6, none⟩) xs.length (cap - m) ∧ m ≤ ys.length ∧ xs = ys.drop m ∧ Kd.N k26 26 W base (fun k_ => base ≤ k_) (.slice (some ⟨g, 0, none⟩) ys.length cap) ys)
theorem Qn_N {W : World} {base : Nat} {v : Value} {xs : List S26} (h : Kd.N k26 26 W base (fun k_ => base ≤ k_) v xs) : Qn W base v xs :=
  ⟨Kd.N_V h, fun h2 => by
    obtain ⟨g, cap, e, _⟩ := Kd.N_form h (by omega)
    subst e
    exact ⟨g, cap, 0, xs, by simp, Nat.zero_le _, rfl, h⟩⟩
theorem Qn_below {W W1 : World} {base : Nat} {v : Value} {xs : List S26} (h : Qn W base v xs) (hb : Below W.heap.size W W1) : Qn W1 base v xs :=
  ⟨Kd.V_below h.1 hb, fun h2 => by
    obtain ⟨g, cap, m, ys, e, h3, h4, h5⟩ := h.2 h2
    exact ⟨g, cap, m, ys, e, h3, h4, Kd.N_below h5 hb⟩⟩
theorem rd_drop (ys : List S26) (m i : Nat) : rd_T26 (ys.drop m) (i : Int) = rd_T26 ys ((m + i : Nat) : Int) := by
  unfold rd_T26
  simp only [List.getD_eq_getElem?_getD, List.getElem?_drop, Int.toNat_natCast]
theorem N_cells {W : World} {base g cap : Nat} {ys : List S26} (h : Kd.N k26 26 W base (fun k_ => base ≤ k_) (.slice (some ⟨g, 0, none⟩) ys.length cap) ys) (i : Nat) (hi : i < ys.length) :
    ∃ A4 c4 A5 c5, W.cell? ⟨g, i * 6, none⟩ = some (.int .u64 (rd_T26 ys (i : Int)).f0) ∧ W.cell? ⟨g, i * 6 + 1, none⟩ = some (.int .u64 (rd_T26 ys (i : Int)).f1) ∧ W.cell? ⟨g, i * 6 + 2, none⟩ = some (.int .u64 (rd_T26 ys (i : Int)).f2) ∧ W.cell? ⟨g, i * 6 + 3, none⟩ = some (.int .u64 (rd_T26 ys (i : Int)).f3) ∧
      W.cell? ⟨g, i * 6 + 4, none⟩ = some (.slice A4 (rd_T26 ys (i : Int)).f4.length c4) ∧ W.cell? ⟨g, i * 6 + 5, none⟩ = some (.slice A5 (rd_T26 ys (i : Int)).f5.length c5) ∧ (rd_T26 ys (i : Int)).f4.length ≤ c4 ∧ Kd.C k41 W A4 (rd_T26 ys (i : Int)).f4.length (rd_T26 ys (i : Int)).f4 ∧ (rd_T26 ys (i : Int)).f5.length ≤ c5 ∧ Kd.C k41 W A5 (rd_T26 ys (i : Int)).f5.length (rd_T26 ys (i : Int)).f5 ∧ ∀ j, W.frozen? ⟨g, i * 6 + j, none⟩ = false := by
  obtain ⟨c, hcl, hF, hcc, hfr⟩ := Kd.N_elem h z26 (i : Int) (by omega) (by omega)
  simp only [Int.toNat_natCast] at hF hcc hfr
  obtain ⟨A4, c4, A5, c5, rfl, l4, g4, l5, g5⟩ := k26_openF hF
  exact ⟨A4, c4, A5, c5, hcc 0 _ rfl, hcc 1 _ rfl, hcc 2 _ rfl, hcc 3 _ rfl, hcc 4 _ rfl, hcc 5 _ rfl, l4, Kd.F_now g4, l5, Kd.F_now g5, hfr⟩
theorem Qn_at {W : World} {base : Nat} {v : Value} {xs : List S26} (h : Qn W base v xs) (h2 : 2 ≤ xs.length) : ∃ (ad : Addr) (c : Nat), v = .slice (some ad) xs.length c ∧ xs.length ≤ c ∧ ad.add 0 = ad ∧ base ≤ ad.block ∧ ∃ A4 c4 A5 c5 B4 d4 B5 d5,
    (W.cell? ad = some (.int .u64 (rd_T26 xs 0).f0) ∧ W.cell? ⟨ad.block, ad.off + 1, none⟩ = some (.int .u64 (rd_T26 xs 0).f1) ∧ W.cell? ⟨ad.block, ad.off + 2, none⟩ = some (.int .u64 (rd_T26 xs 0).f2) ∧ W.cell? ⟨ad.block, ad.off + 3, none⟩ = some (.int .u64 (rd_T26 xs 0).f3) ∧ W.cell? ⟨ad.block, ad.off + 4, none⟩ = some (.slice A4 (rd_T26 xs 0).f4.length c4) ∧ W.cell? ⟨ad.block, ad.off + 5, none⟩ = some (.slice A5 (rd_T26 xs 0).f5.length c5) ∧
     W.cell? ⟨ad.block, ad.off + 6, none⟩ = some (.int .u64 (rd_T26 xs 1).f0) ∧ W.cell? ⟨ad.block, ad.off + 6 + 1, none⟩ = some (.int .u64 (rd_T26 xs 1).f1) ∧ W.cell? ⟨ad.block, ad.off + 6 + 2, none⟩ = some (.int .u64 (rd_T26 xs 1).f2) ∧ W.cell? ⟨ad.block, ad.off + 6 + 3, none⟩ = some (.int .u64 (rd_T26 xs 1).f3) ∧ W.cell? ⟨ad.block, ad.off + 6 + 4, none⟩ = some (.slice B4 (rd_T26 xs 1).f4.length d4) ∧ W.cell? ⟨ad.block, ad.off + 6 + 5, none⟩ = some (.slice B5 (rd_T26 xs 1).f5.length d5)) ∧
    ((rd_T26 xs 0).f4.length ≤ c4 ∧ Kd.C k41 W A4 (rd_T26 xs 0).f4.length (rd_T26 xs 0).f4 ∧ (rd_T26 xs 0).f5.length ≤ c5 ∧ Kd.C k41 W A5 (rd_T26 xs 0).f5.length (rd_T26 xs 0).f5) ∧ ((rd_T26 xs 1).f4.length ≤ d4 ∧ Kd.C k41 W B4 (rd_T26 xs 1).f4.length (rd_T26 xs 1).f4 ∧ (rd_T26 xs 1).f5.length ≤ d5 ∧ Kd.C k41 W B5 (rd_T26 xs 1).f5.length (rd_T26 xs 1).f5) ∧
    (W.frozen? ⟨ad.block, ad.off + 6, none⟩ = false ∧ W.frozen? ⟨ad.block, ad.off + 6 + 1, none⟩ = false ∧ W.frozen? ⟨ad.block, ad.off + 6 + 2, none⟩ = false ∧ W.frozen? ⟨ad.block, ad.off + 6 + 3, none⟩ = false ∧ W.frozen? ⟨ad.block, ad.off + 6 + 4, none⟩ = false ∧ W.frozen? ⟨ad.block, ad.off + 6 + 5, none⟩ = false) := by
  obtain ⟨g, cap, m, ys, e, h3, h4, h5⟩ := h.2 h2
  have hc := (Kd.N_reads' h5).2.1
  have hlen : xs.length = ys.length - m := by rw [h4, List.length_drop]
  have e0 : rd_T26 xs 0 = rd_T26 ys (m : Int) := by rw [h4]; exact rd_drop ys m 0
  have e1 : rd_T26 xs 1 = rd_T26 ys ((m + 1 : Nat) : Int) := by rw [h4]; exact rd_drop ys m 1
  obtain ⟨g', cap', e', hbg, _⟩ := Kd.N_form h5 (by omega)
  injection e' with e'1 e'2 e'3
  injection e'1 with e'1
  injection e'1 with e'1
  subst e'1
  rw [e0, e1]
  obtain ⟨A4, c4, A5, c5, a0, a1, a2, a3, a4, a5, l4, g4, l5, g5, _⟩ := N_cells h5 m (by omega)
  obtain ⟨B4, d4, B5, d5, b0, b1, b2, b3, b4, b5, m4, k4, m5, k5, bf⟩ := N_cells h5 (m + 1) (by omega)
  have o6 : (m + 1) * 6 = m * 6 + 6 := by omega
  rw [o6] at b0 b1 b2 b3 b4 b5
  refine ⟨⟨g, m * 6, none⟩, cap - m, e, by omega, by simp [Addr.add], hbg, A4, c4, A5, c5, B4, d4, B5, d5, ⟨a0, a1, a2, a3, a4, a5, b0, b1, b2, b3, b4, b5⟩, ⟨l4, g4, l5, g5⟩, ⟨m4, k4, m5, k5⟩, ?_⟩
  have f := fun j => bf j
  rw [o6] at f
  exact ⟨f 0, f 1, f 2, f 3, f 4, f 5⟩
theorem Qn_put {W : World} {base : Nat} {ad : Addr} {c : Nat} {xs : List S26} (h : Qn W base (.slice (some ad) xs.length c) xs) (h2 : 2 ≤ xs.length) (x : S26) {A4 A5 : Option Addr} {c4 c5 : Nat}
    (g4 : Kd.R k41 41 W base (fun k_ => base ≤ k_) (.slice A4 x.f4.length c4) x.f4) (g5 : Kd.R k41 41 W base (fun k_ => base ≤ k_) (.slice A5 x.f5.length c5) x.f5) :
    Qn ((((((W.setCell ⟨ad.block, ad.off + 6, none⟩ (.int .u64 x.f0)).setCell ⟨ad.block, ad.off + 6 + 1, none⟩ (.int .u64 x.f1)).setCell ⟨ad.block, ad.off + 6 + 2, none⟩ (.int .u64 x.f2)).setCell ⟨ad.block, ad.off + 6 + 3, none⟩ (.int .u64 x.f3)).setCell ⟨ad.block, ad.off + 6 + 4, none⟩ (.slice A4 x.f4.length c4)).setCell ⟨ad.block, ad.off + 6 + 5, none⟩ (.slice A5 x.f5.length c5)) base (.slice (some ⟨ad.block, ad.off + 6, none⟩) (xs.length - 1) (c - 1)) (x :: xs.drop 2) := by
  obtain ⟨g, cap, m, ys, e, h3, h4, h5⟩ := h.2 h2; obtain ⟨e1, -, e3⟩ := Value.slice.inj e
  have e1 := Option.some.inj e1
  subst e1
  have hc := (Kd.N_reads' h5).2.1
  have hlen : xs.length = ys.length - m := by rw [h4, List.length_drop]
  have r4 := Kd.R_apart' g4 (Kd.N_typed h5) (by decide)
  have r5 := Kd.R_apart' g5 (Kd.N_typed h5) (by decide)
  have hF : Kd.FK k26 W (fun k_ => base ≤ k_ ∧ some k_ ≠ (Value.slice (some ⟨g, 0, none⟩) ys.length cap).ownBlock) x [.int .u64 x.f0, .int .u64 x.f1, .int .u64 x.f2, .int .u64 x.f3, .slice A4 x.f4.length c4, .slice A5 x.f5.length c5] :=
    k26_mkF _ _ x (Kd.R_reads' r4).2.1 (Kd.R_F r4) (Kd.R_reads' r5).2.1 (Kd.R_F r5)
  obtain ⟨cl, hcl, hFe, hcc, hfr⟩ := Kd.N_elem h5 z26 ((m + 1 : Nat) : Int) (by omega) (by omega)
  have hj6 : 0 + [Value.int .u64 x.f0, .int .u64 x.f1, .int .u64 x.f2, .int .u64 x.f3, .slice A4 x.f4.length c4, .slice A5 x.f5.length c5].length ≤ k26.sz := Nat.le_refl 6
  have hM : Kd.FK k26 W (fun k_ => base ≤ k_ ∧ some k_ ≠ (Value.slice (some ⟨g, 0, none⟩) ys.length cap).ownBlock) x (List.take 0 cl ++ [.int .u64 x.f0, .int .u64 x.f1, .int .u64 x.f2, .int .u64 x.f3, .slice A4 x.f4.length c4, .slice A5 x.f5.length c5] ++ List.drop (0 + [Value.int .u64 x.f0, .int .u64 x.f1, .int .u64 x.f2, .int .u64 x.f3, .slice A4 x.f4.length c4, .slice A5 x.f5.length c5].length) cl) := by
    have e6 : List.drop (0 + [Value.int .u64 x.f0, .int .u64 x.f1, .int .u64 x.f2, .int .u64 x.f3, .slice A4 x.f4.length c4, .slice A5 x.f5.length c5].length) cl = [] := List.drop_eq_nil_of_le (by rw [hcl]; exact Nat.le_refl 6)
    rw [e6, List.take_zero, List.nil_append, List.append_nil]
    exact hF
  have hgo : some g = (Value.slice (some ⟨g, 0, none⟩) ys.length cap).ownBlock := rfl
  obtain ⟨hN, _⟩ := Kd.N_seg h5 ((m + 1 : Nat) : Int) (by omega) (by omega) (c := cl) (seg := [.int .u64 x.f0, .int .u64 x.f1, .int .u64 x.f2, .int .u64 x.f3, .slice A4 x.f4.length c4, .slice A5 x.f5.length c5]) (j := 0) (x' := x) hcl hcc hj6 hM (fun k_ hk => ⟨hk.1, fun e => hk.2 (by rw [e]; exact hgo)⟩)
  rw [show ((m + 1 : Nat) : Int).toNat = m + 1 from rfl] at hN
  have o6 : (m + 1) * k26.sz + 0 = m * 6 + 6 := by show (m + 1) * 6 + 0 = m * 6 + 6; omega
  rw [o6] at hN
  simp only [World.setCells] at hN
  have hdrop : (ys.set (m + 1) x).drop (m + 1) = x :: xs.drop 2 := by
    rw [h4, List.drop_drop, List.drop_set, if_neg (Nat.lt_irrefl _), Nat.sub_self]
    rw [List.drop_eq_getElem_cons (by omega : m + 1 < ys.length), List.set_cons_zero]
  have hl' : (ys.set (m + 1) x).length = ys.length := List.length_set
  have hN' := hN
  rw [← hl'] at hN'
  have hxl : (x :: xs.drop 2).length = xs.length - 1 := by rw [List.length_cons, List.length_drop]; omega
  refine ⟨?_, fun _ => ⟨g, cap, m + 1, ys.set (m + 1) x, ?_, by omega, hdrop.symm, hN'⟩⟩
  · have hV := Kd.F_cut (m := m + 1) (c := cap) (Kd.V_at (base := base) (Kd.N_V hN')).2.2 (by omega) (by omega)
    rw [hdrop] at hV
    rw [← hxl]
    refine Kd.V_mk (by rw [hxl]; omega) ?_
    by_cases e7 : cap = m + 1
    · omega
    · rw [if_neg e7] at hV
      have : (some (⟨g, 0, none⟩ : Addr)).map (·.add ((m + 1) * k26.sz)) = some (⟨g, m * 6 + 6, none⟩ : Addr) := by
        show some ((⟨g, 0, none⟩ : Addr).add ((m + 1) * 6)) = _
        rw [Addr.add, if_neg (by omega)]
        show some (⟨g, 0 + (m + 1) * 6, none⟩ : Addr) = _
        rw [show 0 + (m + 1) * 6 = m * 6 + 6 by omega]
      rw [this] at hV
      exact hV
  · rw [hxl, show (m + 1) * 6 = m * 6 + 6 by omega, e3, show cap - m - 1 = cap - (m + 1) by omega]
def ssi_Fit.T9 : Bool × List (List Nat × List Nat) := (true, [([], []), ([], []), ([1], [1]), ([2], [2]), ([], []), ([4], [4]), ([5], [5]), ([], []), ([3, 6, 7], [3, 6, 7]), ([0, 0, 1, 2, 3, 4, 5, 6, 7, 8], [0]), ([9, 8, 8, 0, 1, 2, 3, 4, 5, 6, 7, 8], [8, 9])])
def ssi_Fit.B9 : List Nat := [0, 0, 2, 6, 0, 16, 48, 0, 254, 511, 1023]
theorem ssi_Fit.tab9 : rtab .any (opsOf Try.f44 9) = ssi_Fit.T9 := by kernel_rfl
theorem ssi_Fit.bits9 : waitsOk ssi_Fit.T9.2 ssi_Fit.B9 = true := by kernel_rfl
set_option maxHeartbeats 8000000 in
set_option maxRecDepth 100000 in
theorem ssi_Fit.calls (k : Nat) (A0 : Option Addr) (c0 : Nat) (l0 : List S26) (a1 : Int) (a2 : Int) (r : List S26) (w : World) (hr0 : Kd.C k26 w A0 l0.length l0) (hc0 : l0.length ≤ c0) (h : ssi_Fit.f k l0 a1 a2 = some r) :
    Calls Try.prog 44 #[.slice A0 l0.length c0, .int .i64 a1, .int .i64 a2] w fun e w' => ∃ v0_ : Value, e = .returned (v0_) ∧ Kd.N k26 26 w' w.heap.size (fun k_ => (w.heap.size ≤ k_)) v0_ r ∧ Below w.heap.size w w' := by
  have hu26 := Try.underlying26
  have hm0 := hr0.2.1
  have HR0 := Aside0.mk hr0; have HC0 := Aside0.mk hc0; clear hr0 hc0
  have HB := Aside0.mk (Below.refl w.heap.size w)
  unfold ssi_Fit.f at h
  by_cases hl : l0.length ≤ 3518437208883
  · rw [if_pos hl] at h
    obtain ⟨n, hn⟩ : ∃ n : Int, mx a1 1 = n := ⟨_, rfl⟩
    rw [hn] at h
    have hn1 : 1 ≤ n := by rw [← hn]; unfold mx; split <;> omega
    have hn_ : (if a1 < 1 then 1 else a1) = n := hn
    clear hn
    have H' := Aside0.mk h
    clear h
    go_enter Try.func44, Try.ntmps44
    go_wp2_with (first | ((with_reducible refine gate_dst (N := 14) rfl ?_); refine Kd.N_makec k26 (w0 := w) w.heap.size 26 rfl rfl 22 _ _ rfl (l0.length : Int) ?mx ?my Try.underlying22 (.agg #[(.int .u64 0), (.int .u64 0), (.int .u64 0), (.int .u64 0), (.slice none 0 0), (.slice none 0 0)]) 80 info26 rfl (by decide) (by omega) z26 (ok := fun k_ => w.heap.size ≤ k_) (okp := fun _ => False) ?mz (fun _ hk => hk.elim) (Nat.le_refl _) ?m0 ?ml HB.out (Nat.le_refl _) ?_; (case mx => first | rfl | (go_simp; done) | (go_simp; rfl)); (case my => first | rfl | (go_simp; done) | (go_simp; rfl)); (case mz => exact (k26_mkF _ _ z26 (Nat.le_refl _) (Kd.F_nil k41 _ _) (Nat.le_refl _) (Kd.F_nil k41 _ _))); (case m0 => omega); (case ml => omega); intro v1 w1 ho hb hg hat; clear HB; have HB := Aside0.mk hb; have HO := Aside0.mk ho; clear ho hb hg hat))
    clear hl
    go_loopg [7, 17] k (fun kq v7 v17 w' => ∃ (x7_1 : List (S26)) (x17_1 : Int), v17 = .int .i64 x17_1 ∧ Aside0 (ssi_Fit.l0 kq n a2 x7_1 l0 x17_1 = some r) ∧ Aside0 (kq ≤ k) ∧ Aside0 (Kd.N k26 26 w' w.heap.size (fun k_ => (w.heap.size ≤ k_)) v7 x7_1) ∧ Aside0 (Below w.heap.size w w'))
    case atStart => exact ⟨[], 0, (by first | rfl | (simp; done) | (simp [*]; done)), H', ⟨Nat.le_refl _⟩, HO, HB⟩
    case round =>
      clear H' HO; obtain ⟨x7_1, x17_1, rfl, HA, HK1, HO_7, HB⟩ := hrel
      cases gk with
      | zero => exact absurd HA.out (by simp [ssi_Fit.l0])
      | succ k1 =>
        have H := HA.out
        clear HA
        simp only [ssi_Fit.l0] at H
        by_cases c3 : x17_1 < (l0.length : Int)
        · rw [if_pos c3] at H
          have c3b0 : decide (x17_1 < (l0.length : Int)) = true := decide_eq_true c3
          by_cases c4 : 0 ≤ x17_1
          · rw [if_pos c4] at H
            have c4b0 : decide (0 ≤ x17_1) = true := decide_eq_true c4
            clear c3 c4; replace H := Option.bind_eq_some_iff.mp H; obtain ⟨⟨t568, t569, t570, t571, t572, t575⟩, A70, H⟩ := H
            replace H : (if x7_1.length < 1759218604441 then (ssi_Fit.l0 k1 n a2 (x7_1 ++ [(⟨t568, t569, t570, t571, t572, t575⟩ : S26)]) l0 (wrap64 (x17_1 + 1))) else (none)) = some r := H
            have A7 := Aside0.mk A70; clear A70
            by_cases c8 : x7_1.length < 1759218604441
            · rw [if_pos c8] at H
              have LMc8 := Aside0.mk c8; clear c8
              obtain ⟨y578, hy578⟩ : ∃ y_ : List (S26), y_ = (x7_1 ++ [(⟨t568, t569, t570, t571, t572, t575⟩ : S26)]) := ⟨_, rfl⟩
              rw [← hy578] at H
              have Ny578 := Aside0.mk hy578; clear hy578; have H' := Aside0.mk H; clear H
              have p566 : 0 ≤ (x17_1 : Int) := of_decide_eq_true (by first | (with_reducible assumption) | assumption)
              have q566 : x17_1 < (l0.length : Int) := of_decide_eq_true (by first | (with_reducible assumption) | assumption)
              obtain ⟨ad566, A566_4, c566_4, A566_5, c566_5, e566, hx566_0, hx566_1, hx566_2, hx566_3, hx566_4, hx566_5, hl566_4, hi566_4, hl566_5, hi566_5⟩ := at_T26 HR0.out x17_1 p566 q566; cases e566
              replace hx566_0 := (HB.out.cell (World.block_lt_of_cell? w _ hx566_0)).trans hx566_0
              replace hx566_1 := (HB.out.cell (World.block_lt_of_cell? w _ hx566_1)).trans hx566_1
              replace hx566_2 := (HB.out.cell (World.block_lt_of_cell? w _ hx566_2)).trans hx566_2
              replace hx566_3 := (HB.out.cell (World.block_lt_of_cell? w _ hx566_3)).trans hx566_3
              replace hx566_4 := (HB.out.cell (World.block_lt_of_cell? w _ hx566_4)).trans hx566_4
              replace hx566_5 := (HB.out.cell (World.block_lt_of_cell? w _ hx566_5)).trans hx566_5
              have HR566_4 := Aside0.mk hi566_4; have HC566_4 := Aside0.mk hl566_4; clear hi566_4 hl566_4; have HR566_5 := Aside0.mk hi566_5; have HC566_5 := Aside0.mk hl566_5; clear hi566_5 hl566_5; replace p566 := eq_true p566; replace q566 := eq_true q566
              go_wp2_with (first | ((with_reducible refine gate_dst (N := 9) rfl ?_); refine box_event ?hg (N := 9) ?hd (cs := #[.int .u64 0, .int .u64 0, .int .u64 0, .int .u64 0, .slice none 0 0, .slice none 0 0]) (t := 26) ?hr ?_; (case hd => rfl); (case hg => rfl); (case hr => first | (go_simp; done) | (go_simp; rfl)); intro gb567 hg w9 hbox hb; have n0_ := Aside0.mk (Kd.N_below (Kd.N_elderB (by exact HO_7.out) gb567 (Nat.le_of_eq hg.symm)) hb); have n1_ := Aside0.mk (below_step bl_ hb); have n2_ := Aside0.mk (hbox); have n3_ := Aside0.mk ((by rw [hg]; exact (below_size bl_) : w.heap.size ≤ gb567)); have n4_ := Aside0.mk ((by rw [hg]; exact (below_size bl_) : w.heap.size ≤ gb567)); clear HO_7; clear HB; have HO_7 := n0_; have HB := n1_; have BK567 := n2_; have GW567 := n3_; have GE567 := n4_; clear n0_ n1_ n2_ n3_ n4_; clear hb hbox hg; obtain ⟨hcz10_0, hcz10_1, hcz10_2, hcz10_3, hcz10_4, hcz10_5, hfz10_0, hfz10_1, hfz10_2, hfz10_3, hfz10_4, hfz10_5⟩ := blk6_ BK567.out) | ((with_reducible refine gate_callee (f := 57) rfl ?_); refine goesL_ (some 23) rfl rfl Try.func57 (by kernel_rfl) rfl #[.agg #[.int .u64 ((rd_T26 l0 x17_1).f0), .int .u64 ((rd_T26 l0 x17_1).f1), .int .u64 ((rd_T26 l0 x17_1).f2), .int .u64 ((rd_T26 l0 x17_1).f3), .slice A566_4 ((rd_T26 l0 x17_1).f4).length c566_4, .slice A566_5 ((rd_T26 l0 x17_1).f5).length c566_5]] rfl sa_ ?_; (with_reducible refine (ssi_own.calls ((rd_T26 l0 x17_1).f0) ((rd_T26 l0 x17_1).f1) ((rd_T26 l0 x17_1).f2) ((rd_T26 l0 x17_1).f3) _ _ ((rd_T26 l0 x17_1).f4) _ _ ((rd_T26 l0 x17_1).f5) t568 t569 t570 t571 t572 t575 _ ?side1 ?side2 ?side3 ?side4 A7.out).mono ?_); (case side1 => exact Kd.C_below HR566_4.out bl_); (case side2 => exact HC566_4.out); (case side3 => exact Kd.C_below HR566_5.out bl_); (case side4 => exact HC566_5.out); rintro e w11 ⟨v573, v576, rfl, ho0, ho1, hb⟩; refine ⟨_, rfl, ?_⟩; have n0_ := Aside0.mk (Kd.N_mono (Kd.N_told (Kd.N_told (Kd.N_old (by exact (Kd.N_mono (Kd.N_far (p := ⟨gb567, 5, none⟩) (Kd.N_far (p := ⟨gb567, 4, none⟩) (Kd.N_far (p := ⟨gb567, 3, none⟩) (Kd.N_far (p := ⟨gb567, 2, none⟩) (Kd.N_far (p := ⟨gb567, 1, none⟩) (Kd.N_far (p := ⟨gb567, 0, none⟩) (Kd.N_mono HO_7.out (fun k_ hk => (⟨hk, hk.2⟩ : _ ∧ k_ ≠ gb567))) (fun _ hk => hk.2) (.int .u64 ((rd_T26 l0 x17_1).f0))) (fun _ hk => hk.2) (.int .u64 ((rd_T26 l0 x17_1).f1))) (fun _ hk => hk.2) (.int .u64 ((rd_T26 l0 x17_1).f2))) (fun _ hk => hk.2) (.int .u64 ((rd_T26 l0 x17_1).f3))) (fun _ hk => hk.2) (.slice A566_4 ((rd_T26 l0 x17_1).f4).length c566_4)) (fun _ hk => hk.2) (.slice A566_5 ((rd_T26 l0 x17_1).f5).length c566_5)) (fun _ h_ => h_.1))) hb) (Kd.R_base ho0)) (Kd.R_base ho1)) (fun _ h_ => h_.1)); have n1_ := Aside0.mk (Kd.R_lower (Kd.R_newM (M := fun k_ => (w.heap.size ≤ k_)) ho0 (below_size bl_) (fun k_ h_ => h_)) (below_size bl_)); have n2_ := Aside0.mk (Kd.R_lower (Kd.R_newM (M := fun k_ => (w.heap.size ≤ k_)) ho1 (below_size bl_) (fun k_ h_ => h_)) (below_size bl_)); have n3_ := Aside0.mk (blk_below (g := gb567) (o := .cells #[.int .u64 ((rd_T26 l0 x17_1).f0), .int .u64 ((rd_T26 l0 x17_1).f1), .int .u64 ((rd_T26 l0 x17_1).f2), .int .u64 ((rd_T26 l0 x17_1).f3), .slice A566_4 ((rd_T26 l0 x17_1).f4).length c566_4, .slice A566_5 ((rd_T26 l0 x17_1).f5).length c566_5] 26 (0, 0)) (by (with_reducible repeat (first | refine blk_drewN ?_ _ | refine blk_drew ?_ | refine blk_alloc ?_ _)); refine blk_put (cs := #[.int .u64 ((rd_T26 l0 x17_1).f0), .int .u64 ((rd_T26 l0 x17_1).f1), .int .u64 ((rd_T26 l0 x17_1).f2), .int .u64 ((rd_T26 l0 x17_1).f3), .slice A566_4 ((rd_T26 l0 x17_1).f4).length c566_4, .slice none 0 0]) ?_ 5 _ rfl; refine blk_put (cs := #[.int .u64 ((rd_T26 l0 x17_1).f0), .int .u64 ((rd_T26 l0 x17_1).f1), .int .u64 ((rd_T26 l0 x17_1).f2), .int .u64 ((rd_T26 l0 x17_1).f3), .slice none 0 0, .slice none 0 0]) ?_ 4 _ rfl; refine blk_put (cs := #[.int .u64 ((rd_T26 l0 x17_1).f0), .int .u64 ((rd_T26 l0 x17_1).f1), .int .u64 ((rd_T26 l0 x17_1).f2), .int .u64 0, .slice none 0 0, .slice none 0 0]) ?_ 3 _ rfl; refine blk_put (cs := #[.int .u64 ((rd_T26 l0 x17_1).f0), .int .u64 ((rd_T26 l0 x17_1).f1), .int .u64 0, .int .u64 0, .slice none 0 0, .slice none 0 0]) ?_ 2 _ rfl; refine blk_put (cs := #[.int .u64 ((rd_T26 l0 x17_1).f0), .int .u64 0, .int .u64 0, .int .u64 0, .slice none 0 0, .slice none 0 0]) ?_ 1 _ rfl; refine blk_put (cs := #[.int .u64 0, .int .u64 0, .int .u64 0, .int .u64 0, .slice none 0 0, .slice none 0 0]) ?_ 0 _ rfl; exact BK567.out) hb); have n4_ := Aside0.mk (below_step bl_ hb); clear HO_7; clear BK567; clear HB; have HO_7 := n0_; have HO574 := n1_; have HO577 := n2_; have BK567 := n3_; have HB := n4_; clear n0_ n1_ n2_ n3_ n4_; (try clear hb); (try clear hb2); (try clear hk); (try clear hi); (try clear ho0); (try clear ho1); obtain ⟨Ao13, co13, eo13⟩ := Kd.R_slice HO574.out; subst eo13; obtain ⟨Ao14, co14, eo14⟩ := Kd.R_slice HO577.out; subst eo14) | ((with_reducible refine gate_builtin (b := .append) (xs := #[.tmp 21, .tmp 24]) rfl ?_); at_builtin; refine Kd.N_append k26 (w0 := w) w.heap.size rfl (.tmp 21) (.tmp 24) 22 26 (.agg #[(.int .u64 0), (.int .u64 0), (.int .u64 0), (.int .u64 0), (.slice none 0 0), (.slice none 0 0)]) 80 rfl Try.underlying22 info26 rfl (by decide) (by omega) u7 x7_1 (⟨t568, t569, t570, t571, t572, t575⟩ : S26) [.int .u64 t568, .int .u64 t569, .int .u64 t570, .int .u64 t571, .slice Ao13 t572.length co13, .slice Ao14 t575.length co14] (fun k_ => (w.heap.size ≤ k_) ∧ k_ ≠ gb567) (fun k_ => ((fun k_ => (w.heap.size ≤ k_) ∧ k_ ≠ gb567)) k_ ∧ some k_ ≠ (u7 : Value).ownBlock) rfl rfl ?aP (fun _ hk => hk) ?aF ?aO ?aB ?aS ?aL ?_; (case aP => exact (k26_mkF _ _ (⟨t568, t569, t570, t571, t572, t575⟩ : S26) (Kd.R_reads' (Kd.R_mono (ok' := (fun k_ => ((fun k_ => (w.heap.size ≤ k_) ∧ k_ ≠ gb567)) k_ ∧ some k_ ≠ (u7 : Value).ownBlock)) (Kd.R_types (Kd.R_apart' (HO574.out) (Kd.N_typed HO_7.out) (by decide)) BK567.out (by decide)) (fun k_ hk => ⟨⟨hk.1.1.1, hk.2⟩, hk.1.2⟩))).2.1 (Kd.R_F (Kd.R_mono (ok' := (fun k_ => ((fun k_ => (w.heap.size ≤ k_) ∧ k_ ≠ gb567)) k_ ∧ some k_ ≠ (u7 : Value).ownBlock)) (Kd.R_types (Kd.R_apart' (HO574.out) (Kd.N_typed HO_7.out) (by decide)) BK567.out (by decide)) (fun k_ hk => ⟨⟨hk.1.1.1, hk.2⟩, hk.1.2⟩))) (Kd.R_reads' (Kd.R_mono (ok' := (fun k_ => ((fun k_ => (w.heap.size ≤ k_) ∧ k_ ≠ gb567)) k_ ∧ some k_ ≠ (u7 : Value).ownBlock)) (Kd.R_types (Kd.R_apart' (HO577.out) (Kd.N_typed HO_7.out) (by decide)) BK567.out (by decide)) (fun k_ hk => ⟨⟨hk.1.1.1, hk.2⟩, hk.1.2⟩))).2.1 (Kd.R_F (Kd.R_mono (ok' := (fun k_ => ((fun k_ => (w.heap.size ≤ k_) ∧ k_ ≠ gb567)) k_ ∧ some k_ ≠ (u7 : Value).ownBlock)) (Kd.R_types (Kd.R_apart' (HO577.out) (Kd.N_typed HO_7.out) (by decide)) BK567.out (by decide)) (fun k_ hk => ⟨⟨hk.1.1.1, hk.2⟩, hk.1.2⟩))))); (case aB => exact bl_); (case aF => exact (fun k_ hk => ⟨(Nat.le_trans (below_size bl_) hk), Kd.freshB (g := gb567) (o := .cells #[.int .u64 ((rd_T26 l0 x17_1).f0), .int .u64 ((rd_T26 l0 x17_1).f1), .int .u64 ((rd_T26 l0 x17_1).f2), .int .u64 ((rd_T26 l0 x17_1).f3), .slice A566_4 ((rd_T26 l0 x17_1).f4).length c566_4, .slice A566_5 ((rd_T26 l0 x17_1).f5).length c566_5] 26 (0, 0)) (by (with_reducible repeat (first | refine blk_drewN ?_ _ | refine blk_drew ?_ | refine blk_alloc ?_ _)); exact BK567.out) k_ hk⟩)); (case aO => exact (by exact Kd.N_mono HO_7.out (fun _ hk => ⟨hk.1.1.1, hk.1.1.2⟩))); (case aS => exact (below_size bl_)); (case aL => have := LMc8.out; omega); intro v579 w12 ho hb hg hat; rw [← Ny578.out] at ho; have n0_ := Aside0.mk (blk_grown (g := gb567) (o := .cells #[.int .u64 ((rd_T26 l0 x17_1).f0), .int .u64 ((rd_T26 l0 x17_1).f1), .int .u64 ((rd_T26 l0 x17_1).f2), .int .u64 ((rd_T26 l0 x17_1).f3), .slice A566_4 ((rd_T26 l0 x17_1).f4).length c566_4, .slice A566_5 ((rd_T26 l0 x17_1).f5).length c566_5] 26 (0, 0)) (by (with_reducible repeat (first | refine blk_drewN ?_ _ | refine blk_drew ?_ | refine blk_alloc ?_ _)); exact BK567.out) hg (Kd.N_away HO_7.out (fun _ hk => hk.1.1.2))); have n1_ := Aside0.mk (hb); have n2_ := Aside0.mk (ho); clear BK567; clear HB; clear HO_7; clear HO574; clear HO577; have BK567 := n0_; have HB := n1_; have HO580 := n2_; clear n0_ n1_ n2_; clear ho hb hg hat))
              go_roundg k1
              case measure => have := HK1.out; omega
              case rel => exact ⟨(y578), (wrap64 (x17_1 + 1)), (by first | rfl | (simp; done) | (simp [*]; done)), H', ⟨by have := HK1.out; omega⟩, ⟨by exact Kd.N_mono HO580.out (fun _ hk => hk.1)⟩, ⟨bl_⟩⟩
            · rw [if_neg c8] at H; cases H
          · rw [if_neg c4] at H; cases H
        · rw [if_neg c3] at H
          have c3b0 : decide (x17_1 < (l0.length : Int)) = false := decide_eq_false c3
          clear c3; have H' := Aside0.mk H; clear H
          go_wp2
          clear c3b0
          go_loopg [7] k1 (fun kq v7 w' => ∃ (x7_2 : List (S26)), Aside0 (ssi_Fit.l1 kq n a2 x7_2 = some r) ∧ Aside0 (kq ≤ k1) ∧ Aside0 (Qn w' w.heap.size v7 x7_2) ∧ Aside0 (Below w.heap.size w w'))
          case atStart => exact ⟨x7_1, H', ⟨Nat.le_refl _⟩, ⟨Qn_N HO_7.out⟩, HB⟩
          case round =>
            clear H' HO_7 HB; obtain ⟨x7_2, HA, HK2, HQ, HB⟩ := hrel
            cases gk with
            | zero => exact absurd HA.out (by simp [ssi_Fit.l1])
            | succ k2 =>
              have H := HA.out
              clear HA
              simp only [ssi_Fit.l1] at H
              by_cases c9 : (x7_2.length : Int) > n
              · rw [if_pos c9] at H
                have c9b0 : decide (n < (x7_2.length : Int)) = true := decide_eq_true c9
                by_cases c10 : 1 < (x7_2.length : Int)
                · rw [if_pos c10] at H
                  clear c9; replace H := Option.bind_eq_some_iff.mp H; obtain ⟨⟨t701, t702, t703, t704, t705, t708⟩, A120, H⟩ := H
                  replace H : ssi_Fit.l1 k2 n a2 ((⟨t701, t702, t703, t704, t705, t708⟩ : S26) :: x7_2.drop 2) = some r := H
                  have A12 := Aside0.mk A120; clear A120; have H' := Aside0.mk H; clear H
                  obtain ⟨ad, co, ev, hco, had0, hbase, A4, cA4, A5, cA5, B4, cB4, B5, cB5, -, -, -, -⟩ := Qn_at HQ.out (by omega)
                  subst ev
                  have q0 : (0 < x7_2.length) = True := eq_true (by omega)
                  have q1 : (1 < x7_2.length) = True := eq_true (by omega)
                  have q1i : ((1 : Int) < (x7_2.length : Int)) = True := eq_true c10
                  have H2 := Aside0.mk (show 2 ≤ x7_2.length by omega)
                  have HCO := Aside0.mk hco; have HBS := Aside0.mk hbase; have HAD := Aside0.mk had0; clear hco hbase c10 A4 cA4 A5 cA5 B4 cB4 B5 cB5 had0
                  try go_wp2
                  have n0_ := Aside0.mk (Qn_below HQ.out (below_drew (Below.refl _ _)))
                  have n1_ := Aside0.mk (below_drew1 HB.out)
                  clear HQ HB; have HQ := n0_; have HB := n1_; clear n0_ n1_
                  obtain ⟨ad', co', ev', -, -, -, A4, cA4, A5, cA5, B4, cB4, B5, cB5, hS, ⟨l04, g04, l05, g05⟩, ⟨l14, g14, l15, g15⟩, -⟩ := Qn_at HQ.out H2.out
                  injection ev' with e1_ e2_ e3_
                  injection e1_ with e1_
                  subst e1_ e3_
                  have HC04 := Aside0.mk g04; have HL04 := Aside0.mk l04; have HC05 := Aside0.mk g05; have HL05 := Aside0.mk l05; have HC14 := Aside0.mk g14; have HL14 := Aside0.mk l14; have HC15 := Aside0.mk g15; have HL15 := Aside0.mk l15; clear g04 l04 g05 l05 g14 l14 g15 l15 e2_
                  refine start_ (n := 11) (S := fun w' => w'.cell? ad = some (.int .u64 ((rd_T26 x7_2 0).f0)) ∧ w'.cell? ⟨ad.block, ad.off + 1, none⟩ = some (.int .u64 ((rd_T26 x7_2 0).f1)) ∧ w'.cell? ⟨ad.block, ad.off + 2, none⟩ = some (.int .u64 ((rd_T26 x7_2 0).f2)) ∧ w'.cell? ⟨ad.block, ad.off + 3, none⟩ = some (.int .u64 ((rd_T26 x7_2 0).f3)) ∧ w'.cell? ⟨ad.block, ad.off + 4, none⟩ = some (.slice A4 ((rd_T26 x7_2 0).f4).length cA4) ∧ w'.cell? ⟨ad.block, ad.off + 5, none⟩ = some (.slice A5 ((rd_T26 x7_2 0).f5).length cA5) ∧ w'.cell? ⟨ad.block, ad.off + 6, none⟩ = some (.int .u64 ((rd_T26 x7_2 1).f0)) ∧ w'.cell? ⟨ad.block, ad.off + 6 + 1, none⟩ = some (.int .u64 ((rd_T26 x7_2 1).f1)) ∧ w'.cell? ⟨ad.block, ad.off + 6 + 2, none⟩ = some (.int .u64 ((rd_T26 x7_2 1).f2)) ∧ w'.cell? ⟨ad.block, ad.off + 6 + 3, none⟩ = some (.int .u64 ((rd_T26 x7_2 1).f3)) ∧ w'.cell? ⟨ad.block, ad.off + 6 + 4, none⟩ = some (.slice B4 ((rd_T26 x7_2 1).f4).length cB4) ∧ w'.cell? ⟨ad.block, ad.off + 6 + 5, none⟩ = some (.slice B5 ((rd_T26 x7_2 1).f5).length cB5)) (ds := [10]) (fst_ 11 0) (by kernel_rfl) rfl rfl hS (fun hHeld => ?_); refine with_tabW ssi_Fit.tab9 ssi_Fit.bits9 (fun HT_ HW_ => ?_)
                  generalize wr.drew = w16 at HQ HB HC04 HC05 HC14 HC15 hS hHeld ⊢
                  clear hS
                  iterate 3 (refine pk_ (v := ?_) (a' := ?_) HT_.out rfl rfl (by kernel_rfl) (fun _ _ _ h => h) (Or.inl ⟨by rfl, ?_⟩) ?_ ?_; rotate_left; (· intro w'; go_simp; with_reducible rfl); rotate_left; (· simp only [Act.put, List.setIfInBounds_toArray, List.set_cons_zero, List.set_cons_succ, i64_w, i32_w]; rfl))
                  refine pure_ (i := 4) (N := some 35) (v := ?_) (a' := ?_) #[true, true, true, false, true, false, false, false, false, false, false] rfl rfl (any_of HT_.out (by kernel_rfl)) (fun _ _ _ h => h) (Or.inl ⟨by rfl, ?_⟩) ?_ ?_
                  rotate_left
                  · intro w'
                    go_simp
                    with_reducible rfl
                  rotate_left
                  · simp only [Act.put, List.setIfInBounds_toArray, List.set_cons_zero, List.set_cons_succ, i64_w, i32_w]
                    rfl
                  refine pure_ (i := 5) (N := some 36) (v := ?_) (a' := ?_) #[true, true, true, false, true, true, false, false, false, false, false] rfl rfl (any_of HT_.out (by kernel_rfl)) (fun _ _ _ h => h) (Or.inl ⟨by rfl, ?_⟩) ?_ ?_
                  rotate_left
                  · intro w'
                    go_simp
                    with_reducible rfl
                  rotate_left
                  · simp only [Act.put, List.setIfInBounds_toArray, List.set_cons_zero, List.set_cons_succ, i64_w, i32_w]
                    rfl
                  refine pure_ (i := 7) (N := some 38) (v := ?_) (a' := ?_) #[true, true, true, false, true, true, false, true, false, false, false] rfl rfl (any_of HT_.out (by kernel_rfl)) (fun _ _ _ h => h) (Or.inl ⟨by rfl, ?_⟩) ?_ ?_
                  rotate_left
                  · intro w'
                    go_simp
                    with_reducible rfl
                  rotate_left
                  · simp only [Act.put, List.setIfInBounds_toArray, List.set_cons_zero, List.set_cons_succ, i64_w, i32_w]
                    rfl
                  refine take_ (i := 3) (N := some 34) (v := ?_) (a' := ?_) #[true, true, true, true, true, true, false, true, false, false, false] rfl rfl (take_ofW HT_.out HW_.out (by kernel_rfl)) (fun _ _ _ h => h) (Or.inl ⟨by rfl, ?_⟩) hHeld ?_ ?_
                  rotate_left
                  · rintro w' ⟨s0, s1, s2, s3, s4, s5, s6, s7, s8, s9, s10, s11⟩
                    go_simp
                    with_reducible rfl
                  rotate_left
                  · simp only [Act.put, List.setIfInBounds_toArray, List.set_cons_zero, List.set_cons_succ, i64_w, i32_w]
                    rfl
                  refine take_ (i := 6) (N := some 37) (v := ?_) (a' := ?_) (fst_ 11 8) rfl rfl (take_ofW HT_.out HW_.out (by kernel_rfl)) (fun _ _ _ h => h) (Or.inl ⟨by rfl, ?_⟩) hHeld ?_ ?_
                  rotate_left
                  · rintro w' ⟨s0, s1, s2, s3, s4, s5, s6, s7, s8, s9, s10, s11⟩
                    go_simp
                    with_reducible rfl
                  rotate_left
                  · simp only [Act.put, List.setIfInBounds_toArray, List.set_cons_zero, List.set_cons_succ, i64_w, i32_w]
                    rfl
                  refine one_ (i := 8) (N := some 39) (fst_ 11 9) rfl rfl (one_of HT_.out (by kernel_rfl)) (by decide) (fun K hK => ?_)
                  refine goes_ Try.func47 (by kernel_rfl) rfl #[.agg #[.int .u64 ((rd_T26 x7_2 0).f0), .int .u64 ((rd_T26 x7_2 0).f1), .int .u64 ((rd_T26 x7_2 0).f2), .int .u64 ((rd_T26 x7_2 0).f3), .slice A4 ((rd_T26 x7_2 0).f4).length cA4, .slice A5 ((rd_T26 x7_2 0).f5).length cA5], .agg #[.int .u64 ((rd_T26 x7_2 1).f0), .int .u64 ((rd_T26 x7_2 1).f1), .int .u64 ((rd_T26 x7_2 1).f2), .int .u64 ((rd_T26 x7_2 1).f3), .slice B4 ((rd_T26 x7_2 1).f4).length cB4, .slice B5 ((rd_T26 x7_2 1).f5).length cB5], .int .i64 a2] (by rfl) rfl rfl sa_ ?_
                  with_reducible refine (ssi_Join.calls k2 ((rd_T26 x7_2 0).f0) ((rd_T26 x7_2 0).f1) ((rd_T26 x7_2 0).f2) ((rd_T26 x7_2 0).f3) _ _ ((rd_T26 x7_2 0).f4) _ _ ((rd_T26 x7_2 0).f5) ((rd_T26 x7_2 1).f0) ((rd_T26 x7_2 1).f1) ((rd_T26 x7_2 1).f2) ((rd_T26 x7_2 1).f3) _ _ ((rd_T26 x7_2 1).f4) _ _ ((rd_T26 x7_2 1).f5) a2 t701 t702 t703 t704 t705 t708 _ ?side1 ?side2 ?side3 ?side4 ?side5 ?side6 ?side7 ?side8 A12.out).mono ?_
                  (case side1 => exact HC04.out)
                  (case side2 => exact HL04.out)
                  (case side3 => exact HC05.out)
                  (case side4 => exact HL05.out)
                  (case side5 => exact HC14.out)
                  (case side6 => exact HL14.out)
                  (case side7 => exact HC15.out)
                  (case side8 => exact HL15.out)
                  rintro e w17 ⟨v706, v709, rfl, ho0, ho1, hb⟩
                  have HS0_ := (hb.cell (World.block_lt_of_cell? _ _ (hHeld.1))).trans (hHeld.1)
                  have HS1_ := (hb.cell (World.block_lt_of_cell? _ _ (hHeld.2.1))).trans (hHeld.2.1)
                  have HS2_ := (hb.cell (World.block_lt_of_cell? _ _ (hHeld.2.2.1))).trans (hHeld.2.2.1)
                  have HS3_ := (hb.cell (World.block_lt_of_cell? _ _ (hHeld.2.2.2.1))).trans (hHeld.2.2.2.1)
                  have HS4_ := (hb.cell (World.block_lt_of_cell? _ _ (hHeld.2.2.2.2.1))).trans (hHeld.2.2.2.2.1)
                  have HS5_ := (hb.cell (World.block_lt_of_cell? _ _ (hHeld.2.2.2.2.2.1))).trans (hHeld.2.2.2.2.2.1)
                  have HS6_ := (hb.cell (World.block_lt_of_cell? _ _ (hHeld.2.2.2.2.2.2.1))).trans (hHeld.2.2.2.2.2.2.1)
                  have HS7_ := (hb.cell (World.block_lt_of_cell? _ _ (hHeld.2.2.2.2.2.2.2.1))).trans (hHeld.2.2.2.2.2.2.2.1)
                  have HS8_ := (hb.cell (World.block_lt_of_cell? _ _ (hHeld.2.2.2.2.2.2.2.2.1))).trans (hHeld.2.2.2.2.2.2.2.2.1)
                  have HS9_ := (hb.cell (World.block_lt_of_cell? _ _ (hHeld.2.2.2.2.2.2.2.2.2.1))).trans (hHeld.2.2.2.2.2.2.2.2.2.1)
                  have HS10_ := (hb.cell (World.block_lt_of_cell? _ _ (hHeld.2.2.2.2.2.2.2.2.2.2.1))).trans (hHeld.2.2.2.2.2.2.2.2.2.2.1)
                  have HS11_ := (hb.cell (World.block_lt_of_cell? _ _ (hHeld.2.2.2.2.2.2.2.2.2.2.2))).trans (hHeld.2.2.2.2.2.2.2.2.2.2.2)
                  refine ⟨_, rfl, ?_⟩
                  have n0_ := Aside0.mk (Qn_below HQ.out hb)
                  have n1_ := Aside0.mk (Kd.R_mono (ok' := fun k_ => w.heap.size ≤ k_) (Kd.R_lower (Kd.R_newM (M := fun k_ => (w.heap.size ≤ k_)) ho0 (below_size HB.out) (fun k_ h_ => h_)) (below_size HB.out)) (fun _ h_ => h_.1))
                  have n2_ := Aside0.mk (Kd.R_mono (ok' := fun k_ => w.heap.size ≤ k_) (Kd.R_lower (Kd.R_newM (M := fun k_ => (w.heap.size ≤ k_)) ho1 (below_size HB.out) (fun k_ h_ => h_)) (below_size HB.out)) (fun _ h_ => h_.1))
                  have n3_ := Aside0.mk (below_step HB.out hb)
                  clear HQ HB HC04 HC05 HC14 HC15 HL04 HL05 HL14 HL15; have HQ := n0_; have HR4 := n1_; have HR5 := n2_; have HB := n3_; clear n0_ n1_ n2_ n3_ hb ho0 ho1; obtain ⟨Ao18, co18, eo18⟩ := Kd.R_slice HR4.out; subst eo18; obtain ⟨Ao19, co19, eo19⟩ := Kd.R_slice HR5.out; subst eo19
                  refine hK.out _ _ ⟨HS0_, HS1_, HS2_, HS3_, HS4_, HS5_, HS6_, HS7_, HS8_, HS9_, HS10_, HS11_⟩ (fun hHeld => ?_)
                  clear hK K; refine norm_ (a' := ?_) ?_ ?_; rotate_left
                  · show Act.put _ (some 39) _ = _
                    simp only [Act.put, List.setIfInBounds_toArray, List.set_cons_zero, List.set_cons_succ, i64_w, i32_w]
                    rfl
                  (refine pk_ (v := ?_) (a' := ?_) HT_.out rfl rfl (by kernel_rfl) (fun _ _ _ h => h) (Or.inl ⟨by rfl, ?_⟩) ?_ ?_; rotate_left; (· intro w'; go_simp; with_reducible rfl); rotate_left; (· simp only [Act.put, List.setIfInBounds_toArray, List.set_cons_zero, List.set_cons_succ, i64_w, i32_w]; rfl))
                  obtain ⟨ad', co', ev', -, -, -, A4', cA4', A5', cA5', B4', cB4', B5', cB5', -, -, -, ⟨hf0, hf1, hf2, hf3, hf4, hf5⟩⟩ := Qn_at HQ.out H2.out
                  injection ev' with e1_ e2_ e3_
                  injection e1_ with e1_
                  subst e1_ e3_
                  clear e2_ A4' cA4' A5' cA5' B4' cB4' B5' cB5'; obtain ⟨s0, s1, s2, s3, s4, s5, s6, s7, s8, s9, s10, s11⟩ := hHeld
                  refine last_ (i := 10) (N := none) (fst_ 11 11) rfl rfl (one_of HT_.out (by kernel_rfl)) (by decide) (fun K hK => ?_)
                  refine skip_ (w1 := ?_) (by rfl) rfl ?_ ?_
                  rotate_left
                  · go_simp
                    rfl
                  refine hK.out _ _ ?_
                  clear hK K
                  have HQ2 := Aside0.mk (Qn_put HQ.out H2.out (⟨t701, t702, t703, t704, t705, t708⟩ : S26) HR4.out HR5.out)
                  have HB2 := Aside0.mk (below_set (j := ad.off + 6 + 5) (v := .slice Ao19 t708.length co19) (below_set (j := ad.off + 6 + 4) (v := .slice Ao18 t705.length co18) (below_set (j := ad.off + 6 + 3) (v := .int .u64 t704) (below_set (j := ad.off + 6 + 2) (v := .int .u64 t703) (below_set (j := ad.off + 6 + 1) (v := .int .u64 t702) (below_set (j := ad.off + 6) (v := .int .u64 t701) HB.out HBS.out) HBS.out) HBS.out) HBS.out) HBS.out) HBS.out)
                  refine done_ (done_of HT_.out (by kernel_rfl)) ?_
                  clear s0 s1 s2 s3 s4 s5 s6 s7 s8 s9 s10 s11 hf0 hf1 hf2 hf3 hf4 hf5 HQ HB HR4 HR5
                  have q22 : (1 : Int) ≤ (x7_2.length : Int) := by have := H2.out; omega
                  obtain ⟨i022, hi022, _, hsz22, _⟩ := info_parts info26
                  have hcut22 := cut_from (P := Try.prog) 22 26 .i64 Try.underlying22 hi022 6 hsz22 (some ad) x7_2.length co 1 (by omega) q22
                  have hne : co ≠ (1 : Int).toNat := by have := H2.out; have := HCO.out; show co ≠ 1; omega
                  rw [if_neg hne] at hcut22
                  have eA : (some ad : Option Addr).map (fun x => x.add ((1 : Int).toNat * 6)) = some ⟨ad.block, ad.off + 6, none⟩ := by show some (ad.add 6) = _; rw [Addr.add, if_neg (by omega)]
                  rw [eA, show x7_2.length - (1 : Int).toNat = x7_2.length - 1 from rfl, show co - (1 : Int).toNat = co - 1 from rfl] at hcut22
                  clear hi022 hsz22 hne eA; replace q22 := eq_true q22
                  try go_wp2
                  go_roundg k2
                  case measure => have := HK1.out; have := HK2.out; omega
                  case rel => exact ⟨_, H', ⟨by have := HK2.out; omega⟩, HQ2, HB2⟩
                · rw [if_neg c10] at H; cases H
              · rw [if_neg c9] at H
                have c9b0 : decide (n < (x7_2.length : Int)) = false := decide_eq_false c9
                clear c9; have A13 := Aside0.mk H; clear H
                obtain ⟨⟨Av, cv, ev, hlv, hFv⟩, -⟩ := HQ.out
                subst ev
                have HV := Aside0.mk (show Kd.V k26 26 wr w.heap.size (fun k_ => w.heap.size ≤ k_) (.slice Av x7_2.length cv) x7_2 from ⟨Av, cv, rfl, hlv, hFv⟩)
                clear hlv hFv HQ
                go_wp2_with ((with_reducible refine gate_callee (f := 71) rfl ?_); refine goesL_ (some 44) rfl rfl Try.func71 (by kernel_rfl) rfl #[.slice Av x7_2.length cv] rfl (by (try simp only [List.map_toArray, List.map_cons, List.map_nil]); first | done | rfl) ?_; (with_reducible refine (api_Record_71.calls (fun k_ => w.heap.size ≤ k_) Av cv x7_2 r _ ?side1 A13.out).mono ?_); (case side1 => exact ⟨Av, cv, rfl, (Kd.V_reads' HV.out).2.1, Kd.V_F HV.out⟩); rintro e w30 ⟨v30, rfl, ho, hb⟩; refine ⟨_, rfl, ?_⟩; have HO := Aside0.mk (Kd.N_mono (ok' := fun k_ => w.heap.size ≤ k_) (Kd.N_lower ho (below_size HB.out)) (fun k_ h_ => h_.elim id (fun h_ => Nat.le_trans (below_size HB.out) h_))); have n1_ := Aside0.mk (below_step HB.out hb); clear HB HV; have HB := n1_; clear n1_ hb ho)
                go_ret
                exact ⟨_, rfl, HO.out, HB.out⟩
  · rw [if_neg hl] at h; cases h
end Go.Proofs.Ytjefihcbhdennaa.S
