/- Texts of this session, merged for the law StoreDoes: C37, TT, C33, C34, PD. No condition. -/
import Derived.Test.YteofdgonpbmdlaaZStoreDoesd
import Derived.Test.YteofdgonpbmdlaaZStoreDoesp
import Derived.Test.YteofdgonpbmdlaaZStoreDoesq
import Derived.Test.YteofdgonpbmdlaaZStoreDoesw
set_option linter.unusedVariables false
set_option linter.unusedSimpArgs false
namespace Go.Proofs.Yteofdgonpbmdlaa.C
open Go.RowKit Go.Proofs.YteofdgonpbmdlaaW.PrintWords Go.Proofs.YteofdgonpbmdlaaW.PrintLast Go.Proofs.YteofdgonpbmdlaaW.PrintMore
attribute [local go_sem] max2_int min2_int max2_str min2_str str_leq str_gtr str_geq max_two min_two max_three min_three max_four min_four
set_option linter.unusedVariables false
set_option linter.unusedSimpArgs false
def conductorlaw08_same.f (k : Nat) (a0_0 : Int) (a0_1 : Int) (l0_2 : List Int) (a0_3 : Bool) (l0_4 : List (S62)) (a1_0 : Int) (a1_1 : Int) (l1_2 : List Int) (a1_3 : Bool) (l1_4 : List (S62)) : Option (Bool) := if a0_0 = a1_0 then (if a0_1 = a1_1 then ((conductorref01_Equal.f l0_2 l1_2).bind fun t431 => (if t431 = true then (if (a0_3 == a1_3) = true then ((conductorref08_SamePairs.f k l0_4 l1_4).bind fun t432 => (some t432)) else (some false)) else (some false))) else (some false)) else (some false)
theorem conductorlaw08_same.mono : ∀ a0 a1 a2 a3 a4 a5 a6 a7 a8 a9 k, LeO (conductorlaw08_same.f k a0 a1 a2 a3 a4 a5 a6 a7 a8 a9) (conductorlaw08_same.f (k + 1) a0 a1 a2 a3 a4 a5 a6 a7 a8 a9) := by
 intro a0 a1 a2 a3 a4 a5 a6 a7 a8 a9 k
 unfold conductorlaw08_same.f
 repeat' first
   | (with_reducible exact conductorref08_SamePairs.mono _ _ _)
   | (with_reducible exact LeO.refl _)
   | (with_reducible exact LeO.none _)
   | (with_reducible refine LeO.ite ?_ ?_)
   | (with_reducible refine LeO.bind ?_ (fun _ => ?_))
   | exact conductorref08_SamePairs.mono _ _ _
   | exact LeO.none _
   | refine LeO.ite ?_ ?_
   | refine LeO.bind ?_ (fun _ => ?_)
set_option maxHeartbeats 8000000 in
set_option maxRecDepth 100000 in
theorem conductorlaw08_same.calls (k : Nat) (a0_0 : Int) (a0_1 : Int) (A0_2 : Option Addr) (c0_2 : Nat) (l0_2 : List Int) (a0_3 : Bool) (A0_4 : Option Addr) (c0_4 : Nat) (l0_4 : List (S62)) (a1_0 : Int) (a1_1 : Int) (A1_2 : Option Addr) (c1_2 : Nat) (l1_2 : List Int) (a1_3 : Bool) (A1_4 : Option Addr) (c1_4 : Nat) (l1_4 : List (S62)) (r : Bool) (w : World) (hr0_2 : Kd.C (Kd.int .u8) w A0_2 l0_2.length l0_2) (hc0_2 : l0_2.length ≤ c0_2) (hr0_4 : Kd.C k62 w A0_4 l0_4.length l0_4) (hc0_4 : l0_4.length ≤ c0_4) (hr1_2 : Kd.C (Kd.int .u8) w A1_2 l1_2.length l1_2) (hc1_2 : l1_2.length ≤ c1_2) (hr1_4 : Kd.C k62 w A1_4 l1_4.length l1_4) (hc1_4 : l1_4.length ≤ c1_4) (h : conductorlaw08_same.f k a0_0 a0_1 l0_2 a0_3 l0_4 a1_0 a1_1 l1_2 a1_3 l1_4 = some r) :
  Calls Try.prog 47 #[.agg #[.int .u64 a0_0, .int .i64 a0_1, .slice A0_2 l0_2.length c0_2, .bool a0_3, .slice A0_4 l0_4.length c0_4], .agg #[.int .u64 a1_0, .int .i64 a1_1, .slice A1_2 l1_2.length c1_2, .bool a1_3, .slice A1_4 l1_4.length c1_4]] w fun e w' => e = .returned (.bool r) ∧ Below w.heap.size w w' := by
 have hu58 := Try.underlying58
 have HR0_2 := Aside0.mk hr0_2; have HC0_2 := Aside0.mk hc0_2; clear hr0_2 hc0_2; have HR0_4 := Aside0.mk hr0_4; have HC0_4 := Aside0.mk hc0_4; clear hr0_4 hc0_4; have HR1_2 := Aside0.mk hr1_2; have HC1_2 := Aside0.mk hc1_2; clear hr1_2 hc1_2; have HR1_4 := Aside0.mk hr1_4; have HC1_4 := Aside0.mk hc1_4; clear hr1_4 hc1_4
 have HB := Aside0.mk (Below.refl w.heap.size w)
 have H : (if a0_0 = a1_0 then (if a0_1 = a1_1 then ((conductorref01_Equal.f l0_2 l1_2).bind fun t431 => (if t431 = true then (if (a0_3 == a1_3) = true then ((conductorref08_SamePairs.f k l0_4 l1_4).bind fun t432 => (some t432)) else (some false)) else (some false))) else (some false)) else (some false)) = some r := h
 clear h
 by_cases c3 : a0_0 = a1_0
 ·rw [if_pos c3] at H
  have c3b0 : (a0_0 == a1_0) = true := beq_iff_eq.mpr c3
  have c3b1 : (a0_0 != a1_0) = false := bne_eq_false_iff_eq.mpr c3
  clear c3
  by_cases c4 : a0_1 = a1_1
  ·rw [if_pos c4] at H
   have c4b0 : (a0_1 == a1_1) = true := beq_iff_eq.mpr c4
   have c4b1 : (a0_1 != a1_1) = false := bne_eq_false_iff_eq.mpr c4
   clear c4; replace H := Option.bind_eq_some_iff.mp H; obtain ⟨t431, A50, H⟩ := H
   replace H : (if t431 = true then (if (a0_3 == a1_3) = true then ((conductorref08_SamePairs.f k l0_4 l1_4).bind fun t432 => (some t432)) else (some false)) else (some false)) = some r := H
   have A5 := Aside0.mk A50; clear A50
   by_cases c6 : t431 = true
   ·subst c6
    have H1 : (if (a0_3 == a1_3) = true then ((conductorref08_SamePairs.f k l0_4 l1_4).bind fun t432 => (some t432)) else (some false)) = some r := by rw [if_pos rfl] at H; exact H
    clear H; have H := H1; clear H1
    by_cases c7 : (a0_3 == a1_3) = true
    ·rw [if_pos c7] at H
     have c7b0 : (a0_3 == a1_3) = true := c7
     (try (have c7b1 : decide (a0_3 = a1_3) = true := by simpa using c7))
     (try (have c7b2 : (a0_3 == a1_3) = true := by simpa using c7))
     clear c7; replace H := Option.bind_eq_some_iff.mp H; obtain ⟨t432, A80, H⟩ := H
     replace H : (some t432) = some r := H
     have A8 := Aside0.mk A80; clear A80; obtain rfl := Option.some.inj H
     go_enter Try.func47, Try.ntmps47
     go_wp2_with (first | ((with_reducible refine gate_dst (N := 2) rfl ?_); refine box_event ?hg (N := 2) ?hd (cs := #[.int .u64 a0_0, .int .i64 a0_1, .slice A0_2 l0_2.length c0_2, .bool a0_3, .slice A0_4 l0_4.length c0_4]) (t := 58) ?hr ?_; (case hd => rfl); (case hg => rfl); (case hr => first | (go_simp; done) | (go_simp; rfl)); intro gb429 hg w9 hbox hb; have n0_ := Aside0.mk (below_step bl_ hb); have n1_ := Aside0.mk (hbox); have n2_ := Aside0.mk (bsz_ hg : w.heap.size ≤ gb429); have n3_ := Aside0.mk (bsz_ hg : w.heap.size ≤ gb429); clear HB; have HB := n0_; have BK429 := n1_; have GW429 := n2_; have GE429 := n3_; clear n0_ n1_ n2_ n3_; clear hb hbox hg) | ((with_reducible refine gate_dst (N := 3) rfl ?_); refine box_event ?hg (N := 3) ?hd (cs := #[.int .u64 a1_0, .int .i64 a1_1, .slice A1_2 l1_2.length c1_2, .bool a1_3, .slice A1_4 l1_4.length c1_4]) (t := 58) ?hr ?_; (case hd => rfl); (case hg => rfl); (case hr => first | (go_simp; done) | (go_simp; rfl)); intro gb430 hg w10 hbox hb; have n0_ := Aside0.mk (blk_below (g := gb429) (o := .cells #[.int .u64 a0_0, .int .i64 a0_1, .slice A0_2 l0_2.length c0_2, .bool a0_3, .slice A0_4 l0_4.length c0_4] 58 (0, 0)) (by (with_reducible repeat (first | refine blk_drewN ?_ _ | refine blk_drew ?_ | refine blk_alloc ?_ _)); exact BK429.out) hb); have n1_ := Aside0.mk (below_step bl_ hb); have n2_ := Aside0.mk (hbox); have n3_ := Aside0.mk (bsz_ hg : w.heap.size ≤ gb430); have n4_ := Aside0.mk (bsz_ hg : w.heap.size ≤ gb430); have n5_ := Aside0.mk ((by rw [hg]; exact Nat.ne_of_lt (blk_lt (g := gb429) (o := .cells #[.int .u64 a0_0, .int .i64 a0_1, .slice A0_2 l0_2.length c0_2, .bool a0_3, .slice A0_4 l0_4.length c0_4] 58 (0, 0)) (by (with_reducible repeat (first | refine blk_drewN ?_ _ | refine blk_drew ?_ | refine blk_alloc ?_ _)); exact BK429.out)) : gb429 ≠ gb430)); have n6_ := Aside0.mk ((by rw [hg]; exact Nat.ne_of_gt (blk_lt (g := gb429) (o := .cells #[.int .u64 a0_0, .int .i64 a0_1, .slice A0_2 l0_2.length c0_2, .bool a0_3, .slice A0_4 l0_4.length c0_4] 58 (0, 0)) (by (with_reducible repeat (first | refine blk_drewN ?_ _ | refine blk_drew ?_ | refine blk_alloc ?_ _)); exact BK429.out)) : gb430 ≠ gb429)); clear BK429; clear HB; have BK429 := n0_; have HB := n1_; have BK430 := n2_; have GW430 := n3_; have GE430 := n4_; have NB429_430 := n5_; have NB430_429 := n6_; clear n0_ n1_ n2_ n3_ n4_ n5_ n6_; clear hb hbox hg; have hnb11 := NB429_430.out; have hnc11 := NB430_429.out; have hcz12_0 : w10.cell? ⟨gb429, 0, none⟩ = some (.int .u64 a0_0) := (blk_cell BK429.out 0).trans rfl; have hcz12_1 : w10.cell? ⟨gb429, 1, none⟩ = some (.int .i64 a0_1) := (blk_cell BK429.out 1).trans rfl; have hcz12_2 : w10.cell? ⟨gb429, 2, none⟩ = some (.slice A0_2 l0_2.length c0_2) := (blk_cell BK429.out 2).trans rfl; have hcz12_3 : w10.cell? ⟨gb429, 3, none⟩ = some (.bool a0_3) := (blk_cell BK429.out 3).trans rfl; have hcz12_4 : w10.cell? ⟨gb429, 4, none⟩ = some (.slice A0_4 l0_4.length c0_4) := (blk_cell BK429.out 4).trans rfl; have hfz12_0 := blk_frozen BK429.out 0; have hfz12_1 := blk_frozen BK429.out 1; have hfz12_2 := blk_frozen BK429.out 2; have hfz12_3 := blk_frozen BK429.out 3; have hfz12_4 := blk_frozen BK429.out 4; have hcz13_0 : w10.cell? ⟨gb430, 0, none⟩ = some (.int .u64 a1_0) := (blk_cell BK430.out 0).trans rfl; have hcz13_1 : w10.cell? ⟨gb430, 1, none⟩ = some (.int .i64 a1_1) := (blk_cell BK430.out 1).trans rfl; have hcz13_2 : w10.cell? ⟨gb430, 2, none⟩ = some (.slice A1_2 l1_2.length c1_2) := (blk_cell BK430.out 2).trans rfl; have hcz13_3 : w10.cell? ⟨gb430, 3, none⟩ = some (.bool a1_3) := (blk_cell BK430.out 3).trans rfl; have hcz13_4 : w10.cell? ⟨gb430, 4, none⟩ = some (.slice A1_4 l1_4.length c1_4) := (blk_cell BK430.out 4).trans rfl; have hfz13_0 := blk_frozen BK430.out 0; have hfz13_1 := blk_frozen BK430.out 1; have hfz13_2 := blk_frozen BK430.out 2; have hfz13_3 := blk_frozen BK430.out 3; have hfz13_4 := blk_frozen BK430.out 4) | (go_at_call 25; (with_reducible refine (conductorref01_Equal.calls _ _ l0_2 _ _ l1_2 true _ ?side1 ?side2 ?side3 ?side4 A5.out).mono ?_); (case side1 => exact (Kd.C_below HR0_2.out HB.out)); (case side2 => exact HC0_2.out); (case side3 => exact (Kd.C_below HR1_2.out HB.out)); (case side4 => exact HC1_2.out); rintro e w' ⟨rfl, ⟨nd, rfl⟩⟩) | (go_at_call 45; (with_reducible refine (conductorref08_SamePairs.calls k _ _ l0_4 _ _ l1_4 t432 _ ?side1 ?side2 ?side3 ?side4 A8.out).mono ?_); (case side1 => exact (Kd.C_below HR0_4.out bl_)); (case side2 => exact HC0_4.out); (case side3 => exact (Kd.C_below HR1_4.out bl_)); (case side4 => exact HC1_4.out); rintro e w' ⟨rfl, ⟨nd, rfl⟩⟩))
     go_ret
     exact ⟨by first | rfl | (simp [errW_none, errW_some] <;> rfl) | (simp [*, errW_none, errW_some] <;> rfl), bl_⟩
    ·rw [if_neg c7] at H
     have c7b0 : (a0_3 == a1_3) = false := by simpa using c7
     (try (have c7b1 : decide (a0_3 = a1_3) = false := by simpa using c7))
     (try (have c7b2 : (a0_3 == a1_3) = false := by simpa using c7))
     (try (have c7b3 : ¬ (a0_3 = a1_3) := by simpa using c7))
     clear c7; obtain rfl := Option.some.inj H
     go_enter Try.func47, Try.ntmps47
     go_wp2_with (first | ((with_reducible refine gate_dst (N := 2) rfl ?_); refine box_event ?hg (N := 2) ?hd (cs := #[.int .u64 a0_0, .int .i64 a0_1, .slice A0_2 l0_2.length c0_2, .bool a0_3, .slice A0_4 l0_4.length c0_4]) (t := 58) ?hr ?_; (case hd => rfl); (case hg => rfl); (case hr => first | (go_simp; done) | (go_simp; rfl)); intro gb429 hg w14 hbox hb; have n0_ := Aside0.mk (below_step bl_ hb); have n1_ := Aside0.mk (hbox); have n2_ := Aside0.mk (bsz_ hg : w.heap.size ≤ gb429); have n3_ := Aside0.mk (bsz_ hg : w.heap.size ≤ gb429); clear HB; have HB := n0_; have BK429 := n1_; have GW429 := n2_; have GE429 := n3_; clear n0_ n1_ n2_ n3_; clear hb hbox hg) | ((with_reducible refine gate_dst (N := 3) rfl ?_); refine box_event ?hg (N := 3) ?hd (cs := #[.int .u64 a1_0, .int .i64 a1_1, .slice A1_2 l1_2.length c1_2, .bool a1_3, .slice A1_4 l1_4.length c1_4]) (t := 58) ?hr ?_; (case hd => rfl); (case hg => rfl); (case hr => first | (go_simp; done) | (go_simp; rfl)); intro gb430 hg w15 hbox hb; have n0_ := Aside0.mk (blk_below (g := gb429) (o := .cells #[.int .u64 a0_0, .int .i64 a0_1, .slice A0_2 l0_2.length c0_2, .bool a0_3, .slice A0_4 l0_4.length c0_4] 58 (0, 0)) (by (with_reducible repeat (first | refine blk_drewN ?_ _ | refine blk_drew ?_ | refine blk_alloc ?_ _)); exact BK429.out) hb); have n1_ := Aside0.mk (below_step bl_ hb); have n2_ := Aside0.mk (hbox); have n3_ := Aside0.mk (bsz_ hg : w.heap.size ≤ gb430); have n4_ := Aside0.mk (bsz_ hg : w.heap.size ≤ gb430); have n5_ := Aside0.mk ((by rw [hg]; exact Nat.ne_of_lt (blk_lt (g := gb429) (o := .cells #[.int .u64 a0_0, .int .i64 a0_1, .slice A0_2 l0_2.length c0_2, .bool a0_3, .slice A0_4 l0_4.length c0_4] 58 (0, 0)) (by (with_reducible repeat (first | refine blk_drewN ?_ _ | refine blk_drew ?_ | refine blk_alloc ?_ _)); exact BK429.out)) : gb429 ≠ gb430)); have n6_ := Aside0.mk ((by rw [hg]; exact Nat.ne_of_gt (blk_lt (g := gb429) (o := .cells #[.int .u64 a0_0, .int .i64 a0_1, .slice A0_2 l0_2.length c0_2, .bool a0_3, .slice A0_4 l0_4.length c0_4] 58 (0, 0)) (by (with_reducible repeat (first | refine blk_drewN ?_ _ | refine blk_drew ?_ | refine blk_alloc ?_ _)); exact BK429.out)) : gb430 ≠ gb429)); clear BK429; clear HB; have BK429 := n0_; have HB := n1_; have BK430 := n2_; have GW430 := n3_; have GE430 := n4_; have NB429_430 := n5_; have NB430_429 := n6_; clear n0_ n1_ n2_ n3_ n4_ n5_ n6_; clear hb hbox hg; have hnb16 := NB429_430.out; have hnc16 := NB430_429.out; have hcz17_0 : w15.cell? ⟨gb429, 0, none⟩ = some (.int .u64 a0_0) := (blk_cell BK429.out 0).trans rfl; have hcz17_1 : w15.cell? ⟨gb429, 1, none⟩ = some (.int .i64 a0_1) := (blk_cell BK429.out 1).trans rfl; have hcz17_2 : w15.cell? ⟨gb429, 2, none⟩ = some (.slice A0_2 l0_2.length c0_2) := (blk_cell BK429.out 2).trans rfl; have hcz17_3 : w15.cell? ⟨gb429, 3, none⟩ = some (.bool a0_3) := (blk_cell BK429.out 3).trans rfl; have hcz17_4 : w15.cell? ⟨gb429, 4, none⟩ = some (.slice A0_4 l0_4.length c0_4) := (blk_cell BK429.out 4).trans rfl; have hfz17_0 := blk_frozen BK429.out 0; have hfz17_1 := blk_frozen BK429.out 1; have hfz17_2 := blk_frozen BK429.out 2; have hfz17_3 := blk_frozen BK429.out 3; have hfz17_4 := blk_frozen BK429.out 4; have hcz18_0 : w15.cell? ⟨gb430, 0, none⟩ = some (.int .u64 a1_0) := (blk_cell BK430.out 0).trans rfl; have hcz18_1 : w15.cell? ⟨gb430, 1, none⟩ = some (.int .i64 a1_1) := (blk_cell BK430.out 1).trans rfl; have hcz18_2 : w15.cell? ⟨gb430, 2, none⟩ = some (.slice A1_2 l1_2.length c1_2) := (blk_cell BK430.out 2).trans rfl; have hcz18_3 : w15.cell? ⟨gb430, 3, none⟩ = some (.bool a1_3) := (blk_cell BK430.out 3).trans rfl; have hcz18_4 : w15.cell? ⟨gb430, 4, none⟩ = some (.slice A1_4 l1_4.length c1_4) := (blk_cell BK430.out 4).trans rfl; have hfz18_0 := blk_frozen BK430.out 0; have hfz18_1 := blk_frozen BK430.out 1; have hfz18_2 := blk_frozen BK430.out 2; have hfz18_3 := blk_frozen BK430.out 3; have hfz18_4 := blk_frozen BK430.out 4) | (go_at_call 25; (with_reducible refine (conductorref01_Equal.calls _ _ l0_2 _ _ l1_2 true _ ?side1 ?side2 ?side3 ?side4 A5.out).mono ?_); (case side1 => exact (Kd.C_below HR0_2.out HB.out)); (case side2 => exact HC0_2.out); (case side3 => exact (Kd.C_below HR1_2.out HB.out)); (case side4 => exact HC1_2.out); rintro e w' ⟨rfl, ⟨nd, rfl⟩⟩))
     go_ret
     exact ⟨by first | rfl | (simp [errW_none, errW_some] <;> rfl) | (simp [*, errW_none, errW_some] <;> rfl), bl_⟩
   ·replace c6 := Bool.eq_false_iff.mpr c6
    subst c6
    have H1 : (some false) = some r := by rw [if_neg (show ¬ (false = true) by decide)] at H; exact H
    clear H; have H := H1; clear H1; obtain rfl := Option.some.inj H
    go_enter Try.func47, Try.ntmps47
    go_wp2_with (first | ((with_reducible refine gate_dst (N := 2) rfl ?_); refine box_event ?hg (N := 2) ?hd (cs := #[.int .u64 a0_0, .int .i64 a0_1, .slice A0_2 l0_2.length c0_2, .bool a0_3, .slice A0_4 l0_4.length c0_4]) (t := 58) ?hr ?_; (case hd => rfl); (case hg => rfl); (case hr => first | (go_simp; done) | (go_simp; rfl)); intro gb429 hg w19 hbox hb; have n0_ := Aside0.mk (below_step bl_ hb); have n1_ := Aside0.mk (hbox); have n2_ := Aside0.mk (bsz_ hg : w.heap.size ≤ gb429); have n3_ := Aside0.mk (bsz_ hg : w.heap.size ≤ gb429); clear HB; have HB := n0_; have BK429 := n1_; have GW429 := n2_; have GE429 := n3_; clear n0_ n1_ n2_ n3_; clear hb hbox hg) | ((with_reducible refine gate_dst (N := 3) rfl ?_); refine box_event ?hg (N := 3) ?hd (cs := #[.int .u64 a1_0, .int .i64 a1_1, .slice A1_2 l1_2.length c1_2, .bool a1_3, .slice A1_4 l1_4.length c1_4]) (t := 58) ?hr ?_; (case hd => rfl); (case hg => rfl); (case hr => first | (go_simp; done) | (go_simp; rfl)); intro gb430 hg w20 hbox hb; have n0_ := Aside0.mk (blk_below (g := gb429) (o := .cells #[.int .u64 a0_0, .int .i64 a0_1, .slice A0_2 l0_2.length c0_2, .bool a0_3, .slice A0_4 l0_4.length c0_4] 58 (0, 0)) (by (with_reducible repeat (first | refine blk_drewN ?_ _ | refine blk_drew ?_ | refine blk_alloc ?_ _)); exact BK429.out) hb); have n1_ := Aside0.mk (below_step bl_ hb); have n2_ := Aside0.mk (hbox); have n3_ := Aside0.mk (bsz_ hg : w.heap.size ≤ gb430); have n4_ := Aside0.mk (bsz_ hg : w.heap.size ≤ gb430); have n5_ := Aside0.mk ((by rw [hg]; exact Nat.ne_of_lt (blk_lt (g := gb429) (o := .cells #[.int .u64 a0_0, .int .i64 a0_1, .slice A0_2 l0_2.length c0_2, .bool a0_3, .slice A0_4 l0_4.length c0_4] 58 (0, 0)) (by (with_reducible repeat (first | refine blk_drewN ?_ _ | refine blk_drew ?_ | refine blk_alloc ?_ _)); exact BK429.out)) : gb429 ≠ gb430)); have n6_ := Aside0.mk ((by rw [hg]; exact Nat.ne_of_gt (blk_lt (g := gb429) (o := .cells #[.int .u64 a0_0, .int .i64 a0_1, .slice A0_2 l0_2.length c0_2, .bool a0_3, .slice A0_4 l0_4.length c0_4] 58 (0, 0)) (by (with_reducible repeat (first | refine blk_drewN ?_ _ | refine blk_drew ?_ | refine blk_alloc ?_ _)); exact BK429.out)) : gb430 ≠ gb429)); clear BK429; clear HB; have BK429 := n0_; have HB := n1_; have BK430 := n2_; have GW430 := n3_; have GE430 := n4_; have NB429_430 := n5_; have NB430_429 := n6_; clear n0_ n1_ n2_ n3_ n4_ n5_ n6_; clear hb hbox hg; have hnb21 := NB429_430.out; have hnc21 := NB430_429.out; have hcz22_0 : w20.cell? ⟨gb429, 0, none⟩ = some (.int .u64 a0_0) := (blk_cell BK429.out 0).trans rfl; have hcz22_1 : w20.cell? ⟨gb429, 1, none⟩ = some (.int .i64 a0_1) := (blk_cell BK429.out 1).trans rfl; have hcz22_2 : w20.cell? ⟨gb429, 2, none⟩ = some (.slice A0_2 l0_2.length c0_2) := (blk_cell BK429.out 2).trans rfl; have hcz22_3 : w20.cell? ⟨gb429, 3, none⟩ = some (.bool a0_3) := (blk_cell BK429.out 3).trans rfl; have hcz22_4 : w20.cell? ⟨gb429, 4, none⟩ = some (.slice A0_4 l0_4.length c0_4) := (blk_cell BK429.out 4).trans rfl; have hfz22_0 := blk_frozen BK429.out 0; have hfz22_1 := blk_frozen BK429.out 1; have hfz22_2 := blk_frozen BK429.out 2; have hfz22_3 := blk_frozen BK429.out 3; have hfz22_4 := blk_frozen BK429.out 4; have hcz23_0 : w20.cell? ⟨gb430, 0, none⟩ = some (.int .u64 a1_0) := (blk_cell BK430.out 0).trans rfl; have hcz23_1 : w20.cell? ⟨gb430, 1, none⟩ = some (.int .i64 a1_1) := (blk_cell BK430.out 1).trans rfl; have hcz23_2 : w20.cell? ⟨gb430, 2, none⟩ = some (.slice A1_2 l1_2.length c1_2) := (blk_cell BK430.out 2).trans rfl; have hcz23_3 : w20.cell? ⟨gb430, 3, none⟩ = some (.bool a1_3) := (blk_cell BK430.out 3).trans rfl; have hcz23_4 : w20.cell? ⟨gb430, 4, none⟩ = some (.slice A1_4 l1_4.length c1_4) := (blk_cell BK430.out 4).trans rfl; have hfz23_0 := blk_frozen BK430.out 0; have hfz23_1 := blk_frozen BK430.out 1; have hfz23_2 := blk_frozen BK430.out 2; have hfz23_3 := blk_frozen BK430.out 3; have hfz23_4 := blk_frozen BK430.out 4) | (go_at_call 25; (with_reducible refine (conductorref01_Equal.calls _ _ l0_2 _ _ l1_2 false _ ?side1 ?side2 ?side3 ?side4 A5.out).mono ?_); (case side1 => exact (Kd.C_below HR0_2.out HB.out)); (case side2 => exact HC0_2.out); (case side3 => exact (Kd.C_below HR1_2.out HB.out)); (case side4 => exact HC1_2.out); rintro e w' ⟨rfl, ⟨nd, rfl⟩⟩))
    go_ret
    exact ⟨by first | rfl | (simp [errW_none, errW_some] <;> rfl) | (simp [*, errW_none, errW_some] <;> rfl), bl_⟩
  ·rw [if_neg c4] at H
   have c4b0 : (a0_1 == a1_1) = false := beq_eq_false_iff_ne.mpr c4
   have c4b1 : (a0_1 != a1_1) = true := bne_iff_ne.mpr c4
   obtain rfl := Option.some.inj H
   go_enter Try.func47, Try.ntmps47
   go_wp2_with (first | ((with_reducible refine gate_dst (N := 2) rfl ?_); refine box_event ?hg (N := 2) ?hd (cs := #[.int .u64 a0_0, .int .i64 a0_1, .slice A0_2 l0_2.length c0_2, .bool a0_3, .slice A0_4 l0_4.length c0_4]) (t := 58) ?hr ?_; (case hd => rfl); (case hg => rfl); (case hr => first | (go_simp; done) | (go_simp; rfl)); intro gb429 hg w24 hbox hb; have n0_ := Aside0.mk (below_step bl_ hb); have n1_ := Aside0.mk (hbox); have n2_ := Aside0.mk (bsz_ hg : w.heap.size ≤ gb429); have n3_ := Aside0.mk (bsz_ hg : w.heap.size ≤ gb429); clear HB; have HB := n0_; have BK429 := n1_; have GW429 := n2_; have GE429 := n3_; clear n0_ n1_ n2_ n3_; clear hb hbox hg) | ((with_reducible refine gate_dst (N := 3) rfl ?_); refine box_event ?hg (N := 3) ?hd (cs := #[.int .u64 a1_0, .int .i64 a1_1, .slice A1_2 l1_2.length c1_2, .bool a1_3, .slice A1_4 l1_4.length c1_4]) (t := 58) ?hr ?_; (case hd => rfl); (case hg => rfl); (case hr => first | (go_simp; done) | (go_simp; rfl)); intro gb430 hg w25 hbox hb; have n0_ := Aside0.mk (blk_below (g := gb429) (o := .cells #[.int .u64 a0_0, .int .i64 a0_1, .slice A0_2 l0_2.length c0_2, .bool a0_3, .slice A0_4 l0_4.length c0_4] 58 (0, 0)) (by (with_reducible repeat (first | refine blk_drewN ?_ _ | refine blk_drew ?_ | refine blk_alloc ?_ _)); exact BK429.out) hb); have n1_ := Aside0.mk (below_step bl_ hb); have n2_ := Aside0.mk (hbox); have n3_ := Aside0.mk (bsz_ hg : w.heap.size ≤ gb430); have n4_ := Aside0.mk (bsz_ hg : w.heap.size ≤ gb430); have n5_ := Aside0.mk ((by rw [hg]; exact Nat.ne_of_lt (blk_lt (g := gb429) (o := .cells #[.int .u64 a0_0, .int .i64 a0_1, .slice A0_2 l0_2.length c0_2, .bool a0_3, .slice A0_4 l0_4.length c0_4] 58 (0, 0)) (by (with_reducible repeat (first | refine blk_drewN ?_ _ | refine blk_drew ?_ | refine blk_alloc ?_ _)); exact BK429.out)) : gb429 ≠ gb430)); have n6_ := Aside0.mk ((by rw [hg]; exact Nat.ne_of_gt (blk_lt (g := gb429) (o := .cells #[.int .u64 a0_0, .int .i64 a0_1, .slice A0_2 l0_2.length c0_2, .bool a0_3, .slice A0_4 l0_4.length c0_4] 58 (0, 0)) (by (with_reducible repeat (first | refine blk_drewN ?_ _ | refine blk_drew ?_ | refine blk_alloc ?_ _)); exact BK429.out)) : gb430 ≠ gb429)); clear BK429; clear HB; have BK429 := n0_; have HB := n1_; have BK430 := n2_; have GW430 := n3_; have GE430 := n4_; have NB429_430 := n5_; have NB430_429 := n6_; clear n0_ n1_ n2_ n3_ n4_ n5_ n6_; clear hb hbox hg; have hnb26 := NB429_430.out; have hnc26 := NB430_429.out; have hcz27_0 : w25.cell? ⟨gb429, 0, none⟩ = some (.int .u64 a0_0) := (blk_cell BK429.out 0).trans rfl; have hcz27_1 : w25.cell? ⟨gb429, 1, none⟩ = some (.int .i64 a0_1) := (blk_cell BK429.out 1).trans rfl; have hcz27_2 : w25.cell? ⟨gb429, 2, none⟩ = some (.slice A0_2 l0_2.length c0_2) := (blk_cell BK429.out 2).trans rfl; have hcz27_3 : w25.cell? ⟨gb429, 3, none⟩ = some (.bool a0_3) := (blk_cell BK429.out 3).trans rfl; have hcz27_4 : w25.cell? ⟨gb429, 4, none⟩ = some (.slice A0_4 l0_4.length c0_4) := (blk_cell BK429.out 4).trans rfl; have hfz27_0 := blk_frozen BK429.out 0; have hfz27_1 := blk_frozen BK429.out 1; have hfz27_2 := blk_frozen BK429.out 2; have hfz27_3 := blk_frozen BK429.out 3; have hfz27_4 := blk_frozen BK429.out 4; have hcz28_0 : w25.cell? ⟨gb430, 0, none⟩ = some (.int .u64 a1_0) := (blk_cell BK430.out 0).trans rfl; have hcz28_1 : w25.cell? ⟨gb430, 1, none⟩ = some (.int .i64 a1_1) := (blk_cell BK430.out 1).trans rfl; have hcz28_2 : w25.cell? ⟨gb430, 2, none⟩ = some (.slice A1_2 l1_2.length c1_2) := (blk_cell BK430.out 2).trans rfl; have hcz28_3 : w25.cell? ⟨gb430, 3, none⟩ = some (.bool a1_3) := (blk_cell BK430.out 3).trans rfl; have hcz28_4 : w25.cell? ⟨gb430, 4, none⟩ = some (.slice A1_4 l1_4.length c1_4) := (blk_cell BK430.out 4).trans rfl; have hfz28_0 := blk_frozen BK430.out 0; have hfz28_1 := blk_frozen BK430.out 1; have hfz28_2 := blk_frozen BK430.out 2; have hfz28_3 := blk_frozen BK430.out 3; have hfz28_4 := blk_frozen BK430.out 4))
   go_ret
   exact ⟨by first | rfl | (simp [errW_none, errW_some] <;> rfl) | (simp [*, errW_none, errW_some] <;> rfl), bl_⟩
 ·rw [if_neg c3] at H
  have c3b0 : (a0_0 == a1_0) = false := beq_eq_false_iff_ne.mpr c3
  have c3b1 : (a0_0 != a1_0) = true := bne_iff_ne.mpr c3
  obtain rfl := Option.some.inj H
  go_enter Try.func47, Try.ntmps47
  go_wp2_with (first | ((with_reducible refine gate_dst (N := 2) rfl ?_); refine box_event ?hg (N := 2) ?hd (cs := #[.int .u64 a0_0, .int .i64 a0_1, .slice A0_2 l0_2.length c0_2, .bool a0_3, .slice A0_4 l0_4.length c0_4]) (t := 58) ?hr ?_; (case hd => rfl); (case hg => rfl); (case hr => first | (go_simp; done) | (go_simp; rfl)); intro gb429 hg w29 hbox hb; have n0_ := Aside0.mk (below_step bl_ hb); have n1_ := Aside0.mk (hbox); have n2_ := Aside0.mk (bsz_ hg : w.heap.size ≤ gb429); have n3_ := Aside0.mk (bsz_ hg : w.heap.size ≤ gb429); clear HB; have HB := n0_; have BK429 := n1_; have GW429 := n2_; have GE429 := n3_; clear n0_ n1_ n2_ n3_; clear hb hbox hg) | ((with_reducible refine gate_dst (N := 3) rfl ?_); refine box_event ?hg (N := 3) ?hd (cs := #[.int .u64 a1_0, .int .i64 a1_1, .slice A1_2 l1_2.length c1_2, .bool a1_3, .slice A1_4 l1_4.length c1_4]) (t := 58) ?hr ?_; (case hd => rfl); (case hg => rfl); (case hr => first | (go_simp; done) | (go_simp; rfl)); intro gb430 hg w30 hbox hb; have n0_ := Aside0.mk (blk_below (g := gb429) (o := .cells #[.int .u64 a0_0, .int .i64 a0_1, .slice A0_2 l0_2.length c0_2, .bool a0_3, .slice A0_4 l0_4.length c0_4] 58 (0, 0)) (by (with_reducible repeat (first | refine blk_drewN ?_ _ | refine blk_drew ?_ | refine blk_alloc ?_ _)); exact BK429.out) hb); have n1_ := Aside0.mk (below_step bl_ hb); have n2_ := Aside0.mk (hbox); have n3_ := Aside0.mk (bsz_ hg : w.heap.size ≤ gb430); have n4_ := Aside0.mk (bsz_ hg : w.heap.size ≤ gb430); have n5_ := Aside0.mk ((by rw [hg]; exact Nat.ne_of_lt (blk_lt (g := gb429) (o := .cells #[.int .u64 a0_0, .int .i64 a0_1, .slice A0_2 l0_2.length c0_2, .bool a0_3, .slice A0_4 l0_4.length c0_4] 58 (0, 0)) (by (with_reducible repeat (first | refine blk_drewN ?_ _ | refine blk_drew ?_ | refine blk_alloc ?_ _)); exact BK429.out)) : gb429 ≠ gb430)); have n6_ := Aside0.mk ((by rw [hg]; exact Nat.ne_of_gt (blk_lt (g := gb429) (o := .cells #[.int .u64 a0_0, .int .i64 a0_1, .slice A0_2 l0_2.length c0_2, .bool a0_3, .slice A0_4 l0_4.length c0_4] 58 (0, 0)) (by (with_reducible repeat (first | refine blk_drewN ?_ _ | refine blk_drew ?_ | refine blk_alloc ?_ _)); exact BK429.out)) : gb430 ≠ gb429)); clear BK429; clear HB; have BK429 := n0_; have HB := n1_; have BK430 := n2_; have GW430 := n3_; have GE430 := n4_; have NB429_430 := n5_; have NB430_429 := n6_; clear n0_ n1_ n2_ n3_ n4_ n5_ n6_; clear hb hbox hg; have hnb31 := NB429_430.out; have hnc31 := NB430_429.out; have hcz32_0 : w30.cell? ⟨gb429, 0, none⟩ = some (.int .u64 a0_0) := (blk_cell BK429.out 0).trans rfl; have hcz32_1 : w30.cell? ⟨gb429, 1, none⟩ = some (.int .i64 a0_1) := (blk_cell BK429.out 1).trans rfl; have hcz32_2 : w30.cell? ⟨gb429, 2, none⟩ = some (.slice A0_2 l0_2.length c0_2) := (blk_cell BK429.out 2).trans rfl; have hcz32_3 : w30.cell? ⟨gb429, 3, none⟩ = some (.bool a0_3) := (blk_cell BK429.out 3).trans rfl; have hcz32_4 : w30.cell? ⟨gb429, 4, none⟩ = some (.slice A0_4 l0_4.length c0_4) := (blk_cell BK429.out 4).trans rfl; have hfz32_0 := blk_frozen BK429.out 0; have hfz32_1 := blk_frozen BK429.out 1; have hfz32_2 := blk_frozen BK429.out 2; have hfz32_3 := blk_frozen BK429.out 3; have hfz32_4 := blk_frozen BK429.out 4; have hcz33_0 : w30.cell? ⟨gb430, 0, none⟩ = some (.int .u64 a1_0) := (blk_cell BK430.out 0).trans rfl; have hcz33_1 : w30.cell? ⟨gb430, 1, none⟩ = some (.int .i64 a1_1) := (blk_cell BK430.out 1).trans rfl; have hcz33_2 : w30.cell? ⟨gb430, 2, none⟩ = some (.slice A1_2 l1_2.length c1_2) := (blk_cell BK430.out 2).trans rfl; have hcz33_3 : w30.cell? ⟨gb430, 3, none⟩ = some (.bool a1_3) := (blk_cell BK430.out 3).trans rfl; have hcz33_4 : w30.cell? ⟨gb430, 4, none⟩ = some (.slice A1_4 l1_4.length c1_4) := (blk_cell BK430.out 4).trans rfl; have hfz33_0 := blk_frozen BK430.out 0; have hfz33_1 := blk_frozen BK430.out 1; have hfz33_2 := blk_frozen BK430.out 2; have hfz33_3 := blk_frozen BK430.out 3; have hfz33_4 := blk_frozen BK430.out 4))
  go_ret
  exact ⟨by first | rfl | (simp [errW_none, errW_some] <;> rfl) | (simp [*, errW_none, errW_some] <;> rfl), bl_⟩
-- NOT PRINTED: function 48 (store_Store_Count)
-- NOT PRINTED: function 75 (api_Version_75)
-- NOT PRINTED: function 76 (slices_Clone_byte_byte)
-- NOT PRINTED: function 51 (store_Store_Chain)
end Go.Proofs.Yteofdgonpbmdlaa.C
namespace Go.Proofs.Yteofdgonpbmdlaa.C
open Go.RowKit Go.Maps Go.Proofs.YteofdgonpbmdlaaW.PrintWords Go.Proofs.YteofdgonpbmdlaaW.PrintLast Go.Proofs.YteofdgonpbmdlaaW.PrintMore
attribute [local go_sem] max2_int min2_int max2_str min2_str str_leq str_gtr str_geq max_two min_two max_three min_three max_four min_four
/-- What an operation tells. -/
structure OpTold where
  n : Int
  e : Int
  b : List Int
  is : Bool
  sc : List S62
def DoPost (W : World) (base : Nat) (B : Nat → Prop) (p : Nat) (kv : Value) (mb n : Nat) (R : OpTold) (s' : SS) (m : Nat) (e : Ending) (w' : World) : Prop :=
  (∃ Ab cb As cs, e = .returned (.agg #[.int .u64 R.n, .int .i64 R.e, .slice Ab R.b.length cb, .bool R.is, .slice As R.sc.length cs]) ∧ R.b.length ≤ cb ∧ R.sc.length ≤ cs ∧ Kd.F (Kd.int .u8) w' (fun k => W.heap.size ≤ k ∧ B k) Ab R.b.length R.b ∧ Kd.F k62 w' (fun k => W.heap.size ≤ k ∧ B k) As R.sc.length R.sc) ∧
  ∃ kv' n' D', StoreAt w' base B p s' kv' mb n' D' ∧ n' ≤ n + m ∧ Turn base (Own p mb kv) W w' ∧ (∀ k, kv'.ownBlock = some k → kv.ownBlock = some k ∨ W.heap.size ≤ k)
theorem StoreAt.setFar5 {W : World} {base p : Nat} {B : Nat → Prop} {s : SS} {kv : Value} {mb n : Nat} {D : DataW Value} (h : StoreAt W base B p s kv mb n D) (g : Nat) (u0 u1 u2 u3 u4 : Value) (hg : ∀ k, B k → k ≠ g) : StoreAt (((((W.setCell ⟨g, 0, none⟩ u0).setCell ⟨g, 1, none⟩ u1).setCell ⟨g, 2, none⟩ u2).setCell ⟨g, 3, none⟩ u3).setCell ⟨g, 4, none⟩ u4) base B p s kv mb n D :=
  ((((h.setFar g 0 u0 hg).setFar g 1 u1 hg).setFar g 2 u2 hg).setFar g 3 u3 hg).setFar g 4 u4 hg
theorem Turn.set5 {base : Nat} {S : Nat → Prop} {W W1 : World} (h : Turn base S W W1) (g : Nat) (u0 u1 u2 u3 u4 : Value) (hb : base ≤ g) (hg : W.heap.size ≤ g) : Turn base S W (((((W1.setCell ⟨g, 0, none⟩ u0).setCell ⟨g, 1, none⟩ u1).setCell ⟨g, 2, none⟩ u2).setCell ⟨g, 3, none⟩ u3).setCell ⟨g, 4, none⟩ u4) := by
  have st : ∀ {W2 : World} (j : Nat) (u : Value), Turn base S W W2 → Turn base S W (W2.setCell ⟨g, j, none⟩ u) := fun j u h2 => h2.then_ (Turn.set (S := fun k => k = g) ⟨g, j, none⟩ u hb rfl) (fun k hk => .inr (by rw [hk]; exact hg))
  exact st 4 u4 (st 3 u3 (st 2 u2 (st 1 u1 (st 0 u0 h))))
theorem F_set5 {α : Type} {d : Kd α} {W : World} {ok : Nat → Prop} {A : Option Addr} {n : Nat} {xs : List α} (h : Kd.F d W ok A n xs) (g : Nat) (u0 u1 u2 u3 u4 : Value) (hg : ∀ k, ok k → k ≠ g) : Kd.F d (((((W.setCell ⟨g, 0, none⟩ u0).setCell ⟨g, 1, none⟩ u1).setCell ⟨g, 2, none⟩ u2).setCell ⟨g, 3, none⟩ u3).setCell ⟨g, 4, none⟩ u4) ok A n xs :=
  Kd.F_far (p := ⟨g, 4, none⟩) (Kd.F_far (p := ⟨g, 3, none⟩) (Kd.F_far (p := ⟨g, 2, none⟩) (Kd.F_far (p := ⟨g, 1, none⟩) (Kd.F_far (p := ⟨g, 0, none⟩) h hg u0) hg u1) hg u2) hg u3) hg u4
theorem blk_put5 {W : World} {g : Nat} {t : TypeId} {a0 a1 a2 a3 a4 : Value} (h : W.heap[g]? = some (.cells #[a0, a1, a2, a3, a4] t (0, 0))) (u0 u1 u2 u3 u4 : Value) : (((((W.setCell ⟨g, 0, none⟩ u0).setCell ⟨g, 1, none⟩ u1).setCell ⟨g, 2, none⟩ u2).setCell ⟨g, 3, none⟩ u3).setCell ⟨g, 4, none⟩ u4).heap[g]? = some (.cells #[u0, u1, u2, u3, u4] t (0, 0)) :=
  blk_put (blk_put (blk_put (blk_put (blk_put h 0 u0 rfl) 1 u1 rfl) 2 u2 rfl) 3 u3 rfl) 4 u4 rfl
set_option maxRecDepth 100000 in
set_option maxHeartbeats 8000000 in
theorem does_commit {W : World} {base p : Nat} {B : Nat → Prop} {s : SS} {kv : Value} {mb n : Nat} {D : DataW Value} (h : Aside0 (StoreAt W base B p s kv mb n D)) (A : Option Addr) (c0 : Nat) (l : List S102) (low at_ : Int) (lo hi : ByteArray) (okA : Nat → Prop) (hokA : Aside0 (∀ k, okA k → k < base)) (hF : Aside0 (Kd.F k102 W okA A l.length l)) (hlc : Aside0 (l.length ≤ c0)) (ce : Int) (tf : ByteArray → List S28) (zf : ByteArray → Int) (pf : ByteArray → List S28) (ha : Aside0 (ComAsk s l low ce tf zf pf)) (hn : Aside0 (n + s.keys.length + l.length < maxLen)) (r_ : Int × Int × SS) (hr_ : Aside0 (comR s l ce tf zf pf = r_)) :
    Calls Try.prog 41 #[.pointer (some ⟨p, 0, none⟩), .agg #[.int .i64 0, .slice A l.length c0, .int .u64 low, .int .u64 at_, .string lo, .string hi]] W (DoPost W base B p kv mb n ⟨r_.1, r_.2.1, [], false, []⟩ r_.2.2 (s.keys.length + l.length)) := by
  have hbw := Aside0.mk h.out.base_le
  have hbn := Aside0.mk h.out.bn
  have hbb := Aside0.mk h.out.bb
  have hkv := Aside0.mk (fun k (hk_ : Own p mb kv k) => (h.out.own hk_).2.2)
  go_enter Try.func41, Try.ntmps41
  go_wp2_with (first
    | ((with_reducible refine gate_dst (N := 3) rfl ?_); refine box_event ?hg (N := 3) ?hd (cs := #[.int .i64 0, .slice A l.length c0, .int .u64 low, .int .u64 at_, .string lo, .string hi]) (t := 55) ?hr ?_; (case hd => rfl); (case hg => rfl); (case hr => first | (go_simp; done) | (go_simp; rfl)); intro g3 hg w1 hbox hb; have HB1 := Aside0.mk hb; have GE3 := Aside0.mk (show W.heap.size ≤ g3 by rw [hg]; exact Nat.le_refl _); have BK3 := Aside0.mk hbox; clear hbox hb hg)
    | ((with_reducible refine gate_dst (N := 4) rfl ?_); refine box_event ?hg (N := 4) ?hd (cs := #[.int .u64 0, .int .i64 0, .slice none 0 0, .bool false, .slice none 0 0]) (t := 58) ?hr ?_; (case hd => rfl); (case hg => rfl); (case hr => first | (go_simp; done) | (go_simp; rfl)); intro g4 hg w2 hbox hb; have HB2 := Aside0.mk (below_step HB1.out hb); have GE4 := Aside0.mk (show w1.heap.size ≤ g4 by rw [hg]; exact Nat.le_refl _); have BK4 := Aside0.mk hbox; have hg4 := Aside0.mk (show W.heap.size ≤ g4 from Nat.le_trans HB1.out.size GE4.out); have HS2 := Aside0.mk (show StoreAt w2 base (fun k => B k ∧ k ≠ g4) p s kv mb n D from (h.out.below HB1.out).move hb.size (fun k _ hl_ => hb.block k hl_) (fun k hk_ hl_ => ⟨hk_, by omega⟩) (fun k hk_ => hbb.out k hk_.1) (fun k hk_ => ⟨hbn.out k (Nat.le_trans HB2.out.size hk_), by have := blk_lt hbox; omega⟩)); have BK32 := Aside0.mk (blk_below BK3.out hb); have o0 := (blk_cell BK32.out 0).trans (show _ = some (Value.int .i64 0) from rfl); have o1 := (blk_cell BK32.out 1).trans (show _ = some (Value.slice A l.length c0) from rfl); have o2 := (blk_cell BK32.out 2).trans (show _ = some (Value.int .u64 low) from rfl); have o3 := (blk_cell BK32.out 3).trans (show _ = some (Value.int .u64 at_) from rfl); have o4 := (blk_cell BK32.out 4).trans (show _ = some (Value.string lo) from rfl); have o5 := (blk_cell BK32.out 5).trans (show _ = some (Value.string hi) from rfl); clear hbox hb hg)
    | (go_at_call 61; (with_reducible refine (commit_calls HS2 okA ⟨fun k hk_ => ⟨by have := hokA.out k hk_; have := HS2.out.base_le; omega, fun ho => by have := hokA.out k hk_; have := (HS2.out.own ho).1; omega⟩⟩ A c0 l ?s0 hlc low ce tf zf pf ha hn).mono ?_); (case s0 => exact ⟨Kd.F_below hF.out HB2.out⟩); rw [hr_.out]; rintro e w6 ⟨rfl, kv', n', D', hS, hn', hT, hK⟩; have HS6 := Aside0.mk hS; have HN6 := Aside0.mk hn'; have HT6 := Aside0.mk ((Turn.of_below HB2.out hbw.out (Own p mb kv)).then_ hT (fun _ hk_ => .inl hk_)); have HK6 := Aside0.mk (fun k (hk_ : kv'.ownBlock = some k) => (hK k hk_).imp id (fun q => Nat.le_trans HB2.out.size q)); have BK6 := Aside0.mk ((hT.keep g4 (blk_lt BK4.out) (fun ho => by have := hkv.out g4 ho; have := hg4.out; omega)).trans BK4.out); have z0 := (blk_cell BK6.out 0).trans (show _ = some (Value.int .u64 0) from rfl); have z1 := (blk_cell BK6.out 1).trans (show _ = some (Value.int .i64 0) from rfl); have z2 := (blk_cell BK6.out 2).trans (show _ = some (Value.slice none 0 0) from rfl); have z3 := (blk_cell BK6.out 3).trans (show _ = some (Value.bool false) from rfl); have z4 := (blk_cell BK6.out 4).trans (show _ = some (Value.slice none 0 0) from rfl); have y0 := blk_frozen BK6.out 0; have y1 := blk_frozen BK6.out 1; have y2 := blk_frozen BK6.out 2; have y3 := blk_frozen BK6.out 3; have y4 := blk_frozen BK6.out 4; clear hS hn' hT hK o0 o1 o2 o3 o4 o5)
    | ((with_reducible refine gate_store (t := 58) (p := 4) rfl ?_); refine store_event (t := 58) (p := 4) (v := ?vo1_) (w1 := ((((w6.setCell ⟨g4, 0, none⟩ (.int .u64 r_.1)).setCell ⟨g4, 1, none⟩ (.int .i64 r_.2.1)).setCell ⟨g4, 2, none⟩ (.slice none 0 0)).setCell ⟨g4, 3, none⟩ (.bool false)).setCell ⟨g4, 4, none⟩ (.slice none 0 0)) ?hg ?ho ?hn ?hr ?_; (case ho => rfl); (case hg => rfl); (case hn => rfl); (case hr => first | (go_simp; done) | (go_simp; rfl)); intro w7 hw; have HS7 := Aside0.mk (show StoreAt w7 base (fun k => B k ∧ k ≠ g4) p r_.2.2 kv' mb n' D' by rw [hw]; exact HS6.out.setFar5 g4 (.int .u64 r_.1) (.int .i64 r_.2.1) (.slice none 0 0) (.bool false) (.slice none 0 0) (fun _ hk_ => hk_.2)); have HT7 := Aside0.mk (show Turn base (Own p mb kv) W w7 by rw [hw]; exact HT6.out.set5 g4 (.int .u64 r_.1) (.int .i64 r_.2.1) (.slice none 0 0) (.bool false) (.slice none 0 0) (Nat.le_trans hbw.out hg4.out) hg4.out); have BK7 := Aside0.mk (show w7.heap[g4]? = some (.cells #[.int .u64 r_.1, .int .i64 r_.2.1, .slice none 0 0, .bool false, .slice none 0 0] 58 (0, 0)) by rw [hw]; exact blk_put5 BK6.out (.int .u64 r_.1) (.int .i64 r_.2.1) (.slice none 0 0) (.bool false) (.slice none 0 0)); clear z0 z1 z2 z3 z4 y0 y1 y2 y3 y4; have z0 := (blk_cell BK7.out 0).trans (show _ = some (Value.int .u64 r_.1) from rfl); have z1 := (blk_cell BK7.out 1).trans (show _ = some (Value.int .i64 r_.2.1) from rfl); have z2 := (blk_cell BK7.out 2).trans (show _ = some (Value.slice none 0 0) from rfl); have z3 := (blk_cell BK7.out 3).trans (show _ = some (Value.bool false) from rfl); have z4 := (blk_cell BK7.out 4).trans (show _ = some (Value.slice none 0 0) from rfl); clear hw))
  exact bodyPost_ret (v := .agg #[.int .u64 r_.1, .int .i64 r_.2.1, .slice none 0 0, .bool false, .slice none 0 0]) (by simp [results, Try.results41, go_sem, z0, z1, z2, z3, z4]) rfl ⟨⟨none, 0, none, 0, rfl, Nat.zero_le _, Nat.zero_le _, Kd.F_nil _ _ _, Kd.F_nil _ _ _⟩, kv', n', D', HS7.out.rebase (fun k hk_ _ => hk_.1) hbb.out (fun k hk_ => (HS7.out.bn k hk_).1), HN6.out, HT7.out, HK6.out⟩
set_option maxRecDepth 100000 in
set_option maxHeartbeats 8000000 in
theorem does_collect {W : World} {base p : Nat} {B : Nat → Prop} {s : SS} {kv : Value} {mb n : Nat} {D : DataW Value} (h : Aside0 (StoreAt W base B p s kv mb n D)) (A : Option Addr) (c0 : Nat) (l : List S102) (low at_ : Int) (lo hi : ByteArray) (tf : ByteArray → List S28) (zf : ByteArray → Int) (hl : Aside0 (s.keys.length ≤ 100000)) (hk : Aside0 (∀ key, key ∈ s.keys → key.size ≤ maxLen)) (hnd : Aside0 s.keys.Nodup) (ht : Aside0 (∀ key, key ∈ s.keys → ∃ k, chain_Trim.f k (s.ch key) low = some (tf key))) (hz : Aside0 (∀ key, key ∈ s.keys → ∃ k, chain_Size.f k (tf key) = some (zf key))) (hn : Aside0 (n + s.keys.length < maxLen)) :
    Calls Try.prog 41 #[.pointer (some ⟨p, 0, none⟩), .agg #[.int .i64 1, .slice A l.length c0, .int .u64 low, .int .u64 at_, .string lo, .string hi]] W (DoPost W base B p kv mb n ⟨IntKind.u64.wrap (wrap64 (s.n1 - (colN tf zf s.keys 0 0 0).2.1)), 0, [], false, []⟩ (colS s tf zf) s.keys.length) := by
  have hbw := Aside0.mk h.out.base_le
  have hbn := Aside0.mk h.out.bn
  have hbb := Aside0.mk h.out.bb
  have hkv := Aside0.mk (fun k (hk_ : Own p mb kv k) => (h.out.own hk_).2.2)
  go_enter Try.func41, Try.ntmps41
  go_wp2_with (first
    | ((with_reducible refine gate_dst (N := 3) rfl ?_); refine box_event ?hg (N := 3) ?hd (cs := #[.int .i64 1, .slice A l.length c0, .int .u64 low, .int .u64 at_, .string lo, .string hi]) (t := 55) ?hr ?_; (case hd => rfl); (case hg => rfl); (case hr => first | (go_simp; done) | (go_simp; rfl)); intro g3 hg w1 hbox hb; have HB1 := Aside0.mk hb; have GE3 := Aside0.mk (show W.heap.size ≤ g3 by rw [hg]; exact Nat.le_refl _); have BK3 := Aside0.mk hbox; clear hbox hb hg)
    | ((with_reducible refine gate_dst (N := 4) rfl ?_); refine box_event ?hg (N := 4) ?hd (cs := #[.int .u64 0, .int .i64 0, .slice none 0 0, .bool false, .slice none 0 0]) (t := 58) ?hr ?_; (case hd => rfl); (case hg => rfl); (case hr => first | (go_simp; done) | (go_simp; rfl)); intro g4 hg w2 hbox hb; have HB2 := Aside0.mk (below_step HB1.out hb); have GE4 := Aside0.mk (show w1.heap.size ≤ g4 by rw [hg]; exact Nat.le_refl _); have BK4 := Aside0.mk hbox; have hg4 := Aside0.mk (show W.heap.size ≤ g4 from Nat.le_trans HB1.out.size GE4.out); have HS2 := Aside0.mk (show StoreAt w2 base (fun k => B k ∧ k ≠ g4) p s kv mb n D from (h.out.below HB1.out).move hb.size (fun k _ hl_ => hb.block k hl_) (fun k hk_ hl_ => ⟨hk_, by omega⟩) (fun k hk_ => hbb.out k hk_.1) (fun k hk_ => ⟨hbn.out k (Nat.le_trans HB2.out.size hk_), by have := blk_lt hbox; omega⟩)); have BK32 := Aside0.mk (blk_below BK3.out hb); have o0 := (blk_cell BK32.out 0).trans (show _ = some (Value.int .i64 1) from rfl); have o1 := (blk_cell BK32.out 1).trans (show _ = some (Value.slice A l.length c0) from rfl); have o2 := (blk_cell BK32.out 2).trans (show _ = some (Value.int .u64 low) from rfl); have o3 := (blk_cell BK32.out 3).trans (show _ = some (Value.int .u64 at_) from rfl); have o4 := (blk_cell BK32.out 4).trans (show _ = some (Value.string lo) from rfl); have o5 := (blk_cell BK32.out 5).trans (show _ = some (Value.string hi) from rfl); clear hbox hb hg)
    | (go_at_call 49; (with_reducible refine (store_Collect.calls HS2 low tf zf hl hk hnd ht hz hn).mono ?_); rintro e w6 ⟨rfl, kv', n', D', hS, hn', hT, hK⟩; have HS6 := Aside0.mk hS; have HN6 := Aside0.mk hn'; have HT6 := Aside0.mk ((Turn.of_below HB2.out hbw.out (Own p mb kv)).then_ (hT.mono (S' := Own p mb kv) (fun k hk_ => hk_.elim .inl (fun e => .inr (.inl e)))) (fun _ hk_ => .inl hk_)); have HK6 := Aside0.mk (fun k (hk_ : kv'.ownBlock = some k) => (hK k hk_).imp id (fun q => Nat.le_trans HB2.out.size q)); have BK6 := Aside0.mk ((hT.keep g4 (blk_lt BK4.out) (fun ho => by have := hkv.out g4 (ho.elim .inl (fun e => .inr (.inl e))); have := hg4.out; omega)).trans BK4.out); have z0 := (blk_cell BK6.out 0).trans (show _ = some (Value.int .u64 0) from rfl); have z1 := (blk_cell BK6.out 1).trans (show _ = some (Value.int .i64 0) from rfl); have z2 := (blk_cell BK6.out 2).trans (show _ = some (Value.slice none 0 0) from rfl); have z3 := (blk_cell BK6.out 3).trans (show _ = some (Value.bool false) from rfl); have z4 := (blk_cell BK6.out 4).trans (show _ = some (Value.slice none 0 0) from rfl); have y0 := blk_frozen BK6.out 0; have y1 := blk_frozen BK6.out 1; have y2 := blk_frozen BK6.out 2; have y3 := blk_frozen BK6.out 3; have y4 := blk_frozen BK6.out 4; clear hS hn' hT hK o0 o1 o2 o3 o4 o5)
    | ((with_reducible refine gate_store (t := 58) (p := 4) rfl ?_); refine store_event (t := 58) (p := 4) (v := ?vo2_) (w1 := ((((w6.setCell ⟨g4, 0, none⟩ (.int .u64 (IntKind.u64.wrap (wrap64 (s.n1 - (colN tf zf s.keys 0 0 0).2.1))))).setCell ⟨g4, 1, none⟩ (.int .i64 0)).setCell ⟨g4, 2, none⟩ (.slice none 0 0)).setCell ⟨g4, 3, none⟩ (.bool false)).setCell ⟨g4, 4, none⟩ (.slice none 0 0)) ?hg ?ho ?hn ?hr ?_; (case ho => rfl); (case hg => rfl); (case hn => rfl); (case hr => first | (go_simp; done) | (go_simp; rfl)); intro w7 hw; have HS7 := Aside0.mk (show StoreAt w7 base (fun k => B k ∧ k ≠ g4) p (colS s tf zf) kv' mb n' D' by rw [hw]; exact HS6.out.setFar5 g4 (.int .u64 (IntKind.u64.wrap (wrap64 (s.n1 - (colN tf zf s.keys 0 0 0).2.1)))) (.int .i64 0) (.slice none 0 0) (.bool false) (.slice none 0 0) (fun _ hk_ => hk_.2)); have HT7 := Aside0.mk (show Turn base (Own p mb kv) W w7 by rw [hw]; exact HT6.out.set5 g4 (.int .u64 (IntKind.u64.wrap (wrap64 (s.n1 - (colN tf zf s.keys 0 0 0).2.1)))) (.int .i64 0) (.slice none 0 0) (.bool false) (.slice none 0 0) (Nat.le_trans hbw.out hg4.out) hg4.out); have BK7 := Aside0.mk (show w7.heap[g4]? = some (.cells #[.int .u64 (IntKind.u64.wrap (wrap64 (s.n1 - (colN tf zf s.keys 0 0 0).2.1))), .int .i64 0, .slice none 0 0, .bool false, .slice none 0 0] 58 (0, 0)) by rw [hw]; exact blk_put5 BK6.out (.int .u64 (IntKind.u64.wrap (wrap64 (s.n1 - (colN tf zf s.keys 0 0 0).2.1)))) (.int .i64 0) (.slice none 0 0) (.bool false) (.slice none 0 0)); clear z0 z1 z2 z3 z4 y0 y1 y2 y3 y4; have z0 := (blk_cell BK7.out 0).trans (show _ = some (Value.int .u64 (IntKind.u64.wrap (wrap64 (s.n1 - (colN tf zf s.keys 0 0 0).2.1)))) from rfl); have z1 := (blk_cell BK7.out 1).trans (show _ = some (Value.int .i64 0) from rfl); have z2 := (blk_cell BK7.out 2).trans (show _ = some (Value.slice none 0 0) from rfl); have z3 := (blk_cell BK7.out 3).trans (show _ = some (Value.bool false) from rfl); have z4 := (blk_cell BK7.out 4).trans (show _ = some (Value.slice none 0 0) from rfl); clear hw))
  exact bodyPost_ret (v := .agg #[.int .u64 (IntKind.u64.wrap (wrap64 (s.n1 - (colN tf zf s.keys 0 0 0).2.1))), .int .i64 0, .slice none 0 0, .bool false, .slice none 0 0]) (by simp [results, Try.results41, go_sem, z0, z1, z2, z3, z4]) rfl ⟨⟨none, 0, none, 0, rfl, Nat.zero_le _, Nat.zero_le _, Kd.F_nil _ _ _, Kd.F_nil _ _ _⟩, kv', n', D', HS7.out.rebase (fun k hk_ _ => hk_.1) hbb.out (fun k hk_ => (HS7.out.bn k hk_).1), HN6.out, HT7.out, HK6.out⟩
set_option maxRecDepth 100000 in
set_option maxHeartbeats 8000000 in
theorem does_read {W : World} {base p : Nat} {B : Nat → Prop} {s : SS} {kv : Value} {mb n : Nat} {D : DataW Value} (h : Aside0 (StoreAt W base B p s kv mb n D)) (A : Option Addr) (c0 : Nat) (l : List S102) (low at_ : Int) (lo hi : ByteArray) (hlo : Aside0 (lo.size ≤ maxLen)) (r1 : List Int) (r2 : Bool) (hg : Aside0 (chain_Get.f (s.ch lo) at_ = some (r1, r2))) (rl : Int) (hgl : Aside0 (chain_Last.f (s.ch lo) = some rl)) :
    Calls Try.prog 41 #[.pointer (some ⟨p, 0, none⟩), .agg #[.int .i64 2, .slice A l.length c0, .int .u64 low, .int .u64 at_, .string lo, .string hi]] W (DoPost W base B p kv mb n ⟨rl, 0, r1, r2, []⟩ s 0) := by
  have hbw := Aside0.mk h.out.base_le
  have hbn := Aside0.mk h.out.bn
  have hbb := Aside0.mk h.out.bb
  have hkv := Aside0.mk (fun k (hk_ : Own p mb kv k) => (h.out.own hk_).2.2)
  go_enter Try.func41, Try.ntmps41
  go_wp2_with (first
    | ((with_reducible refine gate_dst (N := 3) rfl ?_); refine box_event ?hg (N := 3) ?hd (cs := #[.int .i64 2, .slice A l.length c0, .int .u64 low, .int .u64 at_, .string lo, .string hi]) (t := 55) ?hr ?_; (case hd => rfl); (case hg => rfl); (case hr => first | (go_simp; done) | (go_simp; rfl)); intro g3 hg w1 hbox hb; have HB1 := Aside0.mk hb; have GE3 := Aside0.mk (show W.heap.size ≤ g3 by rw [hg]; exact Nat.le_refl _); have BK3 := Aside0.mk hbox; clear hbox hb hg)
    | ((with_reducible refine gate_dst (N := 4) rfl ?_); refine box_event ?hg (N := 4) ?hd (cs := #[.int .u64 0, .int .i64 0, .slice none 0 0, .bool false, .slice none 0 0]) (t := 58) ?hr ?_; (case hd => rfl); (case hg => rfl); (case hr => first | (go_simp; done) | (go_simp; rfl)); intro g4 hg w2 hbox hb; have HB2 := Aside0.mk (below_step HB1.out hb); have GE4 := Aside0.mk (show w1.heap.size ≤ g4 by rw [hg]; exact Nat.le_refl _); have BK4 := Aside0.mk hbox; have hg4 := Aside0.mk (show W.heap.size ≤ g4 from Nat.le_trans HB1.out.size GE4.out); have HS2 := Aside0.mk (show StoreAt w2 base (fun k => B k ∧ k ≠ g4) p s kv mb n D from (h.out.below HB1.out).move hb.size (fun k _ hl_ => hb.block k hl_) (fun k hk_ hl_ => ⟨hk_, by omega⟩) (fun k hk_ => hbb.out k hk_.1) (fun k hk_ => ⟨hbn.out k (Nat.le_trans HB2.out.size hk_), by have := blk_lt hbox; omega⟩)); have BK32 := Aside0.mk (blk_below BK3.out hb); have o0 := (blk_cell BK32.out 0).trans (show _ = some (Value.int .i64 2) from rfl); have o1 := (blk_cell BK32.out 1).trans (show _ = some (Value.slice A l.length c0) from rfl); have o2 := (blk_cell BK32.out 2).trans (show _ = some (Value.int .u64 low) from rfl); have o3 := (blk_cell BK32.out 3).trans (show _ = some (Value.int .u64 at_) from rfl); have o4 := (blk_cell BK32.out 4).trans (show _ = some (Value.string lo) from rfl); have o5 := (blk_cell BK32.out 5).trans (show _ = some (Value.string hi) from rfl); clear hbox hb hg)
    | (go_at_call 43; (with_reducible refine (store_Read.calls HS2 lo hlo at_ r1 r2 hg).mono ?_); rintro e w4 ⟨v, rfl, ho, hb⟩; obtain ⟨Ab, cb, eb⟩ := Kd.R_slice ho; subst eb; have HO4 := Aside0.mk (show Kd.F (Kd.int .u8) w4 (fun k => w2.heap.size ≤ k) Ab r1.length r1 from Kd.R_F (Kd.R_mono (Kd.R_bound ho) (fun k hk_ => hk_.2.1))); have HOl := Aside0.mk (Kd.R_reads' ho).2.1; have HB4 := Aside0.mk hb; have HS4 := Aside0.mk (HS2.out.below hb); have BK34 := Aside0.mk (blk_below BK32.out hb); have p3 := (blk_cell BK34.out 4).trans (show _ = some (Value.string lo) from rfl); clear ho hb o0 o1 o2 o3 o4 o5)
    | (go_at_call 62; (with_reducible refine (store_Latest.calls HS4 lo hlo rl hgl).mono ?_); rintro e w6 ⟨rfl, hb⟩; have HS6 := Aside0.mk (HS4.out.below hb); have HB6 := Aside0.mk (below_step HB4.out hb); have HO6 := Aside0.mk (Kd.F_mono (Kd.F_below HO4.out hb) (ok' := fun k => W.heap.size ≤ k ∧ (B k ∧ k ≠ g4)) (fun k hk_ => ⟨Nat.le_trans HB2.out.size hk_, HS2.out.bn k hk_⟩)); have HT6 := Aside0.mk (Turn.of_below (below_step HB2.out HB6.out) hbw.out (Own p mb kv)); have BK6 := Aside0.mk (blk_below BK4.out HB6.out); have z0 := (blk_cell BK6.out 0).trans (show _ = some (Value.int .u64 0) from rfl); have z1 := (blk_cell BK6.out 1).trans (show _ = some (Value.int .i64 0) from rfl); have z2 := (blk_cell BK6.out 2).trans (show _ = some (Value.slice none 0 0) from rfl); have z3 := (blk_cell BK6.out 3).trans (show _ = some (Value.bool false) from rfl); have z4 := (blk_cell BK6.out 4).trans (show _ = some (Value.slice none 0 0) from rfl); have y0 := blk_frozen BK6.out 0; have y1 := blk_frozen BK6.out 1; have y2 := blk_frozen BK6.out 2; have y3 := blk_frozen BK6.out 3; have y4 := blk_frozen BK6.out 4; clear hb p3)
    | ((with_reducible refine gate_store (t := 58) (p := 4) rfl ?_); refine store_event (t := 58) (p := 4) (v := ?vo3_) (w1 := ((((w6.setCell ⟨g4, 0, none⟩ (.int .u64 rl)).setCell ⟨g4, 1, none⟩ (.int .i64 0)).setCell ⟨g4, 2, none⟩ (.slice Ab r1.length cb)).setCell ⟨g4, 3, none⟩ (.bool r2)).setCell ⟨g4, 4, none⟩ (.slice none 0 0)) ?hg ?ho ?hn ?hr ?_; (case ho => rfl); (case hg => rfl); (case hn => rfl); (case hr => first | (go_simp; done) | (go_simp; rfl)); intro w7 hw; have HS7 := Aside0.mk (show StoreAt w7 base (fun k => B k ∧ k ≠ g4) p s kv mb n D by rw [hw]; exact HS6.out.setFar5 g4 (.int .u64 rl) (.int .i64 0) (.slice Ab r1.length cb) (.bool r2) (.slice none 0 0) (fun _ hk_ => hk_.2)); have HT7 := Aside0.mk (show Turn base (Own p mb kv) W w7 by rw [hw]; exact HT6.out.set5 g4 (.int .u64 rl) (.int .i64 0) (.slice Ab r1.length cb) (.bool r2) (.slice none 0 0) (Nat.le_trans hbw.out hg4.out) hg4.out); have BK7 := Aside0.mk (show w7.heap[g4]? = some (.cells #[.int .u64 rl, .int .i64 0, .slice Ab r1.length cb, .bool r2, .slice none 0 0] 58 (0, 0)) by rw [hw]; exact blk_put5 BK6.out (.int .u64 rl) (.int .i64 0) (.slice Ab r1.length cb) (.bool r2) (.slice none 0 0)); clear z0 z1 z2 z3 z4 y0 y1 y2 y3 y4; have z0 := (blk_cell BK7.out 0).trans (show _ = some (Value.int .u64 rl) from rfl); have z1 := (blk_cell BK7.out 1).trans (show _ = some (Value.int .i64 0) from rfl); have z2 := (blk_cell BK7.out 2).trans (show _ = some (Value.slice Ab r1.length cb) from rfl); have z3 := (blk_cell BK7.out 3).trans (show _ = some (Value.bool r2) from rfl); have z4 := (blk_cell BK7.out 4).trans (show _ = some (Value.slice none 0 0) from rfl); have HO7 := Aside0.mk (show Kd.F (Kd.int .u8) w7 (fun k => W.heap.size ≤ k ∧ (B k ∧ k ≠ g4)) Ab r1.length r1 by rw [hw]; exact F_set5 HO6.out g4 (.int .u64 rl) (.int .i64 0) (.slice Ab r1.length cb) (.bool r2) (.slice none 0 0) (fun _ hk_ => hk_.2.2)); clear hw))
  exact bodyPost_ret (v := .agg #[.int .u64 rl, .int .i64 0, .slice Ab r1.length cb, .bool r2, .slice none 0 0]) (by simp [results, Try.results41, go_sem, z0, z1, z2, z3, z4]) rfl ⟨⟨Ab, cb, none, 0, rfl, HOl.out, Nat.zero_le _, Kd.F_mono HO7.out (fun k hk_ => ⟨hk_.1, hk_.2.1⟩), Kd.F_nil _ _ _⟩, kv, n, D, HS7.out.rebase (fun k hk_ _ => hk_.1) hbb.out (fun k hk_ => (HS7.out.bn k hk_).1), Nat.le_refl _, HT7.out, fun k hk_ => .inl hk_⟩
set_option maxRecDepth 100000 in
set_option maxHeartbeats 8000000 in
theorem does_scan {W : World} {base p : Nat} {B : Nat → Prop} {s : SS} {kv : Value} {mb n : Nat} {D : DataW Value} (h : Aside0 (StoreAt W base B p s kv mb n D)) (A : Option Addr) (c0 : Nat) (l : List S102) (low at_ : Int) (lo hi : ByteArray) (hl : Aside0 (s.keys.length ≤ 1000000)) (hk : Aside0 (∀ key, key ∈ s.keys → key.size ≤ maxLen)) (gf : ByteArray → List Int × Bool) (hg : Aside0 (∀ key, key ∈ s.keys → chain_Get.f (s.ch key) at_ = some (gf key))) (sc : List S62) (hsc : Aside0 (scanL gf hi (s.keys.drop (srchF s.keys lo)) = sc)) :
    Calls Try.prog 41 #[.pointer (some ⟨p, 0, none⟩), .agg #[.int .i64 3, .slice A l.length c0, .int .u64 low, .int .u64 at_, .string lo, .string hi]] W (DoPost W base B p kv mb n ⟨0, 0, [], false, sc⟩ s 0) := by
  have hbw := Aside0.mk h.out.base_le
  have hbn := Aside0.mk h.out.bn
  have hbb := Aside0.mk h.out.bb
  have hkv := Aside0.mk (fun k (hk_ : Own p mb kv k) => (h.out.own hk_).2.2)
  go_enter Try.func41, Try.ntmps41
  go_wp2_with (first
    | ((with_reducible refine gate_dst (N := 3) rfl ?_); refine box_event ?hg (N := 3) ?hd (cs := #[.int .i64 3, .slice A l.length c0, .int .u64 low, .int .u64 at_, .string lo, .string hi]) (t := 55) ?hr ?_; (case hd => rfl); (case hg => rfl); (case hr => first | (go_simp; done) | (go_simp; rfl)); intro g3 hg w1 hbox hb; have HB1 := Aside0.mk hb; have GE3 := Aside0.mk (show W.heap.size ≤ g3 by rw [hg]; exact Nat.le_refl _); have BK3 := Aside0.mk hbox; clear hbox hb hg)
    | ((with_reducible refine gate_dst (N := 4) rfl ?_); refine box_event ?hg (N := 4) ?hd (cs := #[.int .u64 0, .int .i64 0, .slice none 0 0, .bool false, .slice none 0 0]) (t := 58) ?hr ?_; (case hd => rfl); (case hg => rfl); (case hr => first | (go_simp; done) | (go_simp; rfl)); intro g4 hg w2 hbox hb; have HB2 := Aside0.mk (below_step HB1.out hb); have GE4 := Aside0.mk (show w1.heap.size ≤ g4 by rw [hg]; exact Nat.le_refl _); have BK4 := Aside0.mk hbox; have hg4 := Aside0.mk (show W.heap.size ≤ g4 from Nat.le_trans HB1.out.size GE4.out); have HS2 := Aside0.mk (show StoreAt w2 base (fun k => B k ∧ k ≠ g4) p s kv mb n D from (h.out.below HB1.out).move hb.size (fun k _ hl_ => hb.block k hl_) (fun k hk_ hl_ => ⟨hk_, by omega⟩) (fun k hk_ => hbb.out k hk_.1) (fun k hk_ => ⟨hbn.out k (Nat.le_trans HB2.out.size hk_), by have := blk_lt hbox; omega⟩)); have BK32 := Aside0.mk (blk_below BK3.out hb); have o0 := (blk_cell BK32.out 0).trans (show _ = some (Value.int .i64 3) from rfl); have o1 := (blk_cell BK32.out 1).trans (show _ = some (Value.slice A l.length c0) from rfl); have o2 := (blk_cell BK32.out 2).trans (show _ = some (Value.int .u64 low) from rfl); have o3 := (blk_cell BK32.out 3).trans (show _ = some (Value.int .u64 at_) from rfl); have o4 := (blk_cell BK32.out 4).trans (show _ = some (Value.string lo) from rfl); have o5 := (blk_cell BK32.out 5).trans (show _ = some (Value.string hi) from rfl); clear hbox hb hg)
    | (go_at_call 42; (with_reducible refine (store_Scan.calls HS2 hl hk lo hi at_ gf hg).mono ?_); rw [hsc.out]; rintro e w6 ⟨v, rfl, ho, hb⟩; obtain ⟨As, cs, es⟩ := Kd.N_slice ho; subst es; have HO6 := Aside0.mk (show Kd.F k62 w6 (fun k => W.heap.size ≤ k ∧ (B k ∧ k ≠ g4)) As sc.length sc from Kd.F_mono (Kd.N_F ho) (fun k hk_ => ⟨Nat.le_trans HB2.out.size hk_, HS2.out.bn k hk_⟩)); have HOl := Aside0.mk (Kd.N_reads' ho).2.1; have HS6 := Aside0.mk (HS2.out.below hb); have HT6 := Aside0.mk (Turn.of_below (below_step HB2.out hb) hbw.out (Own p mb kv)); have BK6 := Aside0.mk (blk_below BK4.out hb); have z0 := (blk_cell BK6.out 0).trans (show _ = some (Value.int .u64 0) from rfl); have z1 := (blk_cell BK6.out 1).trans (show _ = some (Value.int .i64 0) from rfl); have z2 := (blk_cell BK6.out 2).trans (show _ = some (Value.slice none 0 0) from rfl); have z3 := (blk_cell BK6.out 3).trans (show _ = some (Value.bool false) from rfl); have z4 := (blk_cell BK6.out 4).trans (show _ = some (Value.slice none 0 0) from rfl); have y0 := blk_frozen BK6.out 0; have y1 := blk_frozen BK6.out 1; have y2 := blk_frozen BK6.out 2; have y3 := blk_frozen BK6.out 3; have y4 := blk_frozen BK6.out 4; clear ho hb o0 o1 o2 o3 o4 o5)
    | ((with_reducible refine gate_store (t := 58) (p := 4) rfl ?_); refine store_event (t := 58) (p := 4) (v := ?vo4_) (w1 := ((((w6.setCell ⟨g4, 0, none⟩ (.int .u64 0)).setCell ⟨g4, 1, none⟩ (.int .i64 0)).setCell ⟨g4, 2, none⟩ (.slice none 0 0)).setCell ⟨g4, 3, none⟩ (.bool false)).setCell ⟨g4, 4, none⟩ (.slice As sc.length cs)) ?hg ?ho ?hn ?hr ?_; (case ho => rfl); (case hg => rfl); (case hn => rfl); (case hr => first | (go_simp; done) | (go_simp; rfl)); intro w7 hw; have HS7 := Aside0.mk (show StoreAt w7 base (fun k => B k ∧ k ≠ g4) p s kv mb n D by rw [hw]; exact HS6.out.setFar5 g4 (.int .u64 0) (.int .i64 0) (.slice none 0 0) (.bool false) (.slice As sc.length cs) (fun _ hk_ => hk_.2)); have HT7 := Aside0.mk (show Turn base (Own p mb kv) W w7 by rw [hw]; exact HT6.out.set5 g4 (.int .u64 0) (.int .i64 0) (.slice none 0 0) (.bool false) (.slice As sc.length cs) (Nat.le_trans hbw.out hg4.out) hg4.out); have BK7 := Aside0.mk (show w7.heap[g4]? = some (.cells #[.int .u64 0, .int .i64 0, .slice none 0 0, .bool false, .slice As sc.length cs] 58 (0, 0)) by rw [hw]; exact blk_put5 BK6.out (.int .u64 0) (.int .i64 0) (.slice none 0 0) (.bool false) (.slice As sc.length cs)); clear z0 z1 z2 z3 z4 y0 y1 y2 y3 y4; have z0 := (blk_cell BK7.out 0).trans (show _ = some (Value.int .u64 0) from rfl); have z1 := (blk_cell BK7.out 1).trans (show _ = some (Value.int .i64 0) from rfl); have z2 := (blk_cell BK7.out 2).trans (show _ = some (Value.slice none 0 0) from rfl); have z3 := (blk_cell BK7.out 3).trans (show _ = some (Value.bool false) from rfl); have z4 := (blk_cell BK7.out 4).trans (show _ = some (Value.slice As sc.length cs) from rfl); have HO7 := Aside0.mk (show Kd.F k62 w7 (fun k => W.heap.size ≤ k ∧ (B k ∧ k ≠ g4)) As sc.length sc by rw [hw]; exact F_set5 HO6.out g4 (.int .u64 0) (.int .i64 0) (.slice none 0 0) (.bool false) (.slice As sc.length cs) (fun _ hk_ => hk_.2.2)); clear hw))
  exact bodyPost_ret (v := .agg #[.int .u64 0, .int .i64 0, .slice none 0 0, .bool false, .slice As sc.length cs]) (by simp [results, Try.results41, go_sem, z0, z1, z2, z3, z4]) rfl ⟨⟨none, 0, As, cs, rfl, Nat.zero_le _, HOl.out, Kd.F_nil _ _ _, Kd.F_mono HO7.out (fun k hk_ => ⟨hk_.1, hk_.2.1⟩)⟩, kv, n, D, HS7.out.rebase (fun k hk_ _ => hk_.1) hbb.out (fun k hk_ => (HS7.out.bn k hk_).1), Nat.le_refl _, HT7.out, fun k hk_ => .inl hk_⟩
set_option maxRecDepth 100000 in
set_option maxHeartbeats 8000000 in
theorem does_other {W : World} {base p : Nat} {B : Nat → Prop} {s : SS} {kv : Value} {mb n : Nat} {D : DataW Value} (h : Aside0 (StoreAt W base B p s kv mb n D)) (A : Option Addr) (c0 : Nat) (l : List S102) (low at_ : Int) (lo hi : ByteArray) (d : Int) (hd0 : ¬ d = 0) (hd1 : ¬ d = 1) (hd2 : ¬ d = 2) (hd3 : ¬ d = 3) :
    Calls Try.prog 41 #[.pointer (some ⟨p, 0, none⟩), .agg #[.int .i64 d, .slice A l.length c0, .int .u64 low, .int .u64 at_, .string lo, .string hi]] W (DoPost W base B p kv mb n ⟨0, 0, [], false, []⟩ s 0) := by
  have hbw := Aside0.mk h.out.base_le
  have hbn := Aside0.mk h.out.bn
  have hbb := Aside0.mk h.out.bb
  have hkv := Aside0.mk (fun k (hk_ : Own p mb kv k) => (h.out.own hk_).2.2)
  go_enter Try.func41, Try.ntmps41
  go_wp2_with (first
    | ((with_reducible refine gate_dst (N := 3) rfl ?_); refine box_event ?hg (N := 3) ?hd (cs := #[.int .i64 d, .slice A l.length c0, .int .u64 low, .int .u64 at_, .string lo, .string hi]) (t := 55) ?hr ?_; (case hd => rfl); (case hg => rfl); (case hr => first | (go_simp; done) | (go_simp; rfl)); intro g3 hg w1 hbox hb; have HB1 := Aside0.mk hb; have GE3 := Aside0.mk (show W.heap.size ≤ g3 by rw [hg]; exact Nat.le_refl _); have BK3 := Aside0.mk hbox; clear hbox hb hg)
    | ((with_reducible refine gate_dst (N := 4) rfl ?_); refine box_event ?hg (N := 4) ?hd (cs := #[.int .u64 0, .int .i64 0, .slice none 0 0, .bool false, .slice none 0 0]) (t := 58) ?hr ?_; (case hd => rfl); (case hg => rfl); (case hr => first | (go_simp; done) | (go_simp; rfl)); intro g4 hg w2 hbox hb; have HB2 := Aside0.mk (below_step HB1.out hb); have GE4 := Aside0.mk (show w1.heap.size ≤ g4 by rw [hg]; exact Nat.le_refl _); have BK4 := Aside0.mk hbox; have hg4 := Aside0.mk (show W.heap.size ≤ g4 from Nat.le_trans HB1.out.size GE4.out); have HS2 := Aside0.mk (show StoreAt w2 base (fun k => B k ∧ k ≠ g4) p s kv mb n D from (h.out.below HB1.out).move hb.size (fun k _ hl_ => hb.block k hl_) (fun k hk_ hl_ => ⟨hk_, by omega⟩) (fun k hk_ => hbb.out k hk_.1) (fun k hk_ => ⟨hbn.out k (Nat.le_trans HB2.out.size hk_), by have := blk_lt hbox; omega⟩)); have BK32 := Aside0.mk (blk_below BK3.out hb); have z0 := (blk_cell BK4.out 0).trans (show _ = some (Value.int .u64 0) from rfl); have z1 := (blk_cell BK4.out 1).trans (show _ = some (Value.int .i64 0) from rfl); have z2 := (blk_cell BK4.out 2).trans (show _ = some (Value.slice none 0 0) from rfl); have z3 := (blk_cell BK4.out 3).trans (show _ = some (Value.bool false) from rfl); have z4 := (blk_cell BK4.out 4).trans (show _ = some (Value.slice none 0 0) from rfl); have y0 := blk_frozen BK4.out 0; have y1 := blk_frozen BK4.out 1; have y2 := blk_frozen BK4.out 2; have y3 := blk_frozen BK4.out 3; have y4 := blk_frozen BK4.out 4; have o0 := (blk_cell BK32.out 0).trans (show _ = some (Value.int .i64 d) from rfl); have o1 := (blk_cell BK32.out 1).trans (show _ = some (Value.slice A l.length c0) from rfl); have o2 := (blk_cell BK32.out 2).trans (show _ = some (Value.int .u64 low) from rfl); have o3 := (blk_cell BK32.out 3).trans (show _ = some (Value.int .u64 at_) from rfl); have o4 := (blk_cell BK32.out 4).trans (show _ = some (Value.string lo) from rfl); have o5 := (blk_cell BK32.out 5).trans (show _ = some (Value.string hi) from rfl); clear hbox hb hg)
    | ((with_reducible refine gate_store (t := 58) (p := 4) rfl ?_); refine store_event (t := 58) (p := 4) (v := ?vo5_) (w1 := ((((w2.setCell ⟨g4, 0, none⟩ (.int .u64 0)).setCell ⟨g4, 1, none⟩ (.int .i64 0)).setCell ⟨g4, 2, none⟩ (.slice none 0 0)).setCell ⟨g4, 3, none⟩ (.bool false)).setCell ⟨g4, 4, none⟩ (.slice none 0 0)) ?hg ?ho ?hn ?hr ?_; (case ho => rfl); (case hg => rfl); (case hn => rfl); (case hr => first | (go_simp; done) | (go_simp; rfl)); intro w7 hw; have HS7 := Aside0.mk (show StoreAt w7 base (fun k => B k ∧ k ≠ g4) p s kv mb n D by rw [hw]; exact HS2.out.setFar5 g4 (.int .u64 0) (.int .i64 0) (.slice none 0 0) (.bool false) (.slice none 0 0) (fun _ hk_ => hk_.2)); have HT7 := Aside0.mk (show Turn base (Own p mb kv) W w7 by rw [hw]; exact (Turn.of_below HB2.out hbw.out (Own p mb kv)).set5 g4 (.int .u64 0) (.int .i64 0) (.slice none 0 0) (.bool false) (.slice none 0 0) (Nat.le_trans hbw.out hg4.out) hg4.out); have BK7 := Aside0.mk (show w7.heap[g4]? = some (.cells #[.int .u64 0, .int .i64 0, .slice none 0 0, .bool false, .slice none 0 0] 58 (0, 0)) by rw [hw]; exact blk_put5 BK4.out (.int .u64 0) (.int .i64 0) (.slice none 0 0) (.bool false) (.slice none 0 0)); clear z0 z1 z2 z3 z4 y0 y1 y2 y3 y4; have z0 := (blk_cell BK7.out 0).trans (show _ = some (Value.int .u64 0) from rfl); have z1 := (blk_cell BK7.out 1).trans (show _ = some (Value.int .i64 0) from rfl); have z2 := (blk_cell BK7.out 2).trans (show _ = some (Value.slice none 0 0) from rfl); have z3 := (blk_cell BK7.out 3).trans (show _ = some (Value.bool false) from rfl); have z4 := (blk_cell BK7.out 4).trans (show _ = some (Value.slice none 0 0) from rfl); clear hw))
  exact bodyPost_ret (v := .agg #[.int .u64 0, .int .i64 0, .slice none 0 0, .bool false, .slice none 0 0]) (by simp [results, Try.results41, go_sem, z0, z1, z2, z3, z4]) rfl ⟨⟨none, 0, none, 0, rfl, Nat.zero_le _, Nat.zero_le _, Kd.F_nil _ _ _, Kd.F_nil _ _ _⟩, kv, n, D, HS7.out.rebase (fun k hk_ _ => hk_.1) hbb.out (fun k hk_ => (HS7.out.bn k hk_).1), Nat.le_refl _, HT7.out, fun k hk_ => .inl hk_⟩
end Go.Proofs.Yteofdgonpbmdlaa.C
namespace Go.Proofs.Yteofdgonpbmdlaa.C
open Go.RowKit Go.Proofs.YteofdgonpbmdlaaW.PrintWords Go.Proofs.YteofdgonpbmdlaaW.PrintLast Go.Proofs.YteofdgonpbmdlaaW.PrintMore
attribute [local go_sem] max2_int min2_int max2_str min2_str str_leq str_gtr str_geq max_two min_two max_three min_three max_four min_four
set_option linter.unusedVariables false
set_option linter.unusedSimpArgs false
def conductorlaw08_writes.l0 : Nat → List (S102) → List (S102) → Int → Int → Option (Bool)
 | 0, _, _, _, _ => none
 | k + 1, x0, x5, x6, x7 => if x7 < x6 then (if 0 ≤ x7 then (if x7 < (x5.length : Int) then (if (((rd_T102 x5 x7).f0).size : Int) > 300 then (some false) else (if (((rd_T102 x5 x7).f2).length : Int) > 5000 then (some false) else (conductorlaw08_writes.l0 k x0 x5 x6 (wrap64 (x7 + 1))))) else (none)) else (none)) else (some (decide ((x0.length : Int) ≤ 20)))
def conductorlaw08_writes.f (k : Nat) (l0 : List (S102)) : Option (Bool) := conductorlaw08_writes.l0 k l0 l0 (l0.length : Int) 0
theorem conductorlaw08_writes.mono_l : ∀ k, (∀ y0 y1 y2 y3, LeO (conductorlaw08_writes.l0 k y0 y1 y2 y3) (conductorlaw08_writes.l0 (k + 1) y0 y1 y2 y3))
 | 0 => fun _ _ _ _ r h => by simp [conductorlaw08_writes.l0] at h
 | k + 1 => by
  have ih0 := conductorlaw08_writes.mono_l k
  ·intro y0 y1 y2 y3
   unfold conductorlaw08_writes.l0
   repeat' first
   | (with_reducible exact ih0 _ _ _ _)
   | (with_reducible exact LeO.refl _)
   | (with_reducible exact LeO.none _)
   | (with_reducible refine LeO.ite ?_ ?_)
   | (with_reducible refine LeO.bind ?_ (fun _ => ?_))
   | exact ih0 _ _ _ _
   | exact LeO.none _
   | refine LeO.ite ?_ ?_
   | refine LeO.bind ?_ (fun _ => ?_)
theorem conductorlaw08_writes.mono : ∀ a0 k, LeO (conductorlaw08_writes.f k a0) (conductorlaw08_writes.f (k + 1) a0) := by
 intro a0 k
 have ih0 := conductorlaw08_writes.mono_l k
 unfold conductorlaw08_writes.f
 repeat' first
   | (with_reducible exact ih0 _ _ _ _)
   | (with_reducible exact LeO.refl _)
   | (with_reducible exact LeO.none _)
   | (with_reducible refine LeO.ite ?_ ?_)
   | (with_reducible refine LeO.bind ?_ (fun _ => ?_))
   | exact ih0 _ _ _ _
   | exact LeO.none _
   | refine LeO.ite ?_ ?_
   | refine LeO.bind ?_ (fun _ => ?_)
set_option maxHeartbeats 8000000 in
set_option maxRecDepth 100000 in
theorem conductorlaw08_writes.calls (k : Nat) (A0 : Option Addr) (c0 : Nat) (l0 : List (S102)) (r : Bool) (w : World) (hr0 : Kd.C k102 w A0 l0.length l0) (hc0 : l0.length ≤ c0) (h : conductorlaw08_writes.f k l0 = some r) :
  Calls Try.prog 69 #[.slice A0 l0.length c0] w fun e w' => e = .returned (.bool r) ∧ Below w.heap.size w w' := by
 have hu102 := Try.underlying102
 have HR0 := Aside0.mk hr0; have HC0 := Aside0.mk hc0; clear hr0 hc0
 have HB := Aside0.mk (Below.refl w.heap.size w)
 have H : (conductorlaw08_writes.l0 k l0 l0 (l0.length : Int) 0) = some r := h
 clear h; have H' := Aside0.mk H; clear H
 go_enter Try.func69, Try.ntmps69
 go_wp2
 go_loopg [7] k (fun kq v7 w' => ∃ (x7_1 : Int), v7 = .int .i64 x7_1 ∧ Aside0 (conductorlaw08_writes.l0 kq l0 l0 (l0.length : Int) x7_1 = some r) ∧ Aside0 (kq ≤ k) ∧ Aside0 (Below w.heap.size w w'))
 case atStart => exact ⟨(0), (by first | rfl | (simp; done) | (simp [*]; done)), H', ⟨Nat.le_refl _⟩, ⟨bl_⟩⟩
 case round =>
  clear H'; obtain ⟨x7_1, rfl, HA, HK1, HB⟩ := hrel
  cases gk with
  | zero => exact absurd HA.out (by simp [conductorlaw08_writes.l0])
  | succ k1 =>
   have H := HA.out
   clear HA
   simp only [conductorlaw08_writes.l0] at H
   by_cases c2 : x7_1 < (l0.length : Int)
   ·rw [if_pos c2] at H
    have c2b0 : decide (x7_1 < (l0.length : Int)) = true := decide_eq_true c2
    clear c2
    by_cases c3 : 0 ≤ x7_1
    ·rw [if_pos c3] at H
     have c3b0 : decide (0 ≤ x7_1) = true := decide_eq_true c3
     clear c3
     by_cases c4 : x7_1 < (l0.length : Int)
     ·rw [if_pos c4] at H
      have c4b0 : decide (x7_1 < (l0.length : Int)) = true := decide_eq_true c4
      clear c4
      by_cases c5 : (((rd_T102 l0 x7_1).f0).size : Int) > 300
      ·rw [if_pos c5] at H
       have c5b0 : decide (300 < (((rd_T102 l0 x7_1).f0).size : Int)) = true := decide_eq_true c5
       have c5b1 : decide (300 < ((rd_T102 l0 x7_1).f0).size) = true := decide_eq_true (by omega)
       clear c5; obtain rfl := Option.some.inj H
       have p416 : 0 ≤ (x7_1 : Int) := od_
       have q416 : x7_1 < (l0.length : Int) := od_
       obtain ⟨ad416, A416_2, c416_2, e416, hx416_0, hx416_1, hx416_2, hl416_2, hi416_2⟩ := at_T102 HR0.out x7_1 p416 q416; cases e416
       replace hx416_0 := up_ HB.out hx416_0
       replace hx416_1 := up_ HB.out hx416_1
       replace hx416_2 := up_ HB.out hx416_2
       have HR416_2 := Aside0.mk hi416_2; have HC416_2 := Aside0.mk hl416_2; clear hi416_2 hl416_2; replace p416 := eq_true p416; replace q416 := eq_true q416
       go_wp2_with (first | ((with_reducible refine gate_dst (N := 4) rfl ?_); (try (refine gate_guard (by rfl) ?_; dsimp only)); refine box_event ?hg (N := 4) ?hd (cs := #[.string (⟨#[]⟩ : ByteArray), .bool false, .slice none 0 0]) (t := 102) ?hr ?_; (case hd => rfl); (case hg => rfl); (case hr => first | (go_simp; done) | (go_simp; rfl)); intro gb417 hg w6 hbox hb; have n0_ := Aside0.mk (below_step bl_ hb); have n1_ := Aside0.mk (hbox); have n2_ := Aside0.mk (bsz_ hg : w.heap.size ≤ gb417); have n3_ := Aside0.mk (bsz_ hg : w.heap.size ≤ gb417); clear HB; have HB := n0_; have BK417 := n1_; have GW417 := n2_; have GE417 := n3_; clear n0_ n1_ n2_ n3_; clear hb hbox hg; obtain ⟨hcz7_0, hcz7_1, hcz7_2, hfz7_0, hfz7_1, hfz7_2⟩ := blk3_ BK417.out))
       go_ret
       exact ⟨by first | rfl | (simp [errW_none, errW_some] <;> rfl) | (simp [*, errW_none, errW_some] <;> rfl), bl_⟩
      ·rw [if_neg c5] at H
       have c5b0 : decide (300 < (((rd_T102 l0 x7_1).f0).size : Int)) = false := decide_eq_false c5
       have c5b1 : decide (300 < ((rd_T102 l0 x7_1).f0).size) = false := decide_eq_false (by omega)
       clear c5
       by_cases c8 : (((rd_T102 l0 x7_1).f2).length : Int) > 5000
       ·rw [if_pos c8] at H
        have c8b0 : decide (5000 < (((rd_T102 l0 x7_1).f2).length : Int)) = true := decide_eq_true c8
        have c8b1 : decide (5000 < ((rd_T102 l0 x7_1).f2).length) = true := decide_eq_true (by omega)
        clear c8; obtain rfl := Option.some.inj H
        have p416 : 0 ≤ (x7_1 : Int) := od_
        have q416 : x7_1 < (l0.length : Int) := od_
        obtain ⟨ad416, A416_2, c416_2, e416, hx416_0, hx416_1, hx416_2, hl416_2, hi416_2⟩ := at_T102 HR0.out x7_1 p416 q416; cases e416
        replace hx416_0 := up_ HB.out hx416_0
        replace hx416_1 := up_ HB.out hx416_1
        replace hx416_2 := up_ HB.out hx416_2
        have HR416_2 := Aside0.mk hi416_2; have HC416_2 := Aside0.mk hl416_2; clear hi416_2 hl416_2; replace p416 := eq_true p416; replace q416 := eq_true q416
        go_wp2_with (first | ((with_reducible refine gate_dst (N := 4) rfl ?_); (try (refine gate_guard (by rfl) ?_; dsimp only)); refine box_event ?hg (N := 4) ?hd (cs := #[.string (⟨#[]⟩ : ByteArray), .bool false, .slice none 0 0]) (t := 102) ?hr ?_; (case hd => rfl); (case hg => rfl); (case hr => first | (go_simp; done) | (go_simp; rfl)); intro gb417 hg w9 hbox hb; have n0_ := Aside0.mk (below_step bl_ hb); have n1_ := Aside0.mk (hbox); have n2_ := Aside0.mk (bsz_ hg : w.heap.size ≤ gb417); have n3_ := Aside0.mk (bsz_ hg : w.heap.size ≤ gb417); clear HB; have HB := n0_; have BK417 := n1_; have GW417 := n2_; have GE417 := n3_; clear n0_ n1_ n2_ n3_; clear hb hbox hg; obtain ⟨hcz10_0, hcz10_1, hcz10_2, hfz10_0, hfz10_1, hfz10_2⟩ := blk3_ BK417.out))
        go_ret
        exact ⟨by first | rfl | (simp [errW_none, errW_some] <;> rfl) | (simp [*, errW_none, errW_some] <;> rfl), bl_⟩
       ·rw [if_neg c8] at H
        have c8b0 : decide (5000 < (((rd_T102 l0 x7_1).f2).length : Int)) = false := decide_eq_false c8
        have c8b1 : decide (5000 < ((rd_T102 l0 x7_1).f2).length) = false := decide_eq_false (by omega)
        clear c8; have H' := Aside0.mk H; clear H
        have p416 : 0 ≤ (x7_1 : Int) := od_
        have q416 : x7_1 < (l0.length : Int) := od_
        obtain ⟨ad416, A416_2, c416_2, e416, hx416_0, hx416_1, hx416_2, hl416_2, hi416_2⟩ := at_T102 HR0.out x7_1 p416 q416; cases e416
        replace hx416_0 := up_ HB.out hx416_0
        replace hx416_1 := up_ HB.out hx416_1
        replace hx416_2 := up_ HB.out hx416_2
        have HR416_2 := Aside0.mk hi416_2; have HC416_2 := Aside0.mk hl416_2; clear hi416_2 hl416_2; replace p416 := eq_true p416; replace q416 := eq_true q416
        go_wp2_with (first | ((with_reducible refine gate_dst (N := 4) rfl ?_); (try (refine gate_guard (by rfl) ?_; dsimp only)); refine box_event ?hg (N := 4) ?hd (cs := #[.string (⟨#[]⟩ : ByteArray), .bool false, .slice none 0 0]) (t := 102) ?hr ?_; (case hd => rfl); (case hg => rfl); (case hr => first | (go_simp; done) | (go_simp; rfl)); intro gb417 hg w11 hbox hb; have n0_ := Aside0.mk (below_step bl_ hb); have n1_ := Aside0.mk (hbox); have n2_ := Aside0.mk (bsz_ hg : w.heap.size ≤ gb417); have n3_ := Aside0.mk (bsz_ hg : w.heap.size ≤ gb417); clear HB; have HB := n0_; have BK417 := n1_; have GW417 := n2_; have GE417 := n3_; clear n0_ n1_ n2_ n3_; clear hb hbox hg; obtain ⟨hcz12_0, hcz12_1, hcz12_2, hfz12_0, hfz12_1, hfz12_2⟩ := blk3_ BK417.out))
        go_roundg k1
        case measure => have := HK1.out; omega
        case rel => exact ⟨(wrap64 (x7_1 + 1)), (by first | rfl | (simp; done) | (simp [*]; done)), H', ⟨by have := HK1.out; omega⟩, ⟨bl_⟩⟩
     ·rw [if_neg c4] at H
      exact absurd H (by simp)
    ·rw [if_neg c3] at H
     exact absurd H (by simp)
   ·rw [if_neg c2] at H
    have c2b0 : decide (x7_1 < (l0.length : Int)) = false := decide_eq_false c2
    clear c2; obtain rfl := Option.some.inj H
    go_wp2
    go_ret
    exact ⟨by first | rfl | (simp [errW_none, errW_some] <;> rfl) | (simp [*, errW_none, errW_some] <;> rfl), bl_⟩
def conductorlaw08_few.l0 : Nat → List (S55) → List (S55) → Int → Int → Option (Bool)
 | 0, _, _, _, _ => none
 | k + 1, x0, x5, x6, x7 => if x7 < x6 then (if 0 ≤ x7 then (if x7 < (x5.length : Int) then ((conductorlaw08_writes.f k ((rd_T55 x5 x7).f1)).bind fun t420 => (if t420 = true then (if (((rd_T55 x5 x7).f4).size : Int) > 300 then (some false) else (if (((rd_T55 x5 x7).f5).size : Int) > 300 then (some false) else (conductorlaw08_few.l0 k x0 x5 x6 (wrap64 (x7 + 1))))) else (some false))) else (none)) else (none)) else (some (decide ((x0.length : Int) ≤ 40)))
def conductorlaw08_few.f (k : Nat) (l0 : List (S55)) : Option (Bool) := conductorlaw08_few.l0 k l0 l0 (l0.length : Int) 0
theorem conductorlaw08_few.mono_l : ∀ k, (∀ y0 y1 y2 y3, LeO (conductorlaw08_few.l0 k y0 y1 y2 y3) (conductorlaw08_few.l0 (k + 1) y0 y1 y2 y3))
 | 0 => fun _ _ _ _ r h => by simp [conductorlaw08_few.l0] at h
 | k + 1 => by
  have ih0 := conductorlaw08_few.mono_l k
  ·intro y0 y1 y2 y3
   unfold conductorlaw08_few.l0
   repeat' first
   | (with_reducible exact ih0 _ _ _ _)
   | (with_reducible exact conductorlaw08_writes.mono _ _)
   | (with_reducible exact LeO.refl _)
   | (with_reducible exact LeO.none _)
   | (with_reducible refine LeO.ite ?_ ?_)
   | (with_reducible refine LeO.bind ?_ (fun _ => ?_))
   | exact ih0 _ _ _ _
   | exact conductorlaw08_writes.mono _ _
   | exact LeO.none _
   | refine LeO.ite ?_ ?_
   | refine LeO.bind ?_ (fun _ => ?_)
theorem conductorlaw08_few.mono : ∀ a0 k, LeO (conductorlaw08_few.f k a0) (conductorlaw08_few.f (k + 1) a0) := by
 intro a0 k
 have ih0 := conductorlaw08_few.mono_l k
 unfold conductorlaw08_few.f
 repeat' first
   | (with_reducible exact ih0 _ _ _ _)
   | (with_reducible exact conductorlaw08_writes.mono _ _)
   | (with_reducible exact LeO.refl _)
   | (with_reducible exact LeO.none _)
   | (with_reducible refine LeO.ite ?_ ?_)
   | (with_reducible refine LeO.bind ?_ (fun _ => ?_))
   | exact ih0 _ _ _ _
   | exact conductorlaw08_writes.mono _ _
   | exact LeO.none _
   | refine LeO.ite ?_ ?_
   | refine LeO.bind ?_ (fun _ => ?_)
set_option maxHeartbeats 8000000 in
set_option maxRecDepth 100000 in
theorem conductorlaw08_few.calls (k : Nat) (A0 : Option Addr) (c0 : Nat) (l0 : List (S55)) (r : Bool) (w : World) (hr0 : Kd.C k55 w A0 l0.length l0) (hc0 : l0.length ≤ c0) (h : conductorlaw08_few.f k l0 = some r) :
  Calls Try.prog 38 #[.slice A0 l0.length c0] w fun e w' => e = .returned (.bool r) ∧ Below w.heap.size w w' := by
 have hu55 := Try.underlying55
 have HR0 := Aside0.mk hr0; have HC0 := Aside0.mk hc0; clear hr0 hc0
 have HB := Aside0.mk (Below.refl w.heap.size w)
 have H : (conductorlaw08_few.l0 k l0 l0 (l0.length : Int) 0) = some r := h
 clear h; have H' := Aside0.mk H; clear H
 go_enter Try.func38, Try.ntmps38
 go_wp2
 go_loopg [7] k (fun kq v7 w' => ∃ (x7_1 : Int), v7 = .int .i64 x7_1 ∧ Aside0 (conductorlaw08_few.l0 kq l0 l0 (l0.length : Int) x7_1 = some r) ∧ Aside0 (kq ≤ k) ∧ Aside0 (Below w.heap.size w w'))
 case atStart => exact ⟨(0), (by first | rfl | (simp; done) | (simp [*]; done)), H', ⟨Nat.le_refl _⟩, ⟨bl_⟩⟩
 case round =>
  clear H'; obtain ⟨x7_1, rfl, HA, HK1, HB⟩ := hrel
  cases gk with
  | zero => exact absurd HA.out (by simp [conductorlaw08_few.l0])
  | succ k1 =>
   have H := HA.out
   clear HA
   simp only [conductorlaw08_few.l0] at H
   by_cases c2 : x7_1 < (l0.length : Int)
   ·rw [if_pos c2] at H
    have c2b0 : decide (x7_1 < (l0.length : Int)) = true := decide_eq_true c2
    clear c2
    by_cases c3 : 0 ≤ x7_1
    ·rw [if_pos c3] at H
     have c3b0 : decide (0 ≤ x7_1) = true := decide_eq_true c3
     clear c3
     by_cases c4 : x7_1 < (l0.length : Int)
     ·rw [if_pos c4] at H
      have c4b0 : decide (x7_1 < (l0.length : Int)) = true := decide_eq_true c4
      clear c4; replace H := Option.bind_eq_some_iff.mp H; obtain ⟨t420, A50, H⟩ := H
      replace H : (if t420 = true then (if (((rd_T55 l0 x7_1).f4).size : Int) > 300 then (some false) else (if (((rd_T55 l0 x7_1).f5).size : Int) > 300 then (some false) else (conductorlaw08_few.l0 k1 l0 l0 (l0.length : Int) (wrap64 (x7_1 + 1))))) else (some false)) = some r := H
      have A5 := Aside0.mk A50; clear A50
      by_cases c6 : t420 = true
      ·subst c6
       have H1 : (if (((rd_T55 l0 x7_1).f4).size : Int) > 300 then (some false) else (if (((rd_T55 l0 x7_1).f5).size : Int) > 300 then (some false) else (conductorlaw08_few.l0 k1 l0 l0 (l0.length : Int) (wrap64 (x7_1 + 1))))) = some r := by rw [if_pos rfl] at H; exact H
       clear H; have H := H1; clear H1
       by_cases c7 : (((rd_T55 l0 x7_1).f4).size : Int) > 300
       ·rw [if_pos c7] at H
        have c7b0 : decide (300 < (((rd_T55 l0 x7_1).f4).size : Int)) = true := decide_eq_true c7
        have c7b1 : decide (300 < ((rd_T55 l0 x7_1).f4).size) = true := decide_eq_true (by omega)
        clear c7; obtain rfl := Option.some.inj H
        have p418 : 0 ≤ (x7_1 : Int) := od_
        have q418 : x7_1 < (l0.length : Int) := od_
        obtain ⟨ad418, A418_1, c418_1, e418, hx418_0, hx418_1, hx418_2, hx418_3, hx418_4, hx418_5, hl418_1, hi418_1⟩ := at_T55 HR0.out x7_1 p418 q418; cases e418
        replace hx418_0 := up_ HB.out hx418_0
        replace hx418_1 := up_ HB.out hx418_1
        replace hx418_2 := up_ HB.out hx418_2
        replace hx418_3 := up_ HB.out hx418_3
        replace hx418_4 := up_ HB.out hx418_4
        replace hx418_5 := up_ HB.out hx418_5
        have HR418_1 := Aside0.mk hi418_1; have HC418_1 := Aside0.mk hl418_1; clear hi418_1 hl418_1; replace p418 := eq_true p418; replace q418 := eq_true q418
        go_wp2_with (first | ((with_reducible refine gate_dst (N := 4) rfl ?_); (try (refine gate_guard (by rfl) ?_; dsimp only)); refine box_event ?hg (N := 4) ?hd (cs := #[.int .i64 0, .slice none 0 0, .int .u64 0, .int .u64 0, .string (⟨#[]⟩ : ByteArray), .string (⟨#[]⟩ : ByteArray)]) (t := 55) ?hr ?_; (case hd => rfl); (case hg => rfl); (case hr => first | (go_simp; done) | (go_simp; rfl)); intro gb419 hg w8 hbox hb; have n0_ := Aside0.mk (below_step bl_ hb); have n1_ := Aside0.mk (hbox); have n2_ := Aside0.mk (bsz_ hg : w.heap.size ≤ gb419); have n3_ := Aside0.mk (bsz_ hg : w.heap.size ≤ gb419); clear HB; have HB := n0_; have BK419 := n1_; have GW419 := n2_; have GE419 := n3_; clear n0_ n1_ n2_ n3_; clear hb hbox hg; obtain ⟨hcz9_0, hcz9_1, hcz9_2, hcz9_3, hcz9_4, hcz9_5, hfz9_0, hfz9_1, hfz9_2, hfz9_3, hfz9_4, hfz9_5⟩ := blk6_ BK419.out) | ((with_reducible refine gate_callee (f := 69) rfl ?_); refine goesL_ (some 13) rfl rfl Try.func69 (by kernel_rfl) rfl #[.slice A418_1 ((rd_T55 l0 x7_1).f1).length c418_1] rfl sa_ ?_; (with_reducible refine (conductorlaw08_writes.calls k1 _ _ ((rd_T55 l0 x7_1).f1) true _ ?side1 ?side2 A5.out).mono ?_); (case side1 => exact Kd.C_below HR418_1.out bl_); (case side2 => exact HC418_1.out); rintro e w10 ⟨rfl, hb⟩; refine ⟨_, rfl, ?_⟩; have n0_ := Aside0.mk (blk_below (g := gb419) (o := .cells #[.int .i64 ((rd_T55 l0 x7_1).f0), .slice A418_1 ((rd_T55 l0 x7_1).f1).length c418_1, .int .u64 ((rd_T55 l0 x7_1).f2), .int .u64 ((rd_T55 l0 x7_1).f3), .string ((rd_T55 l0 x7_1).f4), .string ((rd_T55 l0 x7_1).f5)] 55 (0, 0)) (by (with_reducible repeat (first | refine blk_drewN ?_ _ | refine blk_drew ?_ | refine blk_alloc ?_ _)); refine blk_put (cs := #[.int .i64 ((rd_T55 l0 x7_1).f0), .slice A418_1 ((rd_T55 l0 x7_1).f1).length c418_1, .int .u64 ((rd_T55 l0 x7_1).f2), .int .u64 ((rd_T55 l0 x7_1).f3), .string ((rd_T55 l0 x7_1).f4), .string (⟨#[]⟩ : ByteArray)]) ?_ 5 _ rfl; refine blk_put (cs := #[.int .i64 ((rd_T55 l0 x7_1).f0), .slice A418_1 ((rd_T55 l0 x7_1).f1).length c418_1, .int .u64 ((rd_T55 l0 x7_1).f2), .int .u64 ((rd_T55 l0 x7_1).f3), .string (⟨#[]⟩ : ByteArray), .string (⟨#[]⟩ : ByteArray)]) ?_ 4 _ rfl; refine blk_put (cs := #[.int .i64 ((rd_T55 l0 x7_1).f0), .slice A418_1 ((rd_T55 l0 x7_1).f1).length c418_1, .int .u64 ((rd_T55 l0 x7_1).f2), .int .u64 0, .string (⟨#[]⟩ : ByteArray), .string (⟨#[]⟩ : ByteArray)]) ?_ 3 _ rfl; refine blk_put (cs := #[.int .i64 ((rd_T55 l0 x7_1).f0), .slice A418_1 ((rd_T55 l0 x7_1).f1).length c418_1, .int .u64 0, .int .u64 0, .string (⟨#[]⟩ : ByteArray), .string (⟨#[]⟩ : ByteArray)]) ?_ 2 _ rfl; refine blk_put (cs := #[.int .i64 ((rd_T55 l0 x7_1).f0), .slice none 0 0, .int .u64 0, .int .u64 0, .string (⟨#[]⟩ : ByteArray), .string (⟨#[]⟩ : ByteArray)]) ?_ 1 _ rfl; refine blk_put (cs := #[.int .i64 0, .slice none 0 0, .int .u64 0, .int .u64 0, .string (⟨#[]⟩ : ByteArray), .string (⟨#[]⟩ : ByteArray)]) ?_ 0 _ rfl; exact BK419.out) hb); have n1_ := Aside0.mk (below_step bl_ hb); clear BK419; clear HB; have BK419 := n0_; have HB := n1_; clear n0_ n1_; (try clear hb); (try clear hb2); (try clear hk); (try clear hi); obtain ⟨hcz11_0, hcz11_1, hcz11_2, hcz11_3, hcz11_4, hcz11_5, hfz11_0, hfz11_1, hfz11_2, hfz11_3, hfz11_4, hfz11_5⟩ := blk6_ BK419.out))
        go_ret
        exact ⟨by first | rfl | (simp [errW_none, errW_some] <;> rfl) | (simp [*, errW_none, errW_some] <;> rfl), bl_⟩
       ·rw [if_neg c7] at H
        have c7b0 : decide (300 < (((rd_T55 l0 x7_1).f4).size : Int)) = false := decide_eq_false c7
        have c7b1 : decide (300 < ((rd_T55 l0 x7_1).f4).size) = false := decide_eq_false (by omega)
        clear c7
        by_cases c12 : (((rd_T55 l0 x7_1).f5).size : Int) > 300
        ·rw [if_pos c12] at H
         have c12b0 : decide (300 < (((rd_T55 l0 x7_1).f5).size : Int)) = true := decide_eq_true c12
         have c12b1 : decide (300 < ((rd_T55 l0 x7_1).f5).size) = true := decide_eq_true (by omega)
         clear c12; obtain rfl := Option.some.inj H
         have p418 : 0 ≤ (x7_1 : Int) := od_
         have q418 : x7_1 < (l0.length : Int) := od_
         obtain ⟨ad418, A418_1, c418_1, e418, hx418_0, hx418_1, hx418_2, hx418_3, hx418_4, hx418_5, hl418_1, hi418_1⟩ := at_T55 HR0.out x7_1 p418 q418; cases e418
         replace hx418_0 := up_ HB.out hx418_0
         replace hx418_1 := up_ HB.out hx418_1
         replace hx418_2 := up_ HB.out hx418_2
         replace hx418_3 := up_ HB.out hx418_3
         replace hx418_4 := up_ HB.out hx418_4
         replace hx418_5 := up_ HB.out hx418_5
         have HR418_1 := Aside0.mk hi418_1; have HC418_1 := Aside0.mk hl418_1; clear hi418_1 hl418_1; replace p418 := eq_true p418; replace q418 := eq_true q418
         go_wp2_with (first | ((with_reducible refine gate_dst (N := 4) rfl ?_); (try (refine gate_guard (by rfl) ?_; dsimp only)); refine box_event ?hg (N := 4) ?hd (cs := #[.int .i64 0, .slice none 0 0, .int .u64 0, .int .u64 0, .string (⟨#[]⟩ : ByteArray), .string (⟨#[]⟩ : ByteArray)]) (t := 55) ?hr ?_; (case hd => rfl); (case hg => rfl); (case hr => first | (go_simp; done) | (go_simp; rfl)); intro gb419 hg w13 hbox hb; have n0_ := Aside0.mk (below_step bl_ hb); have n1_ := Aside0.mk (hbox); have n2_ := Aside0.mk (bsz_ hg : w.heap.size ≤ gb419); have n3_ := Aside0.mk (bsz_ hg : w.heap.size ≤ gb419); clear HB; have HB := n0_; have BK419 := n1_; have GW419 := n2_; have GE419 := n3_; clear n0_ n1_ n2_ n3_; clear hb hbox hg; obtain ⟨hcz14_0, hcz14_1, hcz14_2, hcz14_3, hcz14_4, hcz14_5, hfz14_0, hfz14_1, hfz14_2, hfz14_3, hfz14_4, hfz14_5⟩ := blk6_ BK419.out) | ((with_reducible refine gate_callee (f := 69) rfl ?_); refine goesL_ (some 13) rfl rfl Try.func69 (by kernel_rfl) rfl #[.slice A418_1 ((rd_T55 l0 x7_1).f1).length c418_1] rfl sa_ ?_; (with_reducible refine (conductorlaw08_writes.calls k1 _ _ ((rd_T55 l0 x7_1).f1) true _ ?side1 ?side2 A5.out).mono ?_); (case side1 => exact Kd.C_below HR418_1.out bl_); (case side2 => exact HC418_1.out); rintro e w15 ⟨rfl, hb⟩; refine ⟨_, rfl, ?_⟩; have n0_ := Aside0.mk (blk_below (g := gb419) (o := .cells #[.int .i64 ((rd_T55 l0 x7_1).f0), .slice A418_1 ((rd_T55 l0 x7_1).f1).length c418_1, .int .u64 ((rd_T55 l0 x7_1).f2), .int .u64 ((rd_T55 l0 x7_1).f3), .string ((rd_T55 l0 x7_1).f4), .string ((rd_T55 l0 x7_1).f5)] 55 (0, 0)) (by (with_reducible repeat (first | refine blk_drewN ?_ _ | refine blk_drew ?_ | refine blk_alloc ?_ _)); refine blk_put (cs := #[.int .i64 ((rd_T55 l0 x7_1).f0), .slice A418_1 ((rd_T55 l0 x7_1).f1).length c418_1, .int .u64 ((rd_T55 l0 x7_1).f2), .int .u64 ((rd_T55 l0 x7_1).f3), .string ((rd_T55 l0 x7_1).f4), .string (⟨#[]⟩ : ByteArray)]) ?_ 5 _ rfl; refine blk_put (cs := #[.int .i64 ((rd_T55 l0 x7_1).f0), .slice A418_1 ((rd_T55 l0 x7_1).f1).length c418_1, .int .u64 ((rd_T55 l0 x7_1).f2), .int .u64 ((rd_T55 l0 x7_1).f3), .string (⟨#[]⟩ : ByteArray), .string (⟨#[]⟩ : ByteArray)]) ?_ 4 _ rfl; refine blk_put (cs := #[.int .i64 ((rd_T55 l0 x7_1).f0), .slice A418_1 ((rd_T55 l0 x7_1).f1).length c418_1, .int .u64 ((rd_T55 l0 x7_1).f2), .int .u64 0, .string (⟨#[]⟩ : ByteArray), .string (⟨#[]⟩ : ByteArray)]) ?_ 3 _ rfl; refine blk_put (cs := #[.int .i64 ((rd_T55 l0 x7_1).f0), .slice A418_1 ((rd_T55 l0 x7_1).f1).length c418_1, .int .u64 0, .int .u64 0, .string (⟨#[]⟩ : ByteArray), .string (⟨#[]⟩ : ByteArray)]) ?_ 2 _ rfl; refine blk_put (cs := #[.int .i64 ((rd_T55 l0 x7_1).f0), .slice none 0 0, .int .u64 0, .int .u64 0, .string (⟨#[]⟩ : ByteArray), .string (⟨#[]⟩ : ByteArray)]) ?_ 1 _ rfl; refine blk_put (cs := #[.int .i64 0, .slice none 0 0, .int .u64 0, .int .u64 0, .string (⟨#[]⟩ : ByteArray), .string (⟨#[]⟩ : ByteArray)]) ?_ 0 _ rfl; exact BK419.out) hb); have n1_ := Aside0.mk (below_step bl_ hb); clear BK419; clear HB; have BK419 := n0_; have HB := n1_; clear n0_ n1_; (try clear hb); (try clear hb2); (try clear hk); (try clear hi); obtain ⟨hcz16_0, hcz16_1, hcz16_2, hcz16_3, hcz16_4, hcz16_5, hfz16_0, hfz16_1, hfz16_2, hfz16_3, hfz16_4, hfz16_5⟩ := blk6_ BK419.out))
         go_ret
         exact ⟨by first | rfl | (simp [errW_none, errW_some] <;> rfl) | (simp [*, errW_none, errW_some] <;> rfl), bl_⟩
        ·rw [if_neg c12] at H
         have c12b0 : decide (300 < (((rd_T55 l0 x7_1).f5).size : Int)) = false := decide_eq_false c12
         have c12b1 : decide (300 < ((rd_T55 l0 x7_1).f5).size) = false := decide_eq_false (by omega)
         clear c12; have H' := Aside0.mk H; clear H
         have p418 : 0 ≤ (x7_1 : Int) := od_
         have q418 : x7_1 < (l0.length : Int) := od_
         obtain ⟨ad418, A418_1, c418_1, e418, hx418_0, hx418_1, hx418_2, hx418_3, hx418_4, hx418_5, hl418_1, hi418_1⟩ := at_T55 HR0.out x7_1 p418 q418; cases e418
         replace hx418_0 := up_ HB.out hx418_0
         replace hx418_1 := up_ HB.out hx418_1
         replace hx418_2 := up_ HB.out hx418_2
         replace hx418_3 := up_ HB.out hx418_3
         replace hx418_4 := up_ HB.out hx418_4
         replace hx418_5 := up_ HB.out hx418_5
         have HR418_1 := Aside0.mk hi418_1; have HC418_1 := Aside0.mk hl418_1; clear hi418_1 hl418_1; replace p418 := eq_true p418; replace q418 := eq_true q418
         go_wp2_with (first | ((with_reducible refine gate_dst (N := 4) rfl ?_); (try (refine gate_guard (by rfl) ?_; dsimp only)); refine box_event ?hg (N := 4) ?hd (cs := #[.int .i64 0, .slice none 0 0, .int .u64 0, .int .u64 0, .string (⟨#[]⟩ : ByteArray), .string (⟨#[]⟩ : ByteArray)]) (t := 55) ?hr ?_; (case hd => rfl); (case hg => rfl); (case hr => first | (go_simp; done) | (go_simp; rfl)); intro gb419 hg w17 hbox hb; have n0_ := Aside0.mk (below_step bl_ hb); have n1_ := Aside0.mk (hbox); have n2_ := Aside0.mk (bsz_ hg : w.heap.size ≤ gb419); have n3_ := Aside0.mk (bsz_ hg : w.heap.size ≤ gb419); clear HB; have HB := n0_; have BK419 := n1_; have GW419 := n2_; have GE419 := n3_; clear n0_ n1_ n2_ n3_; clear hb hbox hg; obtain ⟨hcz18_0, hcz18_1, hcz18_2, hcz18_3, hcz18_4, hcz18_5, hfz18_0, hfz18_1, hfz18_2, hfz18_3, hfz18_4, hfz18_5⟩ := blk6_ BK419.out) | ((with_reducible refine gate_callee (f := 69) rfl ?_); refine goesL_ (some 13) rfl rfl Try.func69 (by kernel_rfl) rfl #[.slice A418_1 ((rd_T55 l0 x7_1).f1).length c418_1] rfl sa_ ?_; (with_reducible refine (conductorlaw08_writes.calls k1 _ _ ((rd_T55 l0 x7_1).f1) true _ ?side1 ?side2 A5.out).mono ?_); (case side1 => exact Kd.C_below HR418_1.out bl_); (case side2 => exact HC418_1.out); rintro e w19 ⟨rfl, hb⟩; refine ⟨_, rfl, ?_⟩; have n0_ := Aside0.mk (blk_below (g := gb419) (o := .cells #[.int .i64 ((rd_T55 l0 x7_1).f0), .slice A418_1 ((rd_T55 l0 x7_1).f1).length c418_1, .int .u64 ((rd_T55 l0 x7_1).f2), .int .u64 ((rd_T55 l0 x7_1).f3), .string ((rd_T55 l0 x7_1).f4), .string ((rd_T55 l0 x7_1).f5)] 55 (0, 0)) (by (with_reducible repeat (first | refine blk_drewN ?_ _ | refine blk_drew ?_ | refine blk_alloc ?_ _)); refine blk_put (cs := #[.int .i64 ((rd_T55 l0 x7_1).f0), .slice A418_1 ((rd_T55 l0 x7_1).f1).length c418_1, .int .u64 ((rd_T55 l0 x7_1).f2), .int .u64 ((rd_T55 l0 x7_1).f3), .string ((rd_T55 l0 x7_1).f4), .string (⟨#[]⟩ : ByteArray)]) ?_ 5 _ rfl; refine blk_put (cs := #[.int .i64 ((rd_T55 l0 x7_1).f0), .slice A418_1 ((rd_T55 l0 x7_1).f1).length c418_1, .int .u64 ((rd_T55 l0 x7_1).f2), .int .u64 ((rd_T55 l0 x7_1).f3), .string (⟨#[]⟩ : ByteArray), .string (⟨#[]⟩ : ByteArray)]) ?_ 4 _ rfl; refine blk_put (cs := #[.int .i64 ((rd_T55 l0 x7_1).f0), .slice A418_1 ((rd_T55 l0 x7_1).f1).length c418_1, .int .u64 ((rd_T55 l0 x7_1).f2), .int .u64 0, .string (⟨#[]⟩ : ByteArray), .string (⟨#[]⟩ : ByteArray)]) ?_ 3 _ rfl; refine blk_put (cs := #[.int .i64 ((rd_T55 l0 x7_1).f0), .slice A418_1 ((rd_T55 l0 x7_1).f1).length c418_1, .int .u64 0, .int .u64 0, .string (⟨#[]⟩ : ByteArray), .string (⟨#[]⟩ : ByteArray)]) ?_ 2 _ rfl; refine blk_put (cs := #[.int .i64 ((rd_T55 l0 x7_1).f0), .slice none 0 0, .int .u64 0, .int .u64 0, .string (⟨#[]⟩ : ByteArray), .string (⟨#[]⟩ : ByteArray)]) ?_ 1 _ rfl; refine blk_put (cs := #[.int .i64 0, .slice none 0 0, .int .u64 0, .int .u64 0, .string (⟨#[]⟩ : ByteArray), .string (⟨#[]⟩ : ByteArray)]) ?_ 0 _ rfl; exact BK419.out) hb); have n1_ := Aside0.mk (below_step bl_ hb); clear BK419; clear HB; have BK419 := n0_; have HB := n1_; clear n0_ n1_; (try clear hb); (try clear hb2); (try clear hk); (try clear hi); obtain ⟨hcz20_0, hcz20_1, hcz20_2, hcz20_3, hcz20_4, hcz20_5, hfz20_0, hfz20_1, hfz20_2, hfz20_3, hfz20_4, hfz20_5⟩ := blk6_ BK419.out))
         go_roundg k1
         case measure => have := HK1.out; omega
         case rel => exact ⟨(wrap64 (x7_1 + 1)), (by first | rfl | (simp; done) | (simp [*]; done)), H', ⟨by have := HK1.out; omega⟩, ⟨bl_⟩⟩
      ·replace c6 := Bool.eq_false_iff.mpr c6
       subst c6
       have H1 : (some false) = some r := by rw [if_neg (show ¬ (false = true) by decide)] at H; exact H
       clear H; have H := H1; clear H1; obtain rfl := Option.some.inj H
       have p418 : 0 ≤ (x7_1 : Int) := od_
       have q418 : x7_1 < (l0.length : Int) := od_
       obtain ⟨ad418, A418_1, c418_1, e418, hx418_0, hx418_1, hx418_2, hx418_3, hx418_4, hx418_5, hl418_1, hi418_1⟩ := at_T55 HR0.out x7_1 p418 q418; cases e418
       replace hx418_0 := up_ HB.out hx418_0
       replace hx418_1 := up_ HB.out hx418_1
       replace hx418_2 := up_ HB.out hx418_2
       replace hx418_3 := up_ HB.out hx418_3
       replace hx418_4 := up_ HB.out hx418_4
       replace hx418_5 := up_ HB.out hx418_5
       have HR418_1 := Aside0.mk hi418_1; have HC418_1 := Aside0.mk hl418_1; clear hi418_1 hl418_1; replace p418 := eq_true p418; replace q418 := eq_true q418
       go_wp2_with (first | ((with_reducible refine gate_dst (N := 4) rfl ?_); (try (refine gate_guard (by rfl) ?_; dsimp only)); refine box_event ?hg (N := 4) ?hd (cs := #[.int .i64 0, .slice none 0 0, .int .u64 0, .int .u64 0, .string (⟨#[]⟩ : ByteArray), .string (⟨#[]⟩ : ByteArray)]) (t := 55) ?hr ?_; (case hd => rfl); (case hg => rfl); (case hr => first | (go_simp; done) | (go_simp; rfl)); intro gb419 hg w21 hbox hb; have n0_ := Aside0.mk (below_step bl_ hb); have n1_ := Aside0.mk (hbox); have n2_ := Aside0.mk (bsz_ hg : w.heap.size ≤ gb419); have n3_ := Aside0.mk (bsz_ hg : w.heap.size ≤ gb419); clear HB; have HB := n0_; have BK419 := n1_; have GW419 := n2_; have GE419 := n3_; clear n0_ n1_ n2_ n3_; clear hb hbox hg; obtain ⟨hcz22_0, hcz22_1, hcz22_2, hcz22_3, hcz22_4, hcz22_5, hfz22_0, hfz22_1, hfz22_2, hfz22_3, hfz22_4, hfz22_5⟩ := blk6_ BK419.out) | ((with_reducible refine gate_callee (f := 69) rfl ?_); refine goesL_ (some 13) rfl rfl Try.func69 (by kernel_rfl) rfl #[.slice A418_1 ((rd_T55 l0 x7_1).f1).length c418_1] rfl sa_ ?_; (with_reducible refine (conductorlaw08_writes.calls k1 _ _ ((rd_T55 l0 x7_1).f1) false _ ?side1 ?side2 A5.out).mono ?_); (case side1 => exact Kd.C_below HR418_1.out bl_); (case side2 => exact HC418_1.out); rintro e w23 ⟨rfl, hb⟩; refine ⟨_, rfl, ?_⟩; have n0_ := Aside0.mk (blk_below (g := gb419) (o := .cells #[.int .i64 ((rd_T55 l0 x7_1).f0), .slice A418_1 ((rd_T55 l0 x7_1).f1).length c418_1, .int .u64 ((rd_T55 l0 x7_1).f2), .int .u64 ((rd_T55 l0 x7_1).f3), .string ((rd_T55 l0 x7_1).f4), .string ((rd_T55 l0 x7_1).f5)] 55 (0, 0)) (by (with_reducible repeat (first | refine blk_drewN ?_ _ | refine blk_drew ?_ | refine blk_alloc ?_ _)); refine blk_put (cs := #[.int .i64 ((rd_T55 l0 x7_1).f0), .slice A418_1 ((rd_T55 l0 x7_1).f1).length c418_1, .int .u64 ((rd_T55 l0 x7_1).f2), .int .u64 ((rd_T55 l0 x7_1).f3), .string ((rd_T55 l0 x7_1).f4), .string (⟨#[]⟩ : ByteArray)]) ?_ 5 _ rfl; refine blk_put (cs := #[.int .i64 ((rd_T55 l0 x7_1).f0), .slice A418_1 ((rd_T55 l0 x7_1).f1).length c418_1, .int .u64 ((rd_T55 l0 x7_1).f2), .int .u64 ((rd_T55 l0 x7_1).f3), .string (⟨#[]⟩ : ByteArray), .string (⟨#[]⟩ : ByteArray)]) ?_ 4 _ rfl; refine blk_put (cs := #[.int .i64 ((rd_T55 l0 x7_1).f0), .slice A418_1 ((rd_T55 l0 x7_1).f1).length c418_1, .int .u64 ((rd_T55 l0 x7_1).f2), .int .u64 0, .string (⟨#[]⟩ : ByteArray), .string (⟨#[]⟩ : ByteArray)]) ?_ 3 _ rfl; refine blk_put (cs := #[.int .i64 ((rd_T55 l0 x7_1).f0), .slice A418_1 ((rd_T55 l0 x7_1).f1).length c418_1, .int .u64 0, .int .u64 0, .string (⟨#[]⟩ : ByteArray), .string (⟨#[]⟩ : ByteArray)]) ?_ 2 _ rfl; refine blk_put (cs := #[.int .i64 ((rd_T55 l0 x7_1).f0), .slice none 0 0, .int .u64 0, .int .u64 0, .string (⟨#[]⟩ : ByteArray), .string (⟨#[]⟩ : ByteArray)]) ?_ 1 _ rfl; refine blk_put (cs := #[.int .i64 0, .slice none 0 0, .int .u64 0, .int .u64 0, .string (⟨#[]⟩ : ByteArray), .string (⟨#[]⟩ : ByteArray)]) ?_ 0 _ rfl; exact BK419.out) hb); have n1_ := Aside0.mk (below_step bl_ hb); clear BK419; clear HB; have BK419 := n0_; have HB := n1_; clear n0_ n1_; (try clear hb); (try clear hb2); (try clear hk); (try clear hi)))
       go_ret
       exact ⟨by first | rfl | (simp [errW_none, errW_some] <;> rfl) | (simp [*, errW_none, errW_some] <;> rfl), bl_⟩
     ·rw [if_neg c4] at H
      exact absurd H (by simp)
    ·rw [if_neg c3] at H
     exact absurd H (by simp)
   ·rw [if_neg c2] at H
    have c2b0 : decide (x7_1 < (l0.length : Int)) = false := decide_eq_false c2
    clear c2; obtain rfl := Option.some.inj H
    go_wp2
    go_ret
    exact ⟨by first | rfl | (simp [errW_none, errW_some] <;> rfl) | (simp [*, errW_none, errW_some] <;> rfl), bl_⟩
end Go.Proofs.Yteofdgonpbmdlaa.C
namespace Go.Proofs.Yteofdgonpbmdlaa.St
open Go.RowKit Go.Proofs.YteofdgonpbmdlaaW.PrintWords Go.Proofs.Yteofdgonpbmdlaa.C Go.Proofs.Yteofdgonpbmdlaa.Pure
def wrB (l : List S102) : Bool := l.all (fun w => decide (w.f0.size ≤ 300) && decide (w.f2.length ≤ 5000)) && decide (l.length ≤ 20)
theorem wr_loop (l : List S102) (hl : l.length ≤ 9223372036854775807) : ∀ (d i k : Nat), i + d = l.length → d < k → conductorlaw08_writes.l0 k l l l.length i = some ((l.drop i).all (fun w => decide (w.f0.size ≤ 300) && decide (w.f2.length ≤ 5000)) && decide (l.length ≤ 20)) := by
  intro d
  induction d with
  | zero =>
    intro i k hd hk
    obtain ⟨k, rfl⟩ : ∃ m, k = m + 1 := ⟨k - 1, by omega⟩
    simp only [conductorlaw08_writes.l0]
    rw [if_neg (by omega), List.drop_eq_nil_of_le (by omega)]
    simp only [List.all_nil, Bool.true_and]
    congr 1
    exact decide_eq_decide.2 (by omega)
  | succ d ih =>
    intro i k hd hk
    obtain ⟨k, rfl⟩ : ∃ m, k = m + 1 := ⟨k - 1, by omega⟩
    have hi : i < l.length := by omega
    simp only [conductorlaw08_writes.l0]
    rw [if_pos (by omega), if_pos (by omega), if_pos (by omega), w1 hi hl, rd102 l i hi, List.drop_eq_getElem_cons hi, ih (i + 1) k (by omega) (by omega)]
    simp only [List.all_cons]
    by_cases h1 : ((l[i]).f0.size : Int) > 300
    · rw [if_pos h1, decide_eq_false (show ¬ (l[i]).f0.size ≤ 300 by omega)]; simp
    · rw [if_neg h1, decide_eq_true (show (l[i]).f0.size ≤ 300 by omega)]
      by_cases h2 : ((l[i]).f2.length : Int) > 5000
      · rw [if_pos h2, decide_eq_false (show ¬ (l[i]).f2.length ≤ 5000 by omega)]; simp
      · rw [if_neg h2, decide_eq_true (show (l[i]).f2.length ≤ 5000 by omega)]; simp
theorem wr_ev (l : List S102) (hl : l.length ≤ 9223372036854775807) : Ev (fun k => conductorlaw08_writes.f k l) (wrB l) := ⟨l.length + 1, fun k hk => wr_loop l hl l.length 0 k (by omega) (by omega)⟩
def opB (o : S55) : Bool := wrB o.f1 && (decide (o.f4.size ≤ 300) && decide (o.f5.size ≤ 300))
def fewB (l : List S55) : Bool := l.all opB && decide (l.length ≤ 40)
theorem rd55 (l : List S55) (i : Nat) (h : i < l.length) : rd_T55 l (i : Int) = l[i] := by
  simp [rd_T55, List.getD_eq_getElem?_getD, h]
theorem few_loop (l : List S55) (hl : l.length ≤ 9223372036854775807) (hw : ∀ o ∈ l, o.f1.length ≤ 9223372036854775807) : ∀ (d i : Nat), i + d = l.length → Ev (fun k => conductorlaw08_few.l0 k l l l.length i) ((l.drop i).all opB && decide (l.length ≤ 40)) := by
  intro d
  induction d with
  | zero =>
    intro i hd
    refine Ev.step (f := fun _ => _) (fun k => by simp only [conductorlaw08_few.l0]; rw [if_neg (by omega)]) ?_
    rw [List.drop_eq_nil_of_le (by omega)]
    simp only [List.all_nil, Bool.true_and]
    have : decide ((l.length : Int) ≤ 40) = decide (l.length ≤ 40) := decide_eq_decide.2 (by omega)
    rw [this]
    exact Ev.now _
  | succ d ih =>
    intro i hd
    have hi : i < l.length := by omega
    refine Ev.step (f := fun k => (conductorlaw08_writes.f k (l[i]).f1).bind fun t420 => (if t420 = true then (if ((l[i]).f4.size : Int) > 300 then (some false) else (if ((l[i]).f5.size : Int) > 300 then (some false) else (conductorlaw08_few.l0 k l l (l.length : Int) ((i + 1 : Nat) : Int)))) else (some false))) (fun k => by
      simp only [conductorlaw08_few.l0]
      rw [if_pos (by omega), if_pos (by omega), if_pos (by omega), rd55 l i hi, w1 hi hl]) ?_
    refine Ev.bind (wr_ev _ (hw _ (List.getElem_mem hi))) ?_
    rw [List.drop_eq_getElem_cons hi]
    simp only [List.all_cons, opB]
    by_cases h0 : wrB (l[i]).f1 = true
    · simp only [h0, if_true, Bool.true_and]
      by_cases h1 : ((l[i]).f4.size : Int) > 300
      · simp only [if_pos h1]; rw [decide_eq_false (show ¬ (l[i]).f4.size ≤ 300 by omega)]; simp only [Bool.false_and]; exact Ev.now _
      · simp only [if_neg h1]; rw [decide_eq_true (show (l[i]).f4.size ≤ 300 by omega)]
        by_cases h2 : ((l[i]).f5.size : Int) > 300
        · simp only [if_pos h2]; rw [decide_eq_false (show ¬ (l[i]).f5.size ≤ 300 by omega)]; simp only [Bool.and_false, Bool.false_and]; exact Ev.now _
        · simp only [if_neg h2]; rw [decide_eq_true (show (l[i]).f5.size ≤ 300 by omega)]
          simp only [Bool.and_true, Bool.true_and]
          exact ih (i + 1) (by omega)
    · have : wrB (l[i]).f1 = false := by simpa using h0
      simp only [this, Bool.false_and, Bool.false_eq_true, if_false]
      exact Ev.now _
theorem few_ev (l : List S55) (hl : l.length ≤ 9223372036854775807) (hw : ∀ o ∈ l, o.f1.length ≤ 9223372036854775807) : ∃ k, conductorlaw08_few.f k l = some (fewB l) := (few_loop l hl hw l.length 0 (by omega)).rounds
structure FewOp (o : S55) : Prop where
  len : o.f1.length ≤ 20
  key : ∀ x ∈ o.f1, x.f0.size ≤ 300
  dat : ∀ x ∈ o.f1, x.f2.length ≤ 5000
  lo : o.f4.size ≤ 300
  hi : o.f5.size ≤ 300
theorem opB_spec {o : S55} (h : opB o = true) : FewOp o := by
  simp only [opB, wrB, Bool.and_eq_true, decide_eq_true_eq, List.all_eq_true] at h
  exact ⟨h.1.2, fun x hx => (h.1.1 x hx).1, fun x hx => (h.1.1 x hx).2, h.2.1, h.2.2⟩
theorem fewB_spec {l : List S55} (h : fewB l = true) : l.length ≤ 40 ∧ ∀ o ∈ l, FewOp o := by
  simp only [fewB, Bool.and_eq_true, decide_eq_true_eq, List.all_eq_true] at h
  exact ⟨h.2, fun o ho => opB_spec (h.1 o ho)⟩
def scanP (s : SS) (lo hi : ByteArray) (a : Int) : List S62 := scanL (fun k => getF (s.ch k) a) hi (s.keys.drop (srchF s.keys lo))
/-- How many versions a collecting drops, as it is told. -/
def wentP (s : SS) (low : Int) : Int := wrap64 (s.n1 - (colN (tfP s low) (zfP s low) s.keys 0 0 0).2.1)
/-- What an operation tells, and the store behind it. -/
def opP (s : SS) (o : S55) : OpTold × SS :=
  if o.f0 = 0 then (⟨(comP s o.f1 o.f2).1, (comP s o.f1 o.f2).2.1, [], false, []⟩, (comP s o.f1 o.f2).2.2)
  else if o.f0 = 1 then (⟨IntKind.u64.wrap (wentP s o.f2), 0, [], false, []⟩, colP s o.f2)
  else if o.f0 = 2 then (⟨lastF (s.ch o.f4), 0, (getF (s.ch o.f4) o.f3).1, (getF (s.ch o.f4) o.f3).2, []⟩, s)
  else if o.f0 = 3 then (⟨0, 0, [], false, scanP s o.f4 o.f5 o.f3⟩, s)
  else (⟨0, 0, [], false, []⟩, s)
theorem Good.op {m : Nat} {s : SS} (h : Good m s) {o : S55} (ho : FewOp o) : Good (m + 1) (opP s o).2 := by
  unfold opP
  split
  · exact h.com ho.len _
  split
  · exact (h.col _).mono (by omega)
  split
  · exact h.mono (by omega)
  split <;> exact h.mono (by omega)
theorem does_op {W : World} {base p : Nat} {B : Nat → Prop} {s : SS} {kv : Value} {mb n : Nat} {D : DataW Value} (h : Aside0 (StoreAt W base B p s kv mb n D)) {m : Nat} (g : Aside0 (Good m s)) (hm : Aside0 (m ≤ 800)) (o : S55) (ho : Aside0 (FewOp o)) (okA : Nat → Prop) (hokA : Aside0 (∀ k, okA k → k < base)) (A : Option Addr) (c0 : Nat) (hF : Aside0 (Kd.F k102 W okA A o.f1.length o.f1)) (hlc : Aside0 (o.f1.length ≤ c0)) (hn : Aside0 (n + 20000 < maxLen)) :
    Calls Try.prog 41 #[.pointer (some ⟨p, 0, none⟩), .agg #[.int .i64 o.f0, .slice A o.f1.length c0, .int .u64 o.f2, .int .u64 o.f3, .string o.f4, .string o.f5]] W (DoPost W base B p kv mb n (opP s o).1 (opP s o).2 20000) := by
  obtain ⟨g⟩ := g
  obtain ⟨hm⟩ := hm
  obtain ⟨ho⟩ := ho
  have hkn := g.kn
  have mono : ∀ {R : OpTold} {s' : SS} {q : Nat} {e : Ending} {w' : World}, q ≤ 20000 → DoPost W base B p kv mb n R s' q e w' → DoPost W base B p kv mb n R s' 20000 e w' := by
    rintro R s' q e w' hq ⟨h1, kv', n', D', h2, h3, h4⟩
    exact ⟨h1, kv', n', D', h2, by omega, h4⟩
  have hlen := ho.len
  have hmax : maxLen = 9223372036854775807 := rfl
  have hn' := hn.out
  unfold opP
  by_cases h0 : o.f0 = 0
  · rw [if_pos h0, h0]
    exact (does_commit h A c0 o.f1 o.f2 o.f3 o.f4 o.f5 okA hokA hF hlc (chkL none o.f1) (tfP s o.f2) (zfP s o.f2) _ ⟨g.ask hm ho.len (fun x hx => by have := ho.key x hx; omega) o.f2⟩ ⟨by omega⟩ _ ⟨rfl⟩).mono (fun _ _ hq => mono (by omega) hq)
  rw [if_neg h0]
  by_cases h1 : o.f0 = 1
  · rw [if_pos h1, h1]
    exact (does_collect h A c0 o.f1 o.f2 o.f3 o.f4 o.f5 (tfP s o.f2) (zfP s o.f2) ⟨by omega⟩ ⟨fun key hk => size256 (g.ks key hk)⟩ ⟨g.so.nodup⟩ ⟨fun key _ => g.trim hm key o.f2⟩ ⟨fun key _ => g.size hm key o.f2⟩ ⟨by omega⟩).mono (fun _ _ hq => mono (by omega) hq)
  rw [if_neg h1]
  by_cases h2 : o.f0 = 2
  · rw [if_pos h2, h2]
    exact (does_read h A c0 o.f1 o.f2 o.f3 o.f4 o.f5 ⟨by have := ho.lo; omega⟩ _ _ ⟨g.get hm o.f4 o.f3⟩ _ ⟨g.lastEq hm o.f4⟩).mono (fun _ _ hq => mono (by omega) hq)
  rw [if_neg h2]
  by_cases h3 : o.f0 = 3
  · rw [if_pos h3, h3]
    exact (does_scan h A c0 o.f1 o.f2 o.f3 o.f4 o.f5 ⟨by omega⟩ ⟨fun key hk => size256 (g.ks key hk)⟩ _ ⟨fun key _ => g.get hm key o.f3⟩ _ ⟨rfl⟩).mono (fun _ _ hq => mono (by omega) hq)
  rw [if_neg h3]
  exact (does_other h A c0 o.f1 o.f2 o.f3 o.f4 o.f5 o.f0 h0 h1 h2 h3).mono (fun _ _ hq => mono (by omega) hq)
end Go.Proofs.Yteofdgonpbmdlaa.St
