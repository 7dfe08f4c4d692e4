/- Texts of this session, merged for the law SsiMore: S45, S46. No condition. -/
import Derived.Test.YtjefihcbhdennaaZSsiMorea
import Derived.Test.YtjefihcbhdennaaZSsiMoref
namespace Go.Proofs.Ytjefihcbhdennaa.S
open Go.RowKit Go.Proofs.YtjefihcbhdennaaW.PrintWords Go.Proofs.YtjefihcbhdennaaW.PrintLast Go.Proofs.YtjefihcbhdennaaW.PrintMore
attribute [local go_sem] max2_int min2_int max2_str min2_str str_leq str_gtr str_geq max_two min_two max_three min_three max_four min_four   -- for this text's walks alone
set_option linter.unusedVariables false
set_option linter.unusedSimpArgs false
def conductorref10_Right.f (k : Nat) (a0_0 : Int) (a0_1 : Int) (a0_2 : Int) (a0_3 : Int) (l0_4 : List (S41)) (l0_5 : List (S41)) : Option (Bool) := if a0_0 ≥ 1 then (if a0_0 ≤ a0_1 then (if a0_2 ≤ a0_1 then ((conductorref09_Normal.f k l0_4).bind fun t508 => (if t508 = true then ((conductorref09_Normal.f k l0_5).bind fun t509 => (some t509)) else (some false))) else (some false)) else (some false)) else (some false)
set_option maxHeartbeats 8000000 in
set_option maxRecDepth 100000 in
theorem conductorref10_Right.calls (k : Nat) (a0_0 : Int) (a0_1 : Int) (a0_2 : Int) (a0_3 : Int) (A0_4 : Option Addr) (c0_4 : Nat) (l0_4 : List (S41)) (A0_5 : Option Addr) (c0_5 : Nat) (l0_5 : List (S41)) (r : Bool) (w : World) (hr0_4 : Kd.C k41 w A0_4 l0_4.length l0_4) (hc0_4 : l0_4.length ≤ c0_4) (hr0_5 : Kd.C k41 w A0_5 l0_5.length l0_5) (hc0_5 : l0_5.length ≤ c0_5) (h : conductorref10_Right.f k a0_0 a0_1 a0_2 a0_3 l0_4 l0_5 = some r) :
  Calls Try.prog 54 #[.agg #[.int .u64 a0_0, .int .u64 a0_1, .int .u64 a0_2, .int .u64 a0_3, .slice A0_4 l0_4.length c0_4, .slice A0_5 l0_5.length c0_5]] w fun e w' => e = .returned (.bool r) ∧ Below w.heap.size w w' := by
 have hu26 := Try.underlying26
 have HR0_4 := Aside0.mk hr0_4
 have HC0_4 := Aside0.mk hc0_4
 clear hr0_4 hc0_4
 have HR0_5 := Aside0.mk hr0_5
 have HC0_5 := Aside0.mk hc0_5
 clear hr0_5 hc0_5
 have HB := Aside0.mk (Below.refl w.heap.size w)
 have H : (if a0_0 ≥ 1 then (if a0_0 ≤ a0_1 then (if a0_2 ≤ a0_1 then ((conductorref09_Normal.f k l0_4).bind fun t508 => (if t508 = true then ((conductorref09_Normal.f k l0_5).bind fun t509 => (some t509)) else (some false))) else (some false)) else (some false)) else (some false)) = some r := h
 clear h
 by_cases c2 : a0_0 ≥ 1
 ·rw [if_pos c2] at H
  have c2b0 : decide (1 ≤ a0_0) = true := decide_eq_true c2
  clear c2
  by_cases c3 : a0_0 ≤ a0_1
  ·rw [if_pos c3] at H
   have c3b0 : decide (a0_0 ≤ a0_1) = true := decide_eq_true c3
   clear c3
   by_cases c4 : a0_2 ≤ a0_1
   ·rw [if_pos c4] at H
    have c4b0 : decide (a0_2 ≤ a0_1) = true := decide_eq_true c4
    clear c4
    replace H := Option.bind_eq_some_iff.mp H
    obtain ⟨t508, A50, H⟩ := H
    replace H : (if t508 = true then ((conductorref09_Normal.f k l0_5).bind fun t509 => (some t509)) else (some false)) = some r := H
    have A5 := Aside0.mk A50
    clear A50
    by_cases c6 : t508 = true
    ·subst c6
     have H1 : ((conductorref09_Normal.f k l0_5).bind fun t509 => (some t509)) = some r := by rw [if_pos rfl] at H; exact H
     clear H
     have H := H1
     clear H1
     replace H := Option.bind_eq_some_iff.mp H
     obtain ⟨t509, A70, H⟩ := H
     replace H : (some t509) = some r := H
     have A7 := Aside0.mk A70
     clear A70
     obtain rfl := Option.some.inj H
     go_enter Try.func54, Try.ntmps54
     go_wp2_with (first | ((with_reducible refine gate_dst (N := 1) rfl ?_); refine box_event ?hg (N := 1) ?hd (cs := #[.int .u64 a0_0, .int .u64 a0_1, .int .u64 a0_2, .int .u64 a0_3, .slice A0_4 l0_4.length c0_4, .slice A0_5 l0_5.length c0_5]) (t := 26) ?hr ?_; (case hd => rfl); (case hg => rfl); (case hr => first | (go_simp; done) | (go_simp; rfl)); intro gb507 hg w8 hbox hb; have n0_ := Aside0.mk (below_step (by repeat (first | (with_reducible first | exact HB.out | apply below_alloc | apply pw_below_drewN | apply below_drew1) | exact HB.out)) hb); have n1_ := Aside0.mk (hbox); have n2_ := Aside0.mk ((by rw [hg]; exact (below_size (by repeat (first | (with_reducible first | exact HB.out | apply below_alloc | apply pw_below_drewN | apply below_drew1) | exact HB.out))) : w.heap.size ≤ gb507)); have n3_ := Aside0.mk ((by rw [hg]; exact (below_size (by repeat (first | (with_reducible first | exact HB.out | apply below_alloc | apply pw_below_drewN | apply below_drew1) | exact HB.out))) : w.heap.size ≤ gb507)); clear HB; have HB := n0_; have BK507 := n1_; have GW507 := n2_; have GE507 := n3_; clear n0_ n1_ n2_ n3_; clear hb hbox hg; have hcz9_0 : w8.cell? ⟨gb507, 0, none⟩ = some (.int .u64 a0_0) := (blk_cell BK507.out 0).trans rfl; have hcz9_1 : w8.cell? ⟨gb507, 1, none⟩ = some (.int .u64 a0_1) := (blk_cell BK507.out 1).trans rfl; have hcz9_2 : w8.cell? ⟨gb507, 2, none⟩ = some (.int .u64 a0_2) := (blk_cell BK507.out 2).trans rfl; have hcz9_3 : w8.cell? ⟨gb507, 3, none⟩ = some (.int .u64 a0_3) := (blk_cell BK507.out 3).trans rfl; have hcz9_4 : w8.cell? ⟨gb507, 4, none⟩ = some (.slice A0_4 l0_4.length c0_4) := (blk_cell BK507.out 4).trans rfl; have hcz9_5 : w8.cell? ⟨gb507, 5, none⟩ = some (.slice A0_5 l0_5.length c0_5) := (blk_cell BK507.out 5).trans rfl; have hfz9_0 := blk_frozen BK507.out 0; have hfz9_1 := blk_frozen BK507.out 1; have hfz9_2 := blk_frozen BK507.out 2; have hfz9_3 := blk_frozen BK507.out 3; have hfz9_4 := blk_frozen BK507.out 4; have hfz9_5 := blk_frozen BK507.out 5) | (go_at_call 41; (with_reducible refine (conductorref09_Normal.calls k _ _ l0_4 true _ ?side1 ?side2 A5.out).mono ?_); (case side1 => repeat (first | exact (Kd.C_below HR0_4.out HB.out) | (with_reducible refine Kd.C_alloc ?_ _) | (with_reducible refine Kd.C_drewN ?_ _) | (with_reducible refine Kd.C_drew ?_))); (case side2 => exact HC0_4.out); rintro e w10 ⟨rfl, hb⟩; have n0_ := Aside0.mk (blk_below (g := gb507) (o := .cells #[.int .u64 a0_0, .int .u64 a0_1, .int .u64 a0_2, .int .u64 a0_3, .slice A0_4 l0_4.length c0_4, .slice A0_5 l0_5.length c0_5] 26 (0, 0)) (by (with_reducible repeat (first | refine blk_drewN ?_ _ | refine blk_drew ?_ | refine blk_alloc ?_ _)); exact BK507.out) hb); have n1_ := Aside0.mk (below_step (by repeat (first | (with_reducible first | exact HB.out | apply below_alloc | apply pw_below_drewN | apply below_drew1 | refine below_set ?_ GE507.out) | exact HB.out)) hb); clear BK507; clear HB; have BK507 := n0_; have HB := n1_; clear n0_ n1_; (try clear hb); (try clear hb2); (try clear hk); (try clear hi); have hcz11_0 : w10.cell? ⟨gb507, 0, none⟩ = some (.int .u64 a0_0) := (blk_cell BK507.out 0).trans rfl; have hcz11_1 : w10.cell? ⟨gb507, 1, none⟩ = some (.int .u64 a0_1) := (blk_cell BK507.out 1).trans rfl; have hcz11_2 : w10.cell? ⟨gb507, 2, none⟩ = some (.int .u64 a0_2) := (blk_cell BK507.out 2).trans rfl; have hcz11_3 : w10.cell? ⟨gb507, 3, none⟩ = some (.int .u64 a0_3) := (blk_cell BK507.out 3).trans rfl; have hcz11_4 : w10.cell? ⟨gb507, 4, none⟩ = some (.slice A0_4 l0_4.length c0_4) := (blk_cell BK507.out 4).trans rfl; have hcz11_5 : w10.cell? ⟨gb507, 5, none⟩ = some (.slice A0_5 l0_5.length c0_5) := (blk_cell BK507.out 5).trans rfl; have hfz11_0 := blk_frozen BK507.out 0; have hfz11_1 := blk_frozen BK507.out 1; have hfz11_2 := blk_frozen BK507.out 2; have hfz11_3 := blk_frozen BK507.out 3; have hfz11_4 := blk_frozen BK507.out 4; have hfz11_5 := blk_frozen BK507.out 5) | (go_at_call 41; (with_reducible refine (conductorref09_Normal.calls k _ _ l0_5 t509 _ ?side1 ?side2 A7.out).mono ?_); (case side1 => repeat (first | exact (Kd.C_below HR0_5.out HB.out) | (with_reducible refine Kd.C_alloc ?_ _) | (with_reducible refine Kd.C_drewN ?_ _) | (with_reducible refine Kd.C_drew ?_))); (case side2 => exact HC0_5.out); rintro e w12 ⟨rfl, hb⟩; have n0_ := Aside0.mk (blk_below (g := gb507) (o := .cells #[.int .u64 a0_0, .int .u64 a0_1, .int .u64 a0_2, .int .u64 a0_3, .slice A0_4 l0_4.length c0_4, .slice A0_5 l0_5.length c0_5] 26 (0, 0)) (by (with_reducible repeat (first | refine blk_drewN ?_ _ | refine blk_drew ?_ | refine blk_alloc ?_ _)); exact BK507.out) hb); have n1_ := Aside0.mk (below_step (by repeat (first | (with_reducible first | exact HB.out | apply below_alloc | apply pw_below_drewN | apply below_drew1 | refine below_set ?_ GE507.out) | exact HB.out)) hb); clear BK507; clear HB; have BK507 := n0_; have HB := n1_; clear n0_ n1_; (try clear hb); (try clear hb2); (try clear hk); (try clear hi)))
     go_ret
     exact ⟨by first | rfl | (simp [errW_none, errW_some] <;> rfl) | (simp [*, errW_none, errW_some] <;> rfl), by repeat (first | (with_reducible first | exact HB.out | apply below_alloc | apply pw_below_drewN | apply below_drew1 | refine below_set ?_ GE507.out) | exact HB.out)⟩
    ·replace c6 := Bool.eq_false_iff.mpr c6
     subst c6
     have H1 : (some false) = some r := by rw [if_neg (show ¬ (false = true) by decide)] at H; exact H
     clear H
     have H := H1
     clear H1
     obtain rfl := Option.some.inj H
     go_enter Try.func54, Try.ntmps54
     go_wp2_with (first | ((with_reducible refine gate_dst (N := 1) rfl ?_); refine box_event ?hg (N := 1) ?hd (cs := #[.int .u64 a0_0, .int .u64 a0_1, .int .u64 a0_2, .int .u64 a0_3, .slice A0_4 l0_4.length c0_4, .slice A0_5 l0_5.length c0_5]) (t := 26) ?hr ?_; (case hd => rfl); (case hg => rfl); (case hr => first | (go_simp; done) | (go_simp; rfl)); intro gb507 hg w13 hbox hb; have n0_ := Aside0.mk (below_step (by repeat (first | (with_reducible first | exact HB.out | apply below_alloc | apply pw_below_drewN | apply below_drew1) | exact HB.out)) hb); have n1_ := Aside0.mk (hbox); have n2_ := Aside0.mk ((by rw [hg]; exact (below_size (by repeat (first | (with_reducible first | exact HB.out | apply below_alloc | apply pw_below_drewN | apply below_drew1) | exact HB.out))) : w.heap.size ≤ gb507)); have n3_ := Aside0.mk ((by rw [hg]; exact (below_size (by repeat (first | (with_reducible first | exact HB.out | apply below_alloc | apply pw_below_drewN | apply below_drew1) | exact HB.out))) : w.heap.size ≤ gb507)); clear HB; have HB := n0_; have BK507 := n1_; have GW507 := n2_; have GE507 := n3_; clear n0_ n1_ n2_ n3_; clear hb hbox hg; have hcz14_0 : w13.cell? ⟨gb507, 0, none⟩ = some (.int .u64 a0_0) := (blk_cell BK507.out 0).trans rfl; have hcz14_1 : w13.cell? ⟨gb507, 1, none⟩ = some (.int .u64 a0_1) := (blk_cell BK507.out 1).trans rfl; have hcz14_2 : w13.cell? ⟨gb507, 2, none⟩ = some (.int .u64 a0_2) := (blk_cell BK507.out 2).trans rfl; have hcz14_3 : w13.cell? ⟨gb507, 3, none⟩ = some (.int .u64 a0_3) := (blk_cell BK507.out 3).trans rfl; have hcz14_4 : w13.cell? ⟨gb507, 4, none⟩ = some (.slice A0_4 l0_4.length c0_4) := (blk_cell BK507.out 4).trans rfl; have hcz14_5 : w13.cell? ⟨gb507, 5, none⟩ = some (.slice A0_5 l0_5.length c0_5) := (blk_cell BK507.out 5).trans rfl; have hfz14_0 := blk_frozen BK507.out 0; have hfz14_1 := blk_frozen BK507.out 1; have hfz14_2 := blk_frozen BK507.out 2; have hfz14_3 := blk_frozen BK507.out 3; have hfz14_4 := blk_frozen BK507.out 4; have hfz14_5 := blk_frozen BK507.out 5) | (go_at_call 41; (with_reducible refine (conductorref09_Normal.calls k _ _ l0_4 false _ ?side1 ?side2 A5.out).mono ?_); (case side1 => repeat (first | exact (Kd.C_below HR0_4.out HB.out) | (with_reducible refine Kd.C_alloc ?_ _) | (with_reducible refine Kd.C_drewN ?_ _) | (with_reducible refine Kd.C_drew ?_))); (case side2 => exact HC0_4.out); rintro e w15 ⟨rfl, hb⟩; have n0_ := Aside0.mk (blk_below (g := gb507) (o := .cells #[.int .u64 a0_0, .int .u64 a0_1, .int .u64 a0_2, .int .u64 a0_3, .slice A0_4 l0_4.length c0_4, .slice A0_5 l0_5.length c0_5] 26 (0, 0)) (by (with_reducible repeat (first | refine blk_drewN ?_ _ | refine blk_drew ?_ | refine blk_alloc ?_ _)); exact BK507.out) hb); have n1_ := Aside0.mk (below_step (by repeat (first | (with_reducible first | exact HB.out | apply below_alloc | apply pw_below_drewN | apply below_drew1 | refine below_set ?_ GE507.out) | exact HB.out)) hb); clear BK507; clear HB; have BK507 := n0_; have HB := n1_; clear n0_ n1_; (try clear hb); (try clear hb2); (try clear hk); (try clear hi)))
     go_ret
     exact ⟨by first | rfl | (simp [errW_none, errW_some] <;> rfl) | (simp [*, errW_none, errW_some] <;> rfl), by repeat (first | (with_reducible first | exact HB.out | apply below_alloc | apply pw_below_drewN | apply below_drew1 | refine below_set ?_ GE507.out) | exact HB.out)⟩
   ·rw [if_neg c4] at H
    have c4b0 : decide (a0_2 ≤ a0_1) = false := decide_eq_false c4
    clear c4
    obtain rfl := Option.some.inj H
    go_enter Try.func54, Try.ntmps54
    go_wp2_with (first | ((with_reducible refine gate_dst (N := 1) rfl ?_); refine box_event ?hg (N := 1) ?hd (cs := #[.int .u64 a0_0, .int .u64 a0_1, .int .u64 a0_2, .int .u64 a0_3, .slice A0_4 l0_4.length c0_4, .slice A0_5 l0_5.length c0_5]) (t := 26) ?hr ?_; (case hd => rfl); (case hg => rfl); (case hr => first | (go_simp; done) | (go_simp; rfl)); intro gb507 hg w16 hbox hb; have n0_ := Aside0.mk (below_step (by repeat (first | (with_reducible first | exact HB.out | apply below_alloc | apply pw_below_drewN | apply below_drew1) | exact HB.out)) hb); have n1_ := Aside0.mk (hbox); have n2_ := Aside0.mk ((by rw [hg]; exact (below_size (by repeat (first | (with_reducible first | exact HB.out | apply below_alloc | apply pw_below_drewN | apply below_drew1) | exact HB.out))) : w.heap.size ≤ gb507)); have n3_ := Aside0.mk ((by rw [hg]; exact (below_size (by repeat (first | (with_reducible first | exact HB.out | apply below_alloc | apply pw_below_drewN | apply below_drew1) | exact HB.out))) : w.heap.size ≤ gb507)); clear HB; have HB := n0_; have BK507 := n1_; have GW507 := n2_; have GE507 := n3_; clear n0_ n1_ n2_ n3_; clear hb hbox hg; have hcz17_0 : w16.cell? ⟨gb507, 0, none⟩ = some (.int .u64 a0_0) := (blk_cell BK507.out 0).trans rfl; have hcz17_1 : w16.cell? ⟨gb507, 1, none⟩ = some (.int .u64 a0_1) := (blk_cell BK507.out 1).trans rfl; have hcz17_2 : w16.cell? ⟨gb507, 2, none⟩ = some (.int .u64 a0_2) := (blk_cell BK507.out 2).trans rfl; have hcz17_3 : w16.cell? ⟨gb507, 3, none⟩ = some (.int .u64 a0_3) := (blk_cell BK507.out 3).trans rfl; have hcz17_4 : w16.cell? ⟨gb507, 4, none⟩ = some (.slice A0_4 l0_4.length c0_4) := (blk_cell BK507.out 4).trans rfl; have hcz17_5 : w16.cell? ⟨gb507, 5, none⟩ = some (.slice A0_5 l0_5.length c0_5) := (blk_cell BK507.out 5).trans rfl; have hfz17_0 := blk_frozen BK507.out 0; have hfz17_1 := blk_frozen BK507.out 1; have hfz17_2 := blk_frozen BK507.out 2; have hfz17_3 := blk_frozen BK507.out 3; have hfz17_4 := blk_frozen BK507.out 4; have hfz17_5 := blk_frozen BK507.out 5))
    go_ret
    exact ⟨by first | rfl | (simp [errW_none, errW_some] <;> rfl) | (simp [*, errW_none, errW_some] <;> rfl), by repeat (first | (with_reducible first | exact HB.out | apply below_alloc | apply pw_below_drewN | apply below_drew1 | refine below_set ?_ GE507.out) | exact HB.out)⟩
  ·rw [if_neg c3] at H
   have c3b0 : decide (a0_0 ≤ a0_1) = false := decide_eq_false c3
   clear c3
   obtain rfl := Option.some.inj H
   go_enter Try.func54, Try.ntmps54
   go_wp2_with (first | ((with_reducible refine gate_dst (N := 1) rfl ?_); refine box_event ?hg (N := 1) ?hd (cs := #[.int .u64 a0_0, .int .u64 a0_1, .int .u64 a0_2, .int .u64 a0_3, .slice A0_4 l0_4.length c0_4, .slice A0_5 l0_5.length c0_5]) (t := 26) ?hr ?_; (case hd => rfl); (case hg => rfl); (case hr => first | (go_simp; done) | (go_simp; rfl)); intro gb507 hg w18 hbox hb; have n0_ := Aside0.mk (below_step (by repeat (first | (with_reducible first | exact HB.out | apply below_alloc | apply pw_below_drewN | apply below_drew1) | exact HB.out)) hb); have n1_ := Aside0.mk (hbox); have n2_ := Aside0.mk ((by rw [hg]; exact (below_size (by repeat (first | (with_reducible first | exact HB.out | apply below_alloc | apply pw_below_drewN | apply below_drew1) | exact HB.out))) : w.heap.size ≤ gb507)); have n3_ := Aside0.mk ((by rw [hg]; exact (below_size (by repeat (first | (with_reducible first | exact HB.out | apply below_alloc | apply pw_below_drewN | apply below_drew1) | exact HB.out))) : w.heap.size ≤ gb507)); clear HB; have HB := n0_; have BK507 := n1_; have GW507 := n2_; have GE507 := n3_; clear n0_ n1_ n2_ n3_; clear hb hbox hg; have hcz19_0 : w18.cell? ⟨gb507, 0, none⟩ = some (.int .u64 a0_0) := (blk_cell BK507.out 0).trans rfl; have hcz19_1 : w18.cell? ⟨gb507, 1, none⟩ = some (.int .u64 a0_1) := (blk_cell BK507.out 1).trans rfl; have hcz19_2 : w18.cell? ⟨gb507, 2, none⟩ = some (.int .u64 a0_2) := (blk_cell BK507.out 2).trans rfl; have hcz19_3 : w18.cell? ⟨gb507, 3, none⟩ = some (.int .u64 a0_3) := (blk_cell BK507.out 3).trans rfl; have hcz19_4 : w18.cell? ⟨gb507, 4, none⟩ = some (.slice A0_4 l0_4.length c0_4) := (blk_cell BK507.out 4).trans rfl; have hcz19_5 : w18.cell? ⟨gb507, 5, none⟩ = some (.slice A0_5 l0_5.length c0_5) := (blk_cell BK507.out 5).trans rfl; have hfz19_0 := blk_frozen BK507.out 0; have hfz19_1 := blk_frozen BK507.out 1; have hfz19_2 := blk_frozen BK507.out 2; have hfz19_3 := blk_frozen BK507.out 3; have hfz19_4 := blk_frozen BK507.out 4; have hfz19_5 := blk_frozen BK507.out 5))
   go_ret
   exact ⟨by first | rfl | (simp [errW_none, errW_some] <;> rfl) | (simp [*, errW_none, errW_some] <;> rfl), by repeat (first | (with_reducible first | exact HB.out | apply below_alloc | apply pw_below_drewN | apply below_drew1 | refine below_set ?_ GE507.out) | exact HB.out)⟩
 ·rw [if_neg c2] at H
  have c2b0 : decide (1 ≤ a0_0) = false := decide_eq_false c2
  clear c2
  obtain rfl := Option.some.inj H
  go_enter Try.func54, Try.ntmps54
  go_wp2_with (first | ((with_reducible refine gate_dst (N := 1) rfl ?_); refine box_event ?hg (N := 1) ?hd (cs := #[.int .u64 a0_0, .int .u64 a0_1, .int .u64 a0_2, .int .u64 a0_3, .slice A0_4 l0_4.length c0_4, .slice A0_5 l0_5.length c0_5]) (t := 26) ?hr ?_; (case hd => rfl); (case hg => rfl); (case hr => first | (go_simp; done) | (go_simp; rfl)); intro gb507 hg w20 hbox hb; have n0_ := Aside0.mk (below_step (by repeat (first | (with_reducible first | exact HB.out | apply below_alloc | apply pw_below_drewN | apply below_drew1) | exact HB.out)) hb); have n1_ := Aside0.mk (hbox); have n2_ := Aside0.mk ((by rw [hg]; exact (below_size (by repeat (first | (with_reducible first | exact HB.out | apply below_alloc | apply pw_below_drewN | apply below_drew1) | exact HB.out))) : w.heap.size ≤ gb507)); have n3_ := Aside0.mk ((by rw [hg]; exact (below_size (by repeat (first | (with_reducible first | exact HB.out | apply below_alloc | apply pw_below_drewN | apply below_drew1) | exact HB.out))) : w.heap.size ≤ gb507)); clear HB; have HB := n0_; have BK507 := n1_; have GW507 := n2_; have GE507 := n3_; clear n0_ n1_ n2_ n3_; clear hb hbox hg; have hcz21_0 : w20.cell? ⟨gb507, 0, none⟩ = some (.int .u64 a0_0) := (blk_cell BK507.out 0).trans rfl; have hcz21_1 : w20.cell? ⟨gb507, 1, none⟩ = some (.int .u64 a0_1) := (blk_cell BK507.out 1).trans rfl; have hcz21_2 : w20.cell? ⟨gb507, 2, none⟩ = some (.int .u64 a0_2) := (blk_cell BK507.out 2).trans rfl; have hcz21_3 : w20.cell? ⟨gb507, 3, none⟩ = some (.int .u64 a0_3) := (blk_cell BK507.out 3).trans rfl; have hcz21_4 : w20.cell? ⟨gb507, 4, none⟩ = some (.slice A0_4 l0_4.length c0_4) := (blk_cell BK507.out 4).trans rfl; have hcz21_5 : w20.cell? ⟨gb507, 5, none⟩ = some (.slice A0_5 l0_5.length c0_5) := (blk_cell BK507.out 5).trans rfl; have hfz21_0 := blk_frozen BK507.out 0; have hfz21_1 := blk_frozen BK507.out 1; have hfz21_2 := blk_frozen BK507.out 2; have hfz21_3 := blk_frozen BK507.out 3; have hfz21_4 := blk_frozen BK507.out 4; have hfz21_5 := blk_frozen BK507.out 5))
  go_ret
  exact ⟨by first | rfl | (simp [errW_none, errW_some] <;> rfl) | (simp [*, errW_none, errW_some] <;> rfl), by repeat (first | (with_reducible first | exact HB.out | apply below_alloc | apply pw_below_drewN | apply below_drew1 | refine below_set ?_ GE507.out) | exact HB.out)⟩
end Go.Proofs.Ytjefihcbhdennaa.S
namespace Go.Proofs.Ytjefihcbhdennaa.S
open Go.RowKit Go.Proofs.YtjefihcbhdennaaW.PrintWords Go.Proofs.YtjefihcbhdennaaW.PrintLast Go.Proofs.YtjefihcbhdennaaW.PrintMore
attribute [local go_sem] max2_int min2_int max2_str min2_str str_leq str_gtr str_geq max_two min_two max_three min_three max_four min_four   -- for this text's walks alone
set_option linter.unusedVariables false
set_option linter.unusedSimpArgs false
def conductorlaw10_right.l0 : Nat → List (S26) → Int → Int → Option (Bool)
 | 0, _, _, _ => none
 | k + 1, x5, x6, x7 => if x7 < x6 then (if 0 ≤ x7 then (if x7 < (x5.length : Int) then ((conductorref10_Right.f k ((rd_T26 x5 x7).f0) ((rd_T26 x5 x7).f1) ((rd_T26 x5 x7).f2) ((rd_T26 x5 x7).f3) ((rd_T26 x5 x7).f4) ((rd_T26 x5 x7).f5)).bind fun t512 => (if t512 = true then (conductorlaw10_right.l0 k x5 x6 (wrap64 (x7 + 1))) else (some false))) else (none)) else (none)) else (some true)
def conductorlaw10_right.f (k : Nat) (l0 : List (S26)) : Option (Bool) := conductorlaw10_right.l0 k l0 (l0.length : Int) 0
set_option maxHeartbeats 8000000 in
set_option maxRecDepth 100000 in
theorem conductorlaw10_right.calls (k : Nat) (A0 : Option Addr) (c0 : Nat) (l0 : List (S26)) (r : Bool) (w : World) (hr0 : Kd.C k26 w A0 l0.length l0) (hc0 : l0.length ≤ c0) (h : conductorlaw10_right.f k l0 = some r) :
  Calls Try.prog 17 #[.slice A0 l0.length c0] w fun e w' => e = .returned (.bool r) ∧ Below w.heap.size w w' := by
 have hu26 := Try.underlying26
 have HR0 := Aside0.mk hr0
 have HC0 := Aside0.mk hc0
 clear hr0 hc0
 have HB := Aside0.mk (Below.refl w.heap.size w)
 have H : (conductorlaw10_right.l0 k l0 (l0.length : Int) 0) = some r := h
 clear h
 have H' := Aside0.mk H
 clear H
 go_enter Try.func17, Try.ntmps17
 go_wp2
 go_loopg [7] k (fun kq v7 w' => ∃ (x7_1 : Int), v7 = .int .i64 x7_1 ∧ Aside0 (conductorlaw10_right.l0 kq l0 (l0.length : Int) x7_1 = some r) ∧ Aside0 (kq ≤ k) ∧ Aside0 (Below w.heap.size w w'))
 case atStart => exact ⟨(0), (by first | rfl | (simp; done) | (simp [*]; done)), H', ⟨Nat.le_refl _⟩, ⟨by repeat (first | (with_reducible first | exact HB.out | apply below_alloc | apply pw_below_drewN | apply below_drew1) | exact HB.out)⟩⟩
 case round =>
  clear H'
  try clear c1
  obtain ⟨x7_1, rfl, HA, HK1, HB⟩ := hrel
  cases gk with
  | zero => exact absurd HA.out (by simp [conductorlaw10_right.l0])
  | succ k1 =>
   have H := HA.out
   clear HA
   simp only [conductorlaw10_right.l0] at H
   by_cases c2 : x7_1 < (l0.length : Int)
   ·rw [if_pos c2] at H
    have c2b0 : decide (x7_1 < (l0.length : Int)) = true := decide_eq_true c2
    clear c2
    by_cases c3 : 0 ≤ x7_1
    ·rw [if_pos c3] at H
     have c3b0 : decide (0 ≤ x7_1) = true := decide_eq_true c3
     clear c3
     by_cases c4 : x7_1 < (l0.length : Int)
     ·rw [if_pos c4] at H
      have c4b0 : decide (x7_1 < (l0.length : Int)) = true := decide_eq_true c4
      clear c4
      replace H := Option.bind_eq_some_iff.mp H
      obtain ⟨t512, A50, H⟩ := H
      replace H : (if t512 = true then (conductorlaw10_right.l0 k1 l0 (l0.length : Int) (wrap64 (x7_1 + 1))) else (some false)) = some r := H
      have A5 := Aside0.mk A50
      clear A50
      by_cases c6 : t512 = true
      ·subst c6
       have H1 : (conductorlaw10_right.l0 k1 l0 (l0.length : Int) (wrap64 (x7_1 + 1))) = some r := by rw [if_pos rfl] at H; exact H
       clear H
       have H := H1
       clear H1
       have H' := Aside0.mk H
       clear H
       have p510 : 0 ≤ (x7_1 : Int) := of_decide_eq_true (by first | (with_reducible assumption) | assumption)
       have q510 : x7_1 < (l0.length : Int) := of_decide_eq_true (by first | (with_reducible assumption) | assumption)
       obtain ⟨ad510, A510_4, c510_4, A510_5, c510_5, e510, hx510_0, hx510_1, hx510_2, hx510_3, hx510_4, hx510_5, hl510_4, hi510_4, hl510_5, hi510_5⟩ := at_T26 HR0.out x7_1 p510 q510
       cases e510
       replace hx510_0 := (HB.out.cell (World.block_lt_of_cell? w _ hx510_0)).trans hx510_0
       replace hx510_1 := (HB.out.cell (World.block_lt_of_cell? w _ hx510_1)).trans hx510_1
       replace hx510_2 := (HB.out.cell (World.block_lt_of_cell? w _ hx510_2)).trans hx510_2
       replace hx510_3 := (HB.out.cell (World.block_lt_of_cell? w _ hx510_3)).trans hx510_3
       replace hx510_4 := (HB.out.cell (World.block_lt_of_cell? w _ hx510_4)).trans hx510_4
       replace hx510_5 := (HB.out.cell (World.block_lt_of_cell? w _ hx510_5)).trans hx510_5
       have HR510_4 := Aside0.mk hi510_4
       have HC510_4 := Aside0.mk hl510_4
       clear hi510_4 hl510_4
       have HR510_5 := Aside0.mk hi510_5
       have HC510_5 := Aside0.mk hl510_5
       clear hi510_5 hl510_5
       replace p510 := eq_true p510
       replace q510 := eq_true q510
       go_wp2_with (first | ((with_reducible refine gate_dst (N := 4) rfl ?_); refine box_event ?hg (N := 4) ?hd (cs := #[.int .u64 0, .int .u64 0, .int .u64 0, .int .u64 0, .slice none 0 0, .slice none 0 0]) (t := 26) ?hr ?_; (case hd => rfl); (case hg => rfl); (case hr => first | (go_simp; done) | (go_simp; rfl)); intro gb511 hg w7 hbox hb; have n0_ := Aside0.mk (below_step (by repeat (first | (with_reducible first | exact HB.out | apply below_alloc | apply pw_below_drewN | apply below_drew1) | exact HB.out)) hb); have n1_ := Aside0.mk (hbox); have n2_ := Aside0.mk ((by rw [hg]; exact (below_size (by repeat (first | (with_reducible first | exact HB.out | apply below_alloc | apply pw_below_drewN | apply below_drew1) | exact HB.out))) : w.heap.size ≤ gb511)); have n3_ := Aside0.mk ((by rw [hg]; exact (below_size (by repeat (first | (with_reducible first | exact HB.out | apply below_alloc | apply pw_below_drewN | apply below_drew1) | exact HB.out))) : w.heap.size ≤ gb511)); clear HB; have HB := n0_; have BK511 := n1_; have GW511 := n2_; have GE511 := n3_; clear n0_ n1_ n2_ n3_; clear hb hbox hg; have hcz8_0 : w7.cell? ⟨gb511, 0, none⟩ = some (.int .u64 0) := (blk_cell BK511.out 0).trans rfl; have hcz8_1 : w7.cell? ⟨gb511, 1, none⟩ = some (.int .u64 0) := (blk_cell BK511.out 1).trans rfl; have hcz8_2 : w7.cell? ⟨gb511, 2, none⟩ = some (.int .u64 0) := (blk_cell BK511.out 2).trans rfl; have hcz8_3 : w7.cell? ⟨gb511, 3, none⟩ = some (.int .u64 0) := (blk_cell BK511.out 3).trans rfl; have hcz8_4 : w7.cell? ⟨gb511, 4, none⟩ = some (.slice none 0 0) := (blk_cell BK511.out 4).trans rfl; have hcz8_5 : w7.cell? ⟨gb511, 5, none⟩ = some (.slice none 0 0) := (blk_cell BK511.out 5).trans rfl; have hfz8_0 := blk_frozen BK511.out 0; have hfz8_1 := blk_frozen BK511.out 1; have hfz8_2 := blk_frozen BK511.out 2; have hfz8_3 := blk_frozen BK511.out 3; have hfz8_4 := blk_frozen BK511.out 4; have hfz8_5 := blk_frozen BK511.out 5) | ((with_reducible refine gate_callee (f := 54) rfl ?_); refine goesL_ (some 12) rfl rfl Try.func54 (by kernel_rfl) rfl #[.agg #[.int .u64 ((rd_T26 l0 x7_1).f0), .int .u64 ((rd_T26 l0 x7_1).f1), .int .u64 ((rd_T26 l0 x7_1).f2), .int .u64 ((rd_T26 l0 x7_1).f3), .slice A510_4 ((rd_T26 l0 x7_1).f4).length c510_4, .slice A510_5 ((rd_T26 l0 x7_1).f5).length c510_5]] rfl (by (try simp only [List.map_toArray, List.map_cons, List.map_nil]); first | done | rfl | (simp only [List.length_drop, List.length_take]; rfl)) ?_; (with_reducible refine (conductorref10_Right.calls k1 ((rd_T26 l0 x7_1).f0) ((rd_T26 l0 x7_1).f1) ((rd_T26 l0 x7_1).f2) ((rd_T26 l0 x7_1).f3) _ _ ((rd_T26 l0 x7_1).f4) _ _ ((rd_T26 l0 x7_1).f5) true _ ?side1 ?side2 ?side3 ?side4 A5.out).mono ?_); (case side1 => exact Kd.C_below HR510_4.out (by repeat (first | (with_reducible first | exact HB.out | apply below_alloc | apply pw_below_drewN | apply below_drew1 | refine below_set ?_ GE511.out) | exact HB.out))); (case side2 => exact HC510_4.out); (case side3 => exact Kd.C_below HR510_5.out (by repeat (first | (with_reducible first | exact HB.out | apply below_alloc | apply pw_below_drewN | apply below_drew1 | refine below_set ?_ GE511.out) | exact HB.out))); (case side4 => exact HC510_5.out); rintro e w9 ⟨rfl, hb⟩; refine ⟨_, rfl, ?_⟩; have n0_ := Aside0.mk (blk_below (g := gb511) (o := .cells #[.int .u64 ((rd_T26 l0 x7_1).f0), .int .u64 ((rd_T26 l0 x7_1).f1), .int .u64 ((rd_T26 l0 x7_1).f2), .int .u64 ((rd_T26 l0 x7_1).f3), .slice A510_4 ((rd_T26 l0 x7_1).f4).length c510_4, .slice A510_5 ((rd_T26 l0 x7_1).f5).length c510_5] 26 (0, 0)) (by (with_reducible repeat (first | refine blk_drewN ?_ _ | refine blk_drew ?_ | refine blk_alloc ?_ _)); refine blk_put (cs := #[.int .u64 ((rd_T26 l0 x7_1).f0), .int .u64 ((rd_T26 l0 x7_1).f1), .int .u64 ((rd_T26 l0 x7_1).f2), .int .u64 ((rd_T26 l0 x7_1).f3), .slice A510_4 ((rd_T26 l0 x7_1).f4).length c510_4, .slice none 0 0]) ?_ 5 _ rfl; (with_reducible repeat (first | refine blk_drewN ?_ _ | refine blk_drew ?_ | refine blk_alloc ?_ _)); refine blk_put (cs := #[.int .u64 ((rd_T26 l0 x7_1).f0), .int .u64 ((rd_T26 l0 x7_1).f1), .int .u64 ((rd_T26 l0 x7_1).f2), .int .u64 ((rd_T26 l0 x7_1).f3), .slice none 0 0, .slice none 0 0]) ?_ 4 _ rfl; (with_reducible repeat (first | refine blk_drewN ?_ _ | refine blk_drew ?_ | refine blk_alloc ?_ _)); refine blk_put (cs := #[.int .u64 ((rd_T26 l0 x7_1).f0), .int .u64 ((rd_T26 l0 x7_1).f1), .int .u64 ((rd_T26 l0 x7_1).f2), .int .u64 0, .slice none 0 0, .slice none 0 0]) ?_ 3 _ rfl; (with_reducible repeat (first | refine blk_drewN ?_ _ | refine blk_drew ?_ | refine blk_alloc ?_ _)); refine blk_put (cs := #[.int .u64 ((rd_T26 l0 x7_1).f0), .int .u64 ((rd_T26 l0 x7_1).f1), .int .u64 0, .int .u64 0, .slice none 0 0, .slice none 0 0]) ?_ 2 _ rfl; (with_reducible repeat (first | refine blk_drewN ?_ _ | refine blk_drew ?_ | refine blk_alloc ?_ _)); refine blk_put (cs := #[.int .u64 ((rd_T26 l0 x7_1).f0), .int .u64 0, .int .u64 0, .int .u64 0, .slice none 0 0, .slice none 0 0]) ?_ 1 _ rfl; (with_reducible repeat (first | refine blk_drewN ?_ _ | refine blk_drew ?_ | refine blk_alloc ?_ _)); refine blk_put (cs := #[.int .u64 0, .int .u64 0, .int .u64 0, .int .u64 0, .slice none 0 0, .slice none 0 0]) ?_ 0 _ rfl; (with_reducible repeat (first | refine blk_drewN ?_ _ | refine blk_drew ?_ | refine blk_alloc ?_ _)); exact BK511.out) hb); have n1_ := Aside0.mk (below_step (by repeat (first | (with_reducible first | exact HB.out | apply below_alloc | apply pw_below_drewN | apply below_drew1 | refine below_set ?_ GE511.out) | exact HB.out)) hb); clear BK511; clear HB; have BK511 := n0_; have HB := n1_; clear n0_ n1_; (try clear hb); (try clear hb2); (try clear hk); (try clear hi)))
       go_roundg k1
       case measure => have := HK1.out; omega
       case rel => exact ⟨(wrap64 (x7_1 + 1)), (by first | rfl | (simp; done) | (simp [*]; done)), H', ⟨by have := HK1.out; omega⟩, ⟨by repeat (first | (with_reducible first | exact HB.out | apply below_alloc | apply pw_below_drewN | apply below_drew1 | refine below_set ?_ GE511.out) | exact HB.out)⟩⟩
      ·replace c6 := Bool.eq_false_iff.mpr c6
       subst c6
       have H1 : (some false) = some r := by rw [if_neg (show ¬ (false = true) by decide)] at H; exact H
       clear H
       have H := H1
       clear H1
       obtain rfl := Option.some.inj H
       have p510 : 0 ≤ (x7_1 : Int) := of_decide_eq_true (by first | (with_reducible assumption) | assumption)
       have q510 : x7_1 < (l0.length : Int) := of_decide_eq_true (by first | (with_reducible assumption) | assumption)
       obtain ⟨ad510, A510_4, c510_4, A510_5, c510_5, e510, hx510_0, hx510_1, hx510_2, hx510_3, hx510_4, hx510_5, hl510_4, hi510_4, hl510_5, hi510_5⟩ := at_T26 HR0.out x7_1 p510 q510
       cases e510
       replace hx510_0 := (HB.out.cell (World.block_lt_of_cell? w _ hx510_0)).trans hx510_0
       replace hx510_1 := (HB.out.cell (World.block_lt_of_cell? w _ hx510_1)).trans hx510_1
       replace hx510_2 := (HB.out.cell (World.block_lt_of_cell? w _ hx510_2)).trans hx510_2
       replace hx510_3 := (HB.out.cell (World.block_lt_of_cell? w _ hx510_3)).trans hx510_3
       replace hx510_4 := (HB.out.cell (World.block_lt_of_cell? w _ hx510_4)).trans hx510_4
       replace hx510_5 := (HB.out.cell (World.block_lt_of_cell? w _ hx510_5)).trans hx510_5
       have HR510_4 := Aside0.mk hi510_4
       have HC510_4 := Aside0.mk hl510_4
       clear hi510_4 hl510_4
       have HR510_5 := Aside0.mk hi510_5
       have HC510_5 := Aside0.mk hl510_5
       clear hi510_5 hl510_5
       replace p510 := eq_true p510
       replace q510 := eq_true q510
       go_wp2_with (first | ((with_reducible refine gate_dst (N := 4) rfl ?_); refine box_event ?hg (N := 4) ?hd (cs := #[.int .u64 0, .int .u64 0, .int .u64 0, .int .u64 0, .slice none 0 0, .slice none 0 0]) (t := 26) ?hr ?_; (case hd => rfl); (case hg => rfl); (case hr => first | (go_simp; done) | (go_simp; rfl)); intro gb511 hg w10 hbox hb; have n0_ := Aside0.mk (below_step (by repeat (first | (with_reducible first | exact HB.out | apply below_alloc | apply pw_below_drewN | apply below_drew1) | exact HB.out)) hb); have n1_ := Aside0.mk (hbox); have n2_ := Aside0.mk ((by rw [hg]; exact (below_size (by repeat (first | (with_reducible first | exact HB.out | apply below_alloc | apply pw_below_drewN | apply below_drew1) | exact HB.out))) : w.heap.size ≤ gb511)); have n3_ := Aside0.mk ((by rw [hg]; exact (below_size (by repeat (first | (with_reducible first | exact HB.out | apply below_alloc | apply pw_below_drewN | apply below_drew1) | exact HB.out))) : w.heap.size ≤ gb511)); clear HB; have HB := n0_; have BK511 := n1_; have GW511 := n2_; have GE511 := n3_; clear n0_ n1_ n2_ n3_; clear hb hbox hg; have hcz11_0 : w10.cell? ⟨gb511, 0, none⟩ = some (.int .u64 0) := (blk_cell BK511.out 0).trans rfl; have hcz11_1 : w10.cell? ⟨gb511, 1, none⟩ = some (.int .u64 0) := (blk_cell BK511.out 1).trans rfl; have hcz11_2 : w10.cell? ⟨gb511, 2, none⟩ = some (.int .u64 0) := (blk_cell BK511.out 2).trans rfl; have hcz11_3 : w10.cell? ⟨gb511, 3, none⟩ = some (.int .u64 0) := (blk_cell BK511.out 3).trans rfl; have hcz11_4 : w10.cell? ⟨gb511, 4, none⟩ = some (.slice none 0 0) := (blk_cell BK511.out 4).trans rfl; have hcz11_5 : w10.cell? ⟨gb511, 5, none⟩ = some (.slice none 0 0) := (blk_cell BK511.out 5).trans rfl; have hfz11_0 := blk_frozen BK511.out 0; have hfz11_1 := blk_frozen BK511.out 1; have hfz11_2 := blk_frozen BK511.out 2; have hfz11_3 := blk_frozen BK511.out 3; have hfz11_4 := blk_frozen BK511.out 4; have hfz11_5 := blk_frozen BK511.out 5) | ((with_reducible refine gate_callee (f := 54) rfl ?_); refine goesL_ (some 12) rfl rfl Try.func54 (by kernel_rfl) rfl #[.agg #[.int .u64 ((rd_T26 l0 x7_1).f0), .int .u64 ((rd_T26 l0 x7_1).f1), .int .u64 ((rd_T26 l0 x7_1).f2), .int .u64 ((rd_T26 l0 x7_1).f3), .slice A510_4 ((rd_T26 l0 x7_1).f4).length c510_4, .slice A510_5 ((rd_T26 l0 x7_1).f5).length c510_5]] rfl (by (try simp only [List.map_toArray, List.map_cons, List.map_nil]); first | done | rfl | (simp only [List.length_drop, List.length_take]; rfl)) ?_; (with_reducible refine (conductorref10_Right.calls k1 ((rd_T26 l0 x7_1).f0) ((rd_T26 l0 x7_1).f1) ((rd_T26 l0 x7_1).f2) ((rd_T26 l0 x7_1).f3) _ _ ((rd_T26 l0 x7_1).f4) _ _ ((rd_T26 l0 x7_1).f5) false _ ?side1 ?side2 ?side3 ?side4 A5.out).mono ?_); (case side1 => exact Kd.C_below HR510_4.out (by repeat (first | (with_reducible first | exact HB.out | apply below_alloc | apply pw_below_drewN | apply below_drew1 | refine below_set ?_ GE511.out) | exact HB.out))); (case side2 => exact HC510_4.out); (case side3 => exact Kd.C_below HR510_5.out (by repeat (first | (with_reducible first | exact HB.out | apply below_alloc | apply pw_below_drewN | apply below_drew1 | refine below_set ?_ GE511.out) | exact HB.out))); (case side4 => exact HC510_5.out); rintro e w12 ⟨rfl, hb⟩; refine ⟨_, rfl, ?_⟩; have n0_ := Aside0.mk (blk_below (g := gb511) (o := .cells #[.int .u64 ((rd_T26 l0 x7_1).f0), .int .u64 ((rd_T26 l0 x7_1).f1), .int .u64 ((rd_T26 l0 x7_1).f2), .int .u64 ((rd_T26 l0 x7_1).f3), .slice A510_4 ((rd_T26 l0 x7_1).f4).length c510_4, .slice A510_5 ((rd_T26 l0 x7_1).f5).length c510_5] 26 (0, 0)) (by (with_reducible repeat (first | refine blk_drewN ?_ _ | refine blk_drew ?_ | refine blk_alloc ?_ _)); refine blk_put (cs := #[.int .u64 ((rd_T26 l0 x7_1).f0), .int .u64 ((rd_T26 l0 x7_1).f1), .int .u64 ((rd_T26 l0 x7_1).f2), .int .u64 ((rd_T26 l0 x7_1).f3), .slice A510_4 ((rd_T26 l0 x7_1).f4).length c510_4, .slice none 0 0]) ?_ 5 _ rfl; (with_reducible repeat (first | refine blk_drewN ?_ _ | refine blk_drew ?_ | refine blk_alloc ?_ _)); refine blk_put (cs := #[.int .u64 ((rd_T26 l0 x7_1).f0), .int .u64 ((rd_T26 l0 x7_1).f1), .int .u64 ((rd_T26 l0 x7_1).f2), .int .u64 ((rd_T26 l0 x7_1).f3), .slice none 0 0, .slice none 0 0]) ?_ 4 _ rfl; (with_reducible repeat (first | refine blk_drewN ?_ _ | refine blk_drew ?_ | refine blk_alloc ?_ _)); refine blk_put (cs := #[.int .u64 ((rd_T26 l0 x7_1).f0), .int .u64 ((rd_T26 l0 x7_1).f1), .int .u64 ((rd_T26 l0 x7_1).f2), .int .u64 0, .slice none 0 0, .slice none 0 0]) ?_ 3 _ rfl; (with_reducible repeat (first | refine blk_drewN ?_ _ | refine blk_drew ?_ | refine blk_alloc ?_ _)); refine blk_put (cs := #[.int .u64 ((rd_T26 l0 x7_1).f0), .int .u64 ((rd_T26 l0 x7_1).f1), .int .u64 0, .int .u64 0, .slice none 0 0, .slice none 0 0]) ?_ 2 _ rfl; (with_reducible repeat (first | refine blk_drewN ?_ _ | refine blk_drew ?_ | refine blk_alloc ?_ _)); refine blk_put (cs := #[.int .u64 ((rd_T26 l0 x7_1).f0), .int .u64 0, .int .u64 0, .int .u64 0, .slice none 0 0, .slice none 0 0]) ?_ 1 _ rfl; (with_reducible repeat (first | refine blk_drewN ?_ _ | refine blk_drew ?_ | refine blk_alloc ?_ _)); refine blk_put (cs := #[.int .u64 0, .int .u64 0, .int .u64 0, .int .u64 0, .slice none 0 0, .slice none 0 0]) ?_ 0 _ rfl; (with_reducible repeat (first | refine blk_drewN ?_ _ | refine blk_drew ?_ | refine blk_alloc ?_ _)); exact BK511.out) hb); have n1_ := Aside0.mk (below_step (by repeat (first | (with_reducible first | exact HB.out | apply below_alloc | apply pw_below_drewN | apply below_drew1 | refine below_set ?_ GE511.out) | exact HB.out)) hb); clear BK511; clear HB; have BK511 := n0_; have HB := n1_; clear n0_ n1_; (try clear hb); (try clear hb2); (try clear hk); (try clear hi)))
       go_ret
       exact ⟨by first | rfl | (simp [errW_none, errW_some] <;> rfl) | (simp [*, errW_none, errW_some] <;> rfl), by repeat (first | (with_reducible first | exact HB.out | apply below_alloc | apply pw_below_drewN | apply below_drew1 | refine below_set ?_ GE511.out) | exact HB.out)⟩
     ·rw [if_neg c4] at H
      exact absurd H (by simp)
    ·rw [if_neg c3] at H
     exact absurd H (by simp)
   ·rw [if_neg c2] at H
    have c2b0 : decide (x7_1 < (l0.length : Int)) = false := decide_eq_false c2
    clear c2
    obtain rfl := Option.some.inj H
    go_wp2
    go_ret
    exact ⟨by first | rfl | (simp [errW_none, errW_some] <;> rfl) | (simp [*, errW_none, errW_some] <;> rfl), by repeat (first | (with_reducible first | exact HB.out | apply below_alloc | apply pw_below_drewN | apply below_drew1) | exact HB.out)⟩
end Go.Proofs.Ytjefihcbhdennaa.S
