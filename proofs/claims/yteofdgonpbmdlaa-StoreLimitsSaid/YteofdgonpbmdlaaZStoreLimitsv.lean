/- Texts of this session, merged for the law StoreLimits: C30, C35, TU, TV, PE, UB, PG, PH, UJ. No condition. -/
import Derived.Test.YteofdgonpbmdlaaZStoreLimitso
import Derived.Test.YteofdgonpbmdlaaZStoreLimitsu
import Derived.Laws.IdiomStrings
import Derived.Test.YteofdgonpbmdlaaZStoreLimitst
import Derived.Test.YteofdgonpbmdlaaZStoreLimitsp
set_option linter.unusedVariables false
set_option linter.unusedSimpArgs false
namespace Go.Proofs.Yteofdgonpbmdlaa.C
open Go.RowKit Go.Proofs.YteofdgonpbmdlaaW.PrintWords Go.Proofs.YteofdgonpbmdlaaW.PrintLast Go.Proofs.YteofdgonpbmdlaaW.PrintMore
attribute [local go_sem] max2_int min2_int max2_str min2_str str_leq str_gtr str_geq max_two min_two max_three min_three max_four min_four   -- for this text's walks alone
set_option linter.unusedVariables false
set_option linter.unusedSimpArgs false
def conductorlaw08_Big.f  : Option (Int × Int × Int × Int × Int × Int × Int) := some (1000, 10000, 1048576, 1000, 1000, 16, 1099511627776)
set_option maxHeartbeats 8000000 in
set_option maxRecDepth 100000 in
theorem conductorlaw08_Big.calls  (r1 : Int) (r2 : Int) (r3 : Int) (r4 : Int) (r5 : Int) (r6 : Int) (r7 : Int) (w : World) (h : conductorlaw08_Big.f  = some (r1, r2, r3, r4, r5, r6, r7)) :
  Calls Try.prog 40 #[] w fun e w' => e = .returned (.agg #[.int .i64 r1, .int .i64 r2, .int .i64 r3, .int .i64 r4, .int .i64 r5, .int .i64 r6, .int .u64 r7]) ∧ Below w.heap.size w w' := by
 have hu51 := Try.underlying51
 have HB := Aside0.mk (Below.refl w.heap.size w)
 have H : (some (1000, 10000, 1048576, 1000, 1000, 16, 1099511627776)) = some (r1, r2, r3, r4, r5, r6, r7) := h
 clear h
 simp only [Option.some.injEq, Prod.mk.injEq] at H
 obtain ⟨rfl, rfl, rfl, rfl, rfl, rfl, rfl⟩ := H
 go_enter Try.func40, Try.ntmps40
 go_wp2_with (first | ((with_reducible refine gate_dst (N := 0) rfl ?_); refine box_event ?hg (N := 0) ?hd (cs := #[.int .i64 0, .int .i64 0, .int .i64 0, .int .i64 0, .int .i64 0, .int .i64 0, .int .u64 0]) (t := 51) ?hr ?_; (case hd => rfl); (case hg => rfl); (case hr => first | (go_simp; done) | (go_simp; rfl)); intro gb390 hg w1 hbox hb; have n0_ := Aside0.mk (below_step (by repeat (first | (with_reducible first | exact HB.out | apply below_alloc | apply pw_below_drewN | apply below_drew1) | exact HB.out)) hb); have n1_ := Aside0.mk (hbox); have n2_ := Aside0.mk ((by rw [hg]; exact (below_size (by repeat (first | (with_reducible first | exact HB.out | apply below_alloc | apply pw_below_drewN | apply below_drew1) | exact HB.out))) : w.heap.size ≤ gb390)); have n3_ := Aside0.mk ((by rw [hg]; exact (below_size (by repeat (first | (with_reducible first | exact HB.out | apply below_alloc | apply pw_below_drewN | apply below_drew1) | exact HB.out))) : w.heap.size ≤ gb390)); clear HB; have HB := n0_; have BK390 := n1_; have GW390 := n2_; have GE390 := n3_; clear n0_ n1_ n2_ n3_; clear hb hbox hg; have hcz2_0 : w1.cell? ⟨gb390, 0, none⟩ = some (.int .i64 0) := (blk_cell BK390.out 0).trans rfl; have hcz2_1 : w1.cell? ⟨gb390, 1, none⟩ = some (.int .i64 0) := (blk_cell BK390.out 1).trans rfl; have hcz2_2 : w1.cell? ⟨gb390, 2, none⟩ = some (.int .i64 0) := (blk_cell BK390.out 2).trans rfl; have hcz2_3 : w1.cell? ⟨gb390, 3, none⟩ = some (.int .i64 0) := (blk_cell BK390.out 3).trans rfl; have hcz2_4 : w1.cell? ⟨gb390, 4, none⟩ = some (.int .i64 0) := (blk_cell BK390.out 4).trans rfl; have hcz2_5 : w1.cell? ⟨gb390, 5, none⟩ = some (.int .i64 0) := (blk_cell BK390.out 5).trans rfl; have hcz2_6 : w1.cell? ⟨gb390, 6, none⟩ = some (.int .u64 0) := (blk_cell BK390.out 6).trans rfl; have hfz2_0 := blk_frozen BK390.out 0; have hfz2_1 := blk_frozen BK390.out 1; have hfz2_2 := blk_frozen BK390.out 2; have hfz2_3 := blk_frozen BK390.out 3; have hfz2_4 := blk_frozen BK390.out 4; have hfz2_5 := blk_frozen BK390.out 5; have hfz2_6 := blk_frozen BK390.out 6))
 refine bodyPost_ret (results_cell_row rfl _ _ gb390 51 #[.int .i64 1000, .int .i64 10000, .int .i64 1048576, .int .i64 1000, .int .i64 1000, .int .i64 16, .int .u64 1099511627776] (0, 0) _ rfl (by (with_reducible repeat (first | refine blk_drewN ?_ _ | refine blk_drew ?_ | refine blk_alloc ?_ _)); refine blk_put (cs := #[.int .i64 1000, .int .i64 10000, .int .i64 1048576, .int .i64 1000, .int .i64 1000, .int .i64 16, .int .u64 0]) ?_ 6 _ rfl; (with_reducible repeat (first | refine blk_drewN ?_ _ | refine blk_drew ?_ | refine blk_alloc ?_ _)); refine blk_put (cs := #[.int .i64 1000, .int .i64 10000, .int .i64 1048576, .int .i64 1000, .int .i64 1000, .int .i64 0, .int .u64 0]) ?_ 5 _ rfl; (with_reducible repeat (first | refine blk_drewN ?_ _ | refine blk_drew ?_ | refine blk_alloc ?_ _)); refine blk_put (cs := #[.int .i64 1000, .int .i64 10000, .int .i64 1048576, .int .i64 1000, .int .i64 0, .int .i64 0, .int .u64 0]) ?_ 4 _ rfl; (with_reducible repeat (first | refine blk_drewN ?_ _ | refine blk_drew ?_ | refine blk_alloc ?_ _)); refine blk_put (cs := #[.int .i64 1000, .int .i64 10000, .int .i64 1048576, .int .i64 0, .int .i64 0, .int .i64 0, .int .u64 0]) ?_ 3 _ rfl; (with_reducible repeat (first | refine blk_drewN ?_ _ | refine blk_drew ?_ | refine blk_alloc ?_ _)); refine blk_put (cs := #[.int .i64 1000, .int .i64 10000, .int .i64 0, .int .i64 0, .int .i64 0, .int .i64 0, .int .u64 0]) ?_ 2 _ rfl; (with_reducible repeat (first | refine blk_drewN ?_ _ | refine blk_drew ?_ | refine blk_alloc ?_ _)); refine blk_put (cs := #[.int .i64 1000, .int .i64 0, .int .i64 0, .int .i64 0, .int .i64 0, .int .i64 0, .int .u64 0]) ?_ 1 _ rfl; (with_reducible repeat (first | refine blk_drewN ?_ _ | refine blk_drew ?_ | refine blk_alloc ?_ _)); refine blk_put (cs := #[.int .i64 0, .int .i64 0, .int .i64 0, .int .i64 0, .int .i64 0, .int .i64 0, .int .u64 0]) ?_ 0 _ rfl; (with_reducible repeat (first | refine blk_drewN ?_ _ | refine blk_drew ?_ | refine blk_alloc ?_ _)); exact BK390.out) Try.underlying51 rfl (by kernel_rfl)) rfl ?_
 exact ⟨by first | rfl | (simp [errW_none, errW_some] <;> rfl) | (simp [*, errW_none, errW_some] <;> rfl), by repeat (first | (with_reducible first | exact HB.out | apply below_alloc | apply pw_below_drewN | apply below_drew1 | refine below_set ?_ GE390.out) | exact HB.out)⟩
-- NOT PRINTED: function 70 (store_Store_is)
-- NOT PRINTED: function 72 (store_Store_chain)
-- NOT PRINTED: function 43 (store_Store_Read)
-- NOT PRINTED: function 49 (store_Store_Collect)
-- NOT PRINTED: function 74 (slices_Clone_string_string)
-- NOT PRINTED: function 50 (store_Store_Keys)
-- NOT PRINTED: function 52 (store_New)
-- NOT PRINTED: function 42 (store_Store_Scan)
-- NOT PRINTED: function 62 (store_Store_Latest)
-- NOT PRINTED: function 41 (conductorlaw08_does)
-- NOT PRINTED: function 44 (store_Store_Now)
def conductorref08_room.f (a0 : Int) : Option (Bool) := if a0 ≥ 1 then (some (decide (a0 ≤ 1048576))) else (some false)
set_option maxHeartbeats 8000000 in
set_option maxRecDepth 100000 in
theorem conductorref08_room.calls (a0 : Int) (r : Bool) (w : World) (h : conductorref08_room.f a0 = some r) :
  Calls Try.prog 73 #[.int .i64 a0] w fun e w' => e = .returned (.bool r) ∧ Drawn0 w w' := by
 have H : (if a0 ≥ 1 then (some (decide (a0 ≤ 1048576))) else (some false)) = some r := h
 clear h
 by_cases c2 : a0 ≥ 1
 ·rw [if_pos c2] at H
  have c2b0 : decide (1 ≤ a0) = true := decide_eq_true c2
  clear c2
  obtain rfl := Option.some.inj H
  go_enter Try.func73, Try.ntmps73
  go_wp2
  go_ret
  exact ⟨by first | rfl | (simp; done) | (simp [*]; done), by repeat (first | exact Drawn0.refl _ | apply Drawn0.step)⟩
 ·rw [if_neg c2] at H
  have c2b0 : decide (1 ≤ a0) = false := decide_eq_false c2
  clear c2
  obtain rfl := Option.some.inj H
  go_enter Try.func73, Try.ntmps73
  go_wp2
  go_ret
  exact ⟨by first | rfl | (simp; done) | (simp [*]; done), by repeat (first | exact Drawn0.refl _ | apply Drawn0.step)⟩
def conductorref08_May.f (a0_0 : Int) (a0_1 : Int) (a0_2 : Int) (a0_3 : Int) (a0_4 : Int) (a0_5 : Int) (a0_6 : Int) : Option (Bool) := (conductorref08_room.f a0_0).bind fun t422 => (if t422 = true then ((conductorref08_room.f a0_1).bind fun t423 => (if t423 = true then ((conductorref08_room.f a0_2).bind fun t424 => (if t424 = true then (some (decide (a0_6 ≥ 1))) else (some false))) else (some false))) else (some false))
set_option maxHeartbeats 8000000 in
set_option maxRecDepth 100000 in
theorem conductorref08_May.calls (a0_0 : Int) (a0_1 : Int) (a0_2 : Int) (a0_3 : Int) (a0_4 : Int) (a0_5 : Int) (a0_6 : Int) (r : Bool) (w : World) (h : conductorref08_May.f a0_0 a0_1 a0_2 a0_3 a0_4 a0_5 a0_6 = some r) :
  Calls Try.prog 46 #[.agg #[.int .i64 a0_0, .int .i64 a0_1, .int .i64 a0_2, .int .i64 a0_3, .int .i64 a0_4, .int .i64 a0_5, .int .u64 a0_6]] w fun e w' => e = .returned (.bool r) ∧ Below w.heap.size w w' := by
 have hu51 := Try.underlying51
 have HB := Aside0.mk (Below.refl w.heap.size w)
 have H : ((conductorref08_room.f a0_0).bind fun t422 => (if t422 = true then ((conductorref08_room.f a0_1).bind fun t423 => (if t423 = true then ((conductorref08_room.f a0_2).bind fun t424 => (if t424 = true then (some (decide (a0_6 ≥ 1))) else (some false))) else (some false))) else (some false))) = some r := h
 clear h
 replace H := Option.bind_eq_some_iff.mp H
 obtain ⟨t422, A20, H⟩ := H
 replace H : (if t422 = true then ((conductorref08_room.f a0_1).bind fun t423 => (if t423 = true then ((conductorref08_room.f a0_2).bind fun t424 => (if t424 = true then (some (decide (a0_6 ≥ 1))) else (some false))) else (some false))) else (some false)) = some r := H
 have A2 := Aside0.mk A20
 clear A20
 by_cases c3 : t422 = true
 ·subst c3
  have H1 : ((conductorref08_room.f a0_1).bind fun t423 => (if t423 = true then ((conductorref08_room.f a0_2).bind fun t424 => (if t424 = true then (some (decide (a0_6 ≥ 1))) else (some false))) else (some false))) = some r := by rw [if_pos rfl] at H; exact H
  clear H
  have H := H1
  clear H1
  replace H := Option.bind_eq_some_iff.mp H
  obtain ⟨t423, A40, H⟩ := H
  replace H : (if t423 = true then ((conductorref08_room.f a0_2).bind fun t424 => (if t424 = true then (some (decide (a0_6 ≥ 1))) else (some false))) else (some false)) = some r := H
  have A4 := Aside0.mk A40
  clear A40
  by_cases c5 : t423 = true
  ·subst c5
   have H1 : ((conductorref08_room.f a0_2).bind fun t424 => (if t424 = true then (some (decide (a0_6 ≥ 1))) else (some false))) = some r := by rw [if_pos rfl] at H; exact H
   clear H
   have H := H1
   clear H1
   replace H := Option.bind_eq_some_iff.mp H
   obtain ⟨t424, A60, H⟩ := H
   replace H : (if t424 = true then (some (decide (a0_6 ≥ 1))) else (some false)) = some r := H
   have A6 := Aside0.mk A60
   clear A60
   by_cases c7 : t424 = true
   ·subst c7
    have H1 : (some (decide (a0_6 ≥ 1))) = some r := by rw [if_pos rfl] at H; exact H
    clear H
    have H := H1
    clear H1
    obtain rfl := Option.some.inj H
    go_enter Try.func46, Try.ntmps46
    go_wp2_with (first | ((with_reducible refine gate_dst (N := 1) rfl ?_); refine box_event ?hg (N := 1) ?hd (cs := #[.int .i64 a0_0, .int .i64 a0_1, .int .i64 a0_2, .int .i64 a0_3, .int .i64 a0_4, .int .i64 a0_5, .int .u64 a0_6]) (t := 51) ?hr ?_; (case hd => rfl); (case hg => rfl); (case hr => first | (go_simp; done) | (go_simp; rfl)); intro gb421 hg w8 hbox hb; have n0_ := Aside0.mk (below_step (by repeat (first | (with_reducible first | exact HB.out | apply below_alloc | apply pw_below_drewN | apply below_drew1) | exact HB.out)) hb); have n1_ := Aside0.mk (hbox); have n2_ := Aside0.mk ((by rw [hg]; exact (below_size (by repeat (first | (with_reducible first | exact HB.out | apply below_alloc | apply pw_below_drewN | apply below_drew1) | exact HB.out))) : w.heap.size ≤ gb421)); have n3_ := Aside0.mk ((by rw [hg]; exact (below_size (by repeat (first | (with_reducible first | exact HB.out | apply below_alloc | apply pw_below_drewN | apply below_drew1) | exact HB.out))) : w.heap.size ≤ gb421)); clear HB; have HB := n0_; have BK421 := n1_; have GW421 := n2_; have GE421 := n3_; clear n0_ n1_ n2_ n3_; clear hb hbox hg; have hcz9_0 : w8.cell? ⟨gb421, 0, none⟩ = some (.int .i64 a0_0) := (blk_cell BK421.out 0).trans rfl; have hcz9_1 : w8.cell? ⟨gb421, 1, none⟩ = some (.int .i64 a0_1) := (blk_cell BK421.out 1).trans rfl; have hcz9_2 : w8.cell? ⟨gb421, 2, none⟩ = some (.int .i64 a0_2) := (blk_cell BK421.out 2).trans rfl; have hcz9_3 : w8.cell? ⟨gb421, 3, none⟩ = some (.int .i64 a0_3) := (blk_cell BK421.out 3).trans rfl; have hcz9_4 : w8.cell? ⟨gb421, 4, none⟩ = some (.int .i64 a0_4) := (blk_cell BK421.out 4).trans rfl; have hcz9_5 : w8.cell? ⟨gb421, 5, none⟩ = some (.int .i64 a0_5) := (blk_cell BK421.out 5).trans rfl; have hcz9_6 : w8.cell? ⟨gb421, 6, none⟩ = some (.int .u64 a0_6) := (blk_cell BK421.out 6).trans rfl; have hfz9_0 := blk_frozen BK421.out 0; have hfz9_1 := blk_frozen BK421.out 1; have hfz9_2 := blk_frozen BK421.out 2; have hfz9_3 := blk_frozen BK421.out 3; have hfz9_4 := blk_frozen BK421.out 4; have hfz9_5 := blk_frozen BK421.out 5; have hfz9_6 := blk_frozen BK421.out 6) | ((with_reducible refine gate_callee (f := 73) rfl ?_); refine goesL_ (some 5) rfl rfl Try.func73 (by kernel_rfl) rfl #[.int .i64 a0_0] rfl (by (try simp only [List.map_toArray, List.map_cons, List.map_nil]); first | done | rfl | (simp only [List.length_drop, List.length_take]; rfl)) ?_; (with_reducible refine (conductorref08_room.calls a0_0 true _ A2.out).mono ?_); rintro e w' ⟨rfl, ⟨nd, rfl⟩⟩; refine ⟨_, rfl, ?_⟩) | (go_at_call 73; (with_reducible refine (conductorref08_room.calls a0_1 true _ A4.out).mono ?_); rintro e w' ⟨rfl, ⟨nd, rfl⟩⟩) | (go_at_call 73; (with_reducible refine (conductorref08_room.calls a0_2 true _ A6.out).mono ?_); rintro e w' ⟨rfl, ⟨nd, rfl⟩⟩))
    go_ret
    exact ⟨by first | rfl | (simp [errW_none, errW_some] <;> rfl) | (simp [*, errW_none, errW_some] <;> rfl), by repeat (first | (with_reducible first | exact HB.out | apply below_alloc | apply pw_below_drewN | apply below_drew1 | refine below_set ?_ GE421.out) | exact HB.out)⟩
   ·replace c7 := Bool.eq_false_iff.mpr c7
    subst c7
    have H1 : (some false) = some r := by rw [if_neg (show ¬ (false = true) by decide)] at H; exact H
    clear H
    have H := H1
    clear H1
    obtain rfl := Option.some.inj H
    go_enter Try.func46, Try.ntmps46
    go_wp2_with (first | ((with_reducible refine gate_dst (N := 1) rfl ?_); refine box_event ?hg (N := 1) ?hd (cs := #[.int .i64 a0_0, .int .i64 a0_1, .int .i64 a0_2, .int .i64 a0_3, .int .i64 a0_4, .int .i64 a0_5, .int .u64 a0_6]) (t := 51) ?hr ?_; (case hd => rfl); (case hg => rfl); (case hr => first | (go_simp; done) | (go_simp; rfl)); intro gb421 hg w10 hbox hb; have n0_ := Aside0.mk (below_step (by repeat (first | (with_reducible first | exact HB.out | apply below_alloc | apply pw_below_drewN | apply below_drew1) | exact HB.out)) hb); have n1_ := Aside0.mk (hbox); have n2_ := Aside0.mk ((by rw [hg]; exact (below_size (by repeat (first | (with_reducible first | exact HB.out | apply below_alloc | apply pw_below_drewN | apply below_drew1) | exact HB.out))) : w.heap.size ≤ gb421)); have n3_ := Aside0.mk ((by rw [hg]; exact (below_size (by repeat (first | (with_reducible first | exact HB.out | apply below_alloc | apply pw_below_drewN | apply below_drew1) | exact HB.out))) : w.heap.size ≤ gb421)); clear HB; have HB := n0_; have BK421 := n1_; have GW421 := n2_; have GE421 := n3_; clear n0_ n1_ n2_ n3_; clear hb hbox hg; have hcz11_0 : w10.cell? ⟨gb421, 0, none⟩ = some (.int .i64 a0_0) := (blk_cell BK421.out 0).trans rfl; have hcz11_1 : w10.cell? ⟨gb421, 1, none⟩ = some (.int .i64 a0_1) := (blk_cell BK421.out 1).trans rfl; have hcz11_2 : w10.cell? ⟨gb421, 2, none⟩ = some (.int .i64 a0_2) := (blk_cell BK421.out 2).trans rfl; have hcz11_3 : w10.cell? ⟨gb421, 3, none⟩ = some (.int .i64 a0_3) := (blk_cell BK421.out 3).trans rfl; have hcz11_4 : w10.cell? ⟨gb421, 4, none⟩ = some (.int .i64 a0_4) := (blk_cell BK421.out 4).trans rfl; have hcz11_5 : w10.cell? ⟨gb421, 5, none⟩ = some (.int .i64 a0_5) := (blk_cell BK421.out 5).trans rfl; have hcz11_6 : w10.cell? ⟨gb421, 6, none⟩ = some (.int .u64 a0_6) := (blk_cell BK421.out 6).trans rfl; have hfz11_0 := blk_frozen BK421.out 0; have hfz11_1 := blk_frozen BK421.out 1; have hfz11_2 := blk_frozen BK421.out 2; have hfz11_3 := blk_frozen BK421.out 3; have hfz11_4 := blk_frozen BK421.out 4; have hfz11_5 := blk_frozen BK421.out 5; have hfz11_6 := blk_frozen BK421.out 6) | ((with_reducible refine gate_callee (f := 73) rfl ?_); refine goesL_ (some 5) rfl rfl Try.func73 (by kernel_rfl) rfl #[.int .i64 a0_0] rfl (by (try simp only [List.map_toArray, List.map_cons, List.map_nil]); first | done | rfl | (simp only [List.length_drop, List.length_take]; rfl)) ?_; (with_reducible refine (conductorref08_room.calls a0_0 true _ A2.out).mono ?_); rintro e w' ⟨rfl, ⟨nd, rfl⟩⟩; refine ⟨_, rfl, ?_⟩) | (go_at_call 73; (with_reducible refine (conductorref08_room.calls a0_1 true _ A4.out).mono ?_); rintro e w' ⟨rfl, ⟨nd, rfl⟩⟩) | (go_at_call 73; (with_reducible refine (conductorref08_room.calls a0_2 false _ A6.out).mono ?_); rintro e w' ⟨rfl, ⟨nd, rfl⟩⟩))
    go_ret
    exact ⟨by first | rfl | (simp [errW_none, errW_some] <;> rfl) | (simp [*, errW_none, errW_some] <;> rfl), by repeat (first | (with_reducible first | exact HB.out | apply below_alloc | apply pw_below_drewN | apply below_drew1 | refine below_set ?_ GE421.out) | exact HB.out)⟩
  ·replace c5 := Bool.eq_false_iff.mpr c5
   subst c5
   have H1 : (some false) = some r := by rw [if_neg (show ¬ (false = true) by decide)] at H; exact H
   clear H
   have H := H1
   clear H1
   obtain rfl := Option.some.inj H
   go_enter Try.func46, Try.ntmps46
   go_wp2_with (first | ((with_reducible refine gate_dst (N := 1) rfl ?_); refine box_event ?hg (N := 1) ?hd (cs := #[.int .i64 a0_0, .int .i64 a0_1, .int .i64 a0_2, .int .i64 a0_3, .int .i64 a0_4, .int .i64 a0_5, .int .u64 a0_6]) (t := 51) ?hr ?_; (case hd => rfl); (case hg => rfl); (case hr => first | (go_simp; done) | (go_simp; rfl)); intro gb421 hg w12 hbox hb; have n0_ := Aside0.mk (below_step (by repeat (first | (with_reducible first | exact HB.out | apply below_alloc | apply pw_below_drewN | apply below_drew1) | exact HB.out)) hb); have n1_ := Aside0.mk (hbox); have n2_ := Aside0.mk ((by rw [hg]; exact (below_size (by repeat (first | (with_reducible first | exact HB.out | apply below_alloc | apply pw_below_drewN | apply below_drew1) | exact HB.out))) : w.heap.size ≤ gb421)); have n3_ := Aside0.mk ((by rw [hg]; exact (below_size (by repeat (first | (with_reducible first | exact HB.out | apply below_alloc | apply pw_below_drewN | apply below_drew1) | exact HB.out))) : w.heap.size ≤ gb421)); clear HB; have HB := n0_; have BK421 := n1_; have GW421 := n2_; have GE421 := n3_; clear n0_ n1_ n2_ n3_; clear hb hbox hg; have hcz13_0 : w12.cell? ⟨gb421, 0, none⟩ = some (.int .i64 a0_0) := (blk_cell BK421.out 0).trans rfl; have hcz13_1 : w12.cell? ⟨gb421, 1, none⟩ = some (.int .i64 a0_1) := (blk_cell BK421.out 1).trans rfl; have hcz13_2 : w12.cell? ⟨gb421, 2, none⟩ = some (.int .i64 a0_2) := (blk_cell BK421.out 2).trans rfl; have hcz13_3 : w12.cell? ⟨gb421, 3, none⟩ = some (.int .i64 a0_3) := (blk_cell BK421.out 3).trans rfl; have hcz13_4 : w12.cell? ⟨gb421, 4, none⟩ = some (.int .i64 a0_4) := (blk_cell BK421.out 4).trans rfl; have hcz13_5 : w12.cell? ⟨gb421, 5, none⟩ = some (.int .i64 a0_5) := (blk_cell BK421.out 5).trans rfl; have hcz13_6 : w12.cell? ⟨gb421, 6, none⟩ = some (.int .u64 a0_6) := (blk_cell BK421.out 6).trans rfl; have hfz13_0 := blk_frozen BK421.out 0; have hfz13_1 := blk_frozen BK421.out 1; have hfz13_2 := blk_frozen BK421.out 2; have hfz13_3 := blk_frozen BK421.out 3; have hfz13_4 := blk_frozen BK421.out 4; have hfz13_5 := blk_frozen BK421.out 5; have hfz13_6 := blk_frozen BK421.out 6) | ((with_reducible refine gate_callee (f := 73) rfl ?_); refine goesL_ (some 5) rfl rfl Try.func73 (by kernel_rfl) rfl #[.int .i64 a0_0] rfl (by (try simp only [List.map_toArray, List.map_cons, List.map_nil]); first | done | rfl | (simp only [List.length_drop, List.length_take]; rfl)) ?_; (with_reducible refine (conductorref08_room.calls a0_0 true _ A2.out).mono ?_); rintro e w' ⟨rfl, ⟨nd, rfl⟩⟩; refine ⟨_, rfl, ?_⟩) | (go_at_call 73; (with_reducible refine (conductorref08_room.calls a0_1 false _ A4.out).mono ?_); rintro e w' ⟨rfl, ⟨nd, rfl⟩⟩))
   go_ret
   exact ⟨by first | rfl | (simp [errW_none, errW_some] <;> rfl) | (simp [*, errW_none, errW_some] <;> rfl), by repeat (first | (with_reducible first | exact HB.out | apply below_alloc | apply pw_below_drewN | apply below_drew1 | refine below_set ?_ GE421.out) | exact HB.out)⟩
 ·replace c3 := Bool.eq_false_iff.mpr c3
  subst c3
  have H1 : (some false) = some r := by rw [if_neg (show ¬ (false = true) by decide)] at H; exact H
  clear H
  have H := H1
  clear H1
  obtain rfl := Option.some.inj H
  go_enter Try.func46, Try.ntmps46
  go_wp2_with (first | ((with_reducible refine gate_dst (N := 1) rfl ?_); refine box_event ?hg (N := 1) ?hd (cs := #[.int .i64 a0_0, .int .i64 a0_1, .int .i64 a0_2, .int .i64 a0_3, .int .i64 a0_4, .int .i64 a0_5, .int .u64 a0_6]) (t := 51) ?hr ?_; (case hd => rfl); (case hg => rfl); (case hr => first | (go_simp; done) | (go_simp; rfl)); intro gb421 hg w14 hbox hb; have n0_ := Aside0.mk (below_step (by repeat (first | (with_reducible first | exact HB.out | apply below_alloc | apply pw_below_drewN | apply below_drew1) | exact HB.out)) hb); have n1_ := Aside0.mk (hbox); have n2_ := Aside0.mk ((by rw [hg]; exact (below_size (by repeat (first | (with_reducible first | exact HB.out | apply below_alloc | apply pw_below_drewN | apply below_drew1) | exact HB.out))) : w.heap.size ≤ gb421)); have n3_ := Aside0.mk ((by rw [hg]; exact (below_size (by repeat (first | (with_reducible first | exact HB.out | apply below_alloc | apply pw_below_drewN | apply below_drew1) | exact HB.out))) : w.heap.size ≤ gb421)); clear HB; have HB := n0_; have BK421 := n1_; have GW421 := n2_; have GE421 := n3_; clear n0_ n1_ n2_ n3_; clear hb hbox hg; have hcz15_0 : w14.cell? ⟨gb421, 0, none⟩ = some (.int .i64 a0_0) := (blk_cell BK421.out 0).trans rfl; have hcz15_1 : w14.cell? ⟨gb421, 1, none⟩ = some (.int .i64 a0_1) := (blk_cell BK421.out 1).trans rfl; have hcz15_2 : w14.cell? ⟨gb421, 2, none⟩ = some (.int .i64 a0_2) := (blk_cell BK421.out 2).trans rfl; have hcz15_3 : w14.cell? ⟨gb421, 3, none⟩ = some (.int .i64 a0_3) := (blk_cell BK421.out 3).trans rfl; have hcz15_4 : w14.cell? ⟨gb421, 4, none⟩ = some (.int .i64 a0_4) := (blk_cell BK421.out 4).trans rfl; have hcz15_5 : w14.cell? ⟨gb421, 5, none⟩ = some (.int .i64 a0_5) := (blk_cell BK421.out 5).trans rfl; have hcz15_6 : w14.cell? ⟨gb421, 6, none⟩ = some (.int .u64 a0_6) := (blk_cell BK421.out 6).trans rfl; have hfz15_0 := blk_frozen BK421.out 0; have hfz15_1 := blk_frozen BK421.out 1; have hfz15_2 := blk_frozen BK421.out 2; have hfz15_3 := blk_frozen BK421.out 3; have hfz15_4 := blk_frozen BK421.out 4; have hfz15_5 := blk_frozen BK421.out 5; have hfz15_6 := blk_frozen BK421.out 6) | ((with_reducible refine gate_callee (f := 73) rfl ?_); refine goesL_ (some 5) rfl rfl Try.func73 (by kernel_rfl) rfl #[.int .i64 a0_0] rfl (by (try simp only [List.map_toArray, List.map_cons, List.map_nil]); first | done | rfl | (simp only [List.length_drop, List.length_take]; rfl)) ?_; (with_reducible refine (conductorref08_room.calls a0_0 false _ A2.out).mono ?_); rintro e w' ⟨rfl, ⟨nd, rfl⟩⟩; refine ⟨_, rfl, ?_⟩))
  go_ret
  exact ⟨by first | rfl | (simp [errW_none, errW_some] <;> rfl) | (simp [*, errW_none, errW_some] <;> rfl), by repeat (first | (with_reducible first | exact HB.out | apply below_alloc | apply pw_below_drewN | apply below_drew1 | refine below_set ?_ GE421.out) | exact HB.out)⟩
end Go.Proofs.Yteofdgonpbmdlaa.C
namespace Go.Proofs.Yteofdgonpbmdlaa.St
open Go.RowKit Go.Maps Go.Proofs.YteofdgonpbmdlaaW.PrintWords Go.Proofs.YteofdgonpbmdlaaW.PrintLast Go.Proofs.YteofdgonpbmdlaaW.PrintMore Go.Proofs.Yteofdgonpbmdlaa.C Go.Proofs.Yteofdgonpbmdlaa.Pure
attribute [local go_sem] max2_int min2_int max2_str min2_str str_leq str_gtr str_geq max_two min_two max_three min_three max_four min_four
theorem good_new (l0 l1 l2 l3 l4 l5 last : Int) (h1 : 0 ≤ last) (h2 : last ≤ 18446744073709551615) : Good 0 (noStore l0 l1 l2 l3 l4 l5 last) where
  rg := fun _ => rfl
  ln := fun _ => Nat.le_refl _
  dl := fun _ v hv => by cases hv
  tm := fun _ v hv => by cases hv
  so := List.Pairwise.nil
  me := fun key => by simp [noStore]
  ks := fun key hk => by cases hk
  kn := Nat.le_refl _
  n0 := Int.le_refl _
  n1 := h1
  la := h2
section
variable {W : World} {base p : Nat} {B : Nat → Prop} {s : SS} {kv : Value} {mb n : Nat} {D : DataW Value}
theorem commit_P (h : Aside0 (StoreAt W base B p s kv mb n D)) {m : Nat} (g : Aside0 (Good m s)) (hm : Aside0 (m ≤ 800)) (l : List S102) (hl : Aside0 (l.length ≤ 20)) (hk : Aside0 (∀ x ∈ l, x.f0.size ≤ maxLen)) (low : Int) (okA : Nat → Prop) (hokA : Aside0 (∀ k, okA k → k < W.heap.size ∧ ¬ Own p mb kv k)) (A : Option Addr) (c0 : Nat) (hF : Aside0 (Kd.F k102 W okA A l.length l)) (hlc : Aside0 (l.length ≤ c0)) (hn : Aside0 (n + 20000 < maxLen)) :
    Calls Try.prog 61 #[.pointer (some ⟨p, 0, none⟩), .slice A l.length c0, .int .u64 low] W (ComPost W base B p kv mb n (comP s l low) 20000) := by
  refine (commit_calls h okA hokA A c0 l hF hlc low _ _ _ _ ⟨g.out.ask hm.out hl.out hk.out low⟩ ⟨by have := g.out.kn; have := hm.out; have := hl.out; have := hn.out; omega⟩).mono ?_
  rintro e w' ⟨h1, kv', n', D', h2, h3, h4⟩
  exact ⟨h1, kv', n', D', h2, by have := g.out.kn; have := hm.out; have := hl.out; omega, h4⟩
theorem collect_P (h : Aside0 (StoreAt W base B p s kv mb n D)) {m : Nat} (g : Aside0 (Good m s)) (hm : Aside0 (m ≤ 800)) (low : Int) (hn : Aside0 (n + 20000 < maxLen)) :
    Calls Try.prog 49 #[.pointer (some ⟨p, 0, none⟩), .int .u64 low] W fun e w' => e = .returned (.int .i64 (wentP s low)) ∧ ∃ kv' n' D', StoreAt w' base B p (colP s low) kv' mb n' D' ∧ n' ≤ n + 20000 ∧ Turn base (Own p mb kv) W w' ∧ (∀ k, kv'.ownBlock = some k → kv.ownBlock = some k ∨ W.heap.size ≤ k) := by
  have hkn := g.out.kn
  have hm' := hm.out
  have hn' := hn.out
  refine (store_Collect.calls h low (tfP s low) (zfP s low) ⟨by omega⟩ ⟨fun key hk => size256 (g.out.ks key hk)⟩ ⟨g.out.so.nodup⟩ ⟨fun key _ => g.out.trim hm.out key low⟩ ⟨fun key _ => g.out.size hm.out key low⟩ ⟨by omega⟩).mono ?_
  rintro e w' ⟨rfl, kv', n', D', h1, h2, h3, h4⟩
  exact ⟨rfl, kv', n', D', h1, by omega, h3.mono (fun k hk => hk.elim .inl (fun e => .inr (.inl e))), h4⟩
theorem read_P (h : Aside0 (StoreAt W base B p s kv mb n D)) {m : Nat} (g : Aside0 (Good m s)) (hm : Aside0 (m ≤ 800)) (key : ByteArray) (hk : Aside0 (key.size ≤ maxLen)) (a : Int) :
    Calls Try.prog 43 #[.pointer (some ⟨p, 0, none⟩), .string key, .int .u64 a] W fun e w' => (∃ A c, e = .returned (.tuple #[.slice A (getF (s.ch key) a).1.length c, .bool (getF (s.ch key) a).2]) ∧ (getF (s.ch key) a).1.length ≤ c ∧ Kd.F (Kd.int .u8) w' (fun k => W.heap.size ≤ k) A (getF (s.ch key) a).1.length (getF (s.ch key) a).1) ∧ Below W.heap.size W w' := by
  refine (store_Read.calls h key hk a _ _ ⟨g.out.get hm.out key a⟩).mono ?_
  rintro e w' ⟨v, rfl, ho, hb⟩
  obtain ⟨A, c, rfl⟩ := Kd.R_slice ho
  exact ⟨⟨A, c, rfl, (Kd.R_reads' ho).2.1, Kd.R_F (Kd.R_mono (Kd.R_bound ho) (fun k hk_ => hk_.2.1))⟩, hb⟩
theorem scan_P (h : Aside0 (StoreAt W base B p s kv mb n D)) {m : Nat} (g : Aside0 (Good m s)) (hm : Aside0 (m ≤ 800)) (lo hi : ByteArray) (a : Int) :
    Calls Try.prog 42 #[.pointer (some ⟨p, 0, none⟩), .string lo, .string hi, .int .u64 a] W fun e w' => (∃ A c, e = .returned (.slice A (scanP s lo hi a).length c) ∧ (scanP s lo hi a).length ≤ c ∧ Kd.F k62 w' (fun k => W.heap.size ≤ k) A (scanP s lo hi a).length (scanP s lo hi a)) ∧ Below W.heap.size W w' := by
  have hkn := g.out.kn
  have hm' := hm.out
  refine (store_Scan.calls h ⟨by omega⟩ ⟨fun key hk => size256 (g.out.ks key hk)⟩ lo hi a (fun k => getF (s.ch k) a) ⟨fun key _ => g.out.get hm.out key a⟩).mono ?_
  rintro e w' ⟨v, rfl, ho, hb⟩
  obtain ⟨A, c, rfl⟩ := Kd.N_slice ho
  exact ⟨⟨A, c, rfl, (Kd.N_reads' ho).2.1, Kd.N_F ho⟩, hb⟩
end
def sBig : SS := noStore 1000 10000 1048576 1000 1000 16 1099511627776
def kA : ByteArray := ⟨#[97]⟩
def wA : List S102 := [⟨kA, false, [120]⟩]
def wB : List S102 := [⟨kA, true, []⟩]
def sA : SS := (comP sBig wA 0).2.2
def sB : SS := (comP sA wB 0).2.2
theorem big_good : Good 0 sBig := good_new _ _ _ _ _ _ _ (by decide) (by decide)
theorem exA : (comP sBig wA 0).1 = 1 ∧ (comP sBig wA 0).2.1 = 0 := by decide +kernel
theorem exB : (comP sA wB 0).1 = 2 ∧ (comP sA wB 0).2.1 = 0 := by decide +kernel
theorem exR1 : getF (sB.ch kA) 1 = ([120], true) := by decide +kernel
theorem exR2 : getF (sB.ch kA) 2 = ([], false) := by decide +kernel
theorem exC : wentP sB 2 = 2 := by decide +kernel
theorem exK : (colP sB 2).keys = [] := by decide +kernel
theorem sA_good : Good 1 sA := big_good.com (by decide) 0
theorem sB_good : Good 2 sB := sA_good.com (by decide) 0
theorem big_f : conductorlaw08_Big.f = some (1000, 10000, 1048576, 1000, 1000, 16, 1099511627776) := by kernel_rfl
theorem conv_x (w : World) : ∃ g cap w1, (convert 9 26 (.string ⟨#[120]⟩)).run Try.prog w = .ok (.slice (some ⟨g, 0, none⟩) 1 cap) w1 ∧ 1 ≤ cap ∧ w.heap.size ≤ g ∧ Below w.heap.size w w1 ∧ Kd.F (Kd.int .u8) w1 (fun k => k = g) (some ⟨g, 0, none⟩) 1 [120] := by
  have hr := run_bytes_of_string (P := Try.prog) w 9 26 5 ⟨#[120]⟩ Try.underlying9 Try.underlying26 Try.underlying5
  refine ⟨_, _, _, hr, grownCap_ge w 1 0 5, Nat.le_refl _, ((Below.refl _ w).drew).alloc (Nat.le_refl _) _, fun W' hW => ⟨rfl, by decide, fun _ => ⟨_, rfl, fun j q hj => ?_⟩⟩⟩
  have hb := hW w.heap.size rfl (by simp)
  have hn := heap_alloc_new w.drew (.cells (bytesRow ⟨#[120]⟩ (grownCap w 1 0 5)) 5 ((bytesRow ⟨#[120]⟩ (grownCap w 1 0 5)).size, (bytesRow ⟨#[120]⟩ (grownCap w 1 0 5)).size + 1))
  cases j with
  | succ j => simp at hj
  | zero =>
    simp only [List.getElem?_cons_zero, Option.some.injEq] at hj
    subst hj
    refine ⟨[.int .u8 120], rfl, rfl, fun i u hi => ?_⟩
    cases i with
    | succ i => simp at hi
    | zero =>
      simp only [List.getElem?_cons_zero, Option.some.injEq] at hi
      subst hi
      have := cell_of_row W' w.heap.size 0 _ _ _ (hb.trans hn)
      simp only [Nat.zero_mul, Nat.add_zero]
      rw [show (Addr.add ⟨w.heap.size, 0, none⟩ 0) = ⟨w.heap.size, 0, none⟩ from by simp [Addr.add]]
      rw [this]
      simp only [bytesRow]
      rw [Array.getElem?_append_left (by simp)]
      simp
set_option maxRecDepth 100000 in
set_option maxHeartbeats 4000000 in
theorem put_ax (w : World) : Calls Try.prog 68 #[.string ⟨#[97]⟩, .string ⟨#[120]⟩] w fun e w' => (∃ A c, e = .returned (.slice A wA.length c) ∧ wA.length ≤ c ∧ Kd.F k102 w' (fun k => w.heap.size ≤ k) A wA.length wA) ∧ Below w.heap.size w w' := by
  obtain ⟨g, cap, w1, hrun, hc, hg, hb, hF⟩ := conv_x w
  have HB := Aside0.mk hb
  have HF := Aside0.mk hF
  have HG := Aside0.mk hg
  have HC := Aside0.mk hc
  clear hb hF hg hc
  go_enter Try.func68, Try.ntmps68
  go_wp2_with ((with_reducible refine gate_dst (N := 9) rfl ?_); refine Kd.N_lit k102 (w0 := w) w.heap.size 102 ?hg (N' := 9) ?hd (xs := wA) (inner := [.string ⟨#[97]⟩, .bool false, .slice (some ⟨g, 0, none⟩) 1 cap]) (ok := fun k => w.heap.size ≤ k) (okp := fun k => w.heap.size ≤ k) ?hr ?hp (fun _ hk => hk) HB.out.size HB.out HB.out.size (by decide) ?_; (case hd => rfl); (case hg => rfl); (case hr => first | (go_simp; done) | (go_simp; rfl)); (case hp => exact (Reps.c3 (show Kd.FK k102 _ _ (⟨kA, false, [120]⟩ : S102) [.string ⟨#[97]⟩, .bool false, .slice (some ⟨g, 0, none⟩) 1 cap] from k102_mkF _ _ (⟨kA, false, [120]⟩ : S102) HC.out (Kd.F_mono HF.out (fun k hk => by rw [hk]; exact HG.out))) (Reps.none _ _))); intro v2 w2 ho hb2 hg2 hat2; obtain ⟨A, c, ev⟩ := Kd.N_slice ho; subst ev; have HO := Aside0.mk (Kd.N_F ho); have HL := Aside0.mk (Kd.N_reads' ho).2.1; have HB2 := Aside0.mk hb2; clear ho hb2 hg2 hat2)
  go_ret
  exact ⟨⟨A, c, rfl, HL.out, HO.out⟩, HB2.out⟩
theorem _root_.Go.Proofs.Yteofdgonpbmdlaa.C.StoreAt.lowerB {W : World} {base base' p : Nat} {s : SS} {kv : Value} {mb n : Nat} {D : DataW Value} (h : StoreAt W base (fun k => base ≤ k) p s kv mb n D) (hb : base' ≤ base) (_ : base' ≤ base') : StoreAt W base' (fun k => base' ≤ k) p s kv mb n D where
  cells := h.cells
  keys := h.keys.imp (fun q => Kd.R_lower (Kd.R_mono q (fun k hk => ⟨Nat.le_trans hb hk.1, hk.2⟩)) hb) (fun ⟨e, a, h1, h2, h3⟩ => ⟨e, a, h1, ⟨Nat.le_trans hb h2.1, h2.2⟩, h3⟩)
  map := h.map
  bb := fun _ hk => hk
  bn := fun k hk => Nat.le_trans hb (h.bn k hk)
  bp := Nat.le_trans hb h.bp
  bm := Nat.le_trans hb h.bm
  pm := h.pm
  chains := fun key hk => by
    obtain ⟨A, c, h1, h2, h3⟩ := h.chains key hk
    exact ⟨A, c, h1, h2, Kd.F_mono h3 (fun k hk => ⟨Nat.le_trans hb hk.1, hk.2⟩)⟩
theorem new_big (w : World) : Calls Try.prog 52 #[.agg #[.int .i64 1000, .int .i64 10000, .int .i64 1048576, .int .i64 1000, .int .i64 1000, .int .i64 16, .int .u64 1099511627776]] w fun e w' => (∃ p mb : Nat, e = .returned (.tuple #[.pointer (some ⟨p, 0, none⟩), .int .i64 0]) ∧ StoreAt w' w.heap.size (fun k => w.heap.size ≤ k) p sBig noCh mb 0 (.map [])) ∧ Below w.heap.size w w' :=
  store_New.good 1000 10000 1048576 1000 1000 16 1099511627776 w ⟨by decide, by decide⟩ ⟨by decide, by decide⟩ ⟨by decide, by decide⟩ (by decide)
theorem commit_ax {W : World} {base p : Nat} {B : Nat → Prop} {kv : Value} {mb n : Nat} {D : DataW Value} (h : Aside0 (StoreAt W base B p sBig kv mb n D)) (okA : Nat → Prop) (hokA : Aside0 (∀ k, okA k → k < W.heap.size ∧ ¬ Own p mb kv k)) (A : Option Addr) (c0 : Nat) (hF : Aside0 (Kd.F k102 W okA A wA.length wA)) (hlc : Aside0 (wA.length ≤ c0)) (hn : Aside0 (n ≤ 100)) :
    Calls Try.prog 61 #[.pointer (some ⟨p, 0, none⟩), .slice A wA.length c0, .int .u64 0] W fun e w' => e = .returned (.tuple #[.int .u64 1, .int .i64 0]) ∧ ∃ kv' n' D', StoreAt w' base B p sA kv' mb n' D' ∧ n' ≤ n + 20000 ∧ Turn base (Own p mb kv) W w' ∧ (∀ k, kv'.ownBlock = some k → kv.ownBlock = some k ∨ W.heap.size ≤ k) := by
  refine (commit_P h ⟨big_good⟩ ⟨by decide⟩ wA ⟨by decide⟩ ⟨fun x hx => by rw [List.mem_singleton.1 hx]; decide⟩ 0 okA hokA A c0 hF hlc ⟨by have := hn.out; simp only [maxLen]; omega⟩).mono ?_
  rintro e w' ⟨rfl, rest⟩
  exact ⟨by rw [exA.1, exA.2], rest⟩
theorem commit_bx {W : World} {base p : Nat} {B : Nat → Prop} {kv : Value} {mb n : Nat} {D : DataW Value} (h : Aside0 (StoreAt W base B p sA kv mb n D)) (okA : Nat → Prop) (hokA : Aside0 (∀ k, okA k → k < W.heap.size ∧ ¬ Own p mb kv k)) (A : Option Addr) (c0 : Nat) (hF : Aside0 (Kd.F k102 W okA A wB.length wB)) (hlc : Aside0 (wB.length ≤ c0)) (hn : Aside0 (n ≤ 100000)) :
    Calls Try.prog 61 #[.pointer (some ⟨p, 0, none⟩), .slice A wB.length c0, .int .u64 0] W fun e w' => e = .returned (.tuple #[.int .u64 2, .int .i64 0]) ∧ ∃ kv' n' D', StoreAt w' base B p sB kv' mb n' D' ∧ n' ≤ n + 20000 ∧ Turn base (Own p mb kv) W w' ∧ (∀ k, kv'.ownBlock = some k → kv.ownBlock = some k ∨ W.heap.size ≤ k) := by
  refine (commit_P h ⟨sA_good⟩ ⟨by decide⟩ wB ⟨by decide⟩ ⟨fun x hx => by rw [List.mem_singleton.1 hx]; decide⟩ 0 okA hokA A c0 hF hlc ⟨by have := hn.out; simp only [maxLen]; omega⟩).mono ?_
  rintro e w' ⟨rfl, rest⟩
  exact ⟨by rw [exB.1, exB.2], rest⟩
theorem read_1 {W : World} {base p : Nat} {B : Nat → Prop} {kv : Value} {mb n : Nat} {D : DataW Value} (h : Aside0 (StoreAt W base B p sB kv mb n D)) :
    Calls Try.prog 43 #[.pointer (some ⟨p, 0, none⟩), .string ⟨#[97]⟩, .int .u64 1] W fun e w' => (∃ A c, e = .returned (.tuple #[.slice A 1 c, .bool true]) ∧ 1 ≤ c ∧ Kd.F (Kd.int .u8) w' (fun k => W.heap.size ≤ k) A 1 [120]) ∧ Below W.heap.size W w' := by
  refine (read_P h ⟨sB_good⟩ ⟨by decide⟩ kA ⟨by decide⟩ 1).mono ?_
  rintro e w' ⟨⟨A, c, rfl, h1, h2⟩, hb⟩
  rw [exR1] at h1 h2 ⊢
  exact ⟨⟨A, c, rfl, h1, h2⟩, hb⟩
theorem read_2 {W : World} {base p : Nat} {B : Nat → Prop} {kv : Value} {mb n : Nat} {D : DataW Value} (h : Aside0 (StoreAt W base B p sB kv mb n D)) :
    Calls Try.prog 43 #[.pointer (some ⟨p, 0, none⟩), .string ⟨#[97]⟩, .int .u64 2] W fun e w' => (∃ A c, e = .returned (.tuple #[.slice A 0 c, .bool false])) ∧ Below W.heap.size W w' := by
  refine (read_P h ⟨sB_good⟩ ⟨by decide⟩ kA ⟨by decide⟩ 2).mono ?_
  rintro e w' ⟨⟨A, c, rfl, h1, h2⟩, hb⟩
  rw [exR2]
  exact ⟨⟨A, c, rfl⟩, hb⟩
theorem collect_x {W : World} {base p : Nat} {B : Nat → Prop} {kv : Value} {mb n : Nat} {D : DataW Value} (h : Aside0 (StoreAt W base B p sB kv mb n D)) (hn : Aside0 (n ≤ 1000000)) :
    Calls Try.prog 49 #[.pointer (some ⟨p, 0, none⟩), .int .u64 2] W fun e w' => e = .returned (.int .i64 2) ∧ ∃ kv' n' D', StoreAt w' base B p (colP sB 2) kv' mb n' D' ∧ n' ≤ n + 20000 ∧ Turn base (Own p mb kv) W w' := by
  refine (collect_P h ⟨sB_good⟩ ⟨by decide⟩ 2 ⟨by have := hn.out; simp only [maxLen]; omega⟩).mono ?_
  rintro e w' ⟨rfl, kv', n', D', h1, h2, h3, _⟩
  exact ⟨by rw [exC], kv', n', D', h1, h2, h3⟩
theorem keys_x {W : World} {base p : Nat} {B : Nat → Prop} {kv : Value} {mb n : Nat} {D : DataW Value} (h : Aside0 (StoreAt W base B p (colP sB 2) kv mb n D)) :
    Calls Try.prog 50 #[.pointer (some ⟨p, 0, none⟩)] W fun e w' => (∃ A c, e = .returned (.slice A 0 c)) ∧ Below W.heap.size W w' := by
  refine (store_Keys.calls h ⟨by rw [exK]; decide⟩).mono ?_
  rintro e w' ⟨v, rfl, ho, hb⟩
  obtain ⟨A, c, rfl⟩ := Kd.R_slice ho
  rw [exK]
  exact ⟨⟨A, c, rfl⟩, hb⟩
set_option maxRecDepth 100000 in
set_option maxHeartbeats 8000000 in
theorem live_calls (W : World) : Calls Try.prog 37 #[] W fun e w' => e = .returned (.bool true) ∧ Below W.heap.size W w' := by
  have hsn : strOfNums [120] = (⟨#[120]⟩ : ByteArray) := by decide +kernel
  go_enter Try.func37, Try.ntmps37
  go_wp2_with (first
    | (go_at_call 40; (with_reducible refine (conductorlaw08_Big.calls _ _ _ _ _ _ _ _ big_f).mono ?_); rintro e w1 ⟨rfl, hb⟩; have HB1 := Aside0.mk hb; clear hb)
    | (go_at_call 52; (with_reducible refine (new_big _).mono ?_); rintro e w2 ⟨⟨p, mb, rfl, hS⟩, hb⟩; have HS2 := Aside0.mk (show StoreAt w2 w1.heap.size _ p sBig noCh mb 0 (.map []) from hS); have HB2 := Aside0.mk (below_step HB1.out hb); have h12 := Aside0.mk HB1.out.size; clear hS hb)
    | (go_at_call 68; (refine (put_ax _).mono ?_); rintro e w3 ⟨⟨A1, c1, rfl, hl1, hF1⟩, hb⟩; have HF3 := Aside0.mk hF1; have HL3 := Aside0.mk hl1; have HB3 := Aside0.mk (below_step HB2.out hb); have HS3 := Aside0.mk (HS2.out.below hb); clear hF1 hl1 hb)
    | (go_at_call 61; (with_reducible refine (commit_ax HS3 (fun k => w2.heap.size ≤ k ∧ k < w3.heap.size) ?s0 A1 c1 ?s1 HL3 ⟨by decide⟩).mono ?_); (case s0 => exact ⟨fun k hk_ => ⟨hk_.2, fun ho => by have := (HS2.out.own ho).2.2; omega⟩⟩); (case s1 => exact ⟨Kd.F_bound HF3.out⟩); rintro e w4 ⟨rfl, kv4, n4, D4, hS, hn, hT, hK⟩; have HS4 := Aside0.mk hS; have hn4 := Aside0.mk hn; have HB4 := Aside0.mk ((Below.mono HB3.out (Nat.le_refl _)).trans (hT.below.mono h12.out)); clear hS hn hT hK HS3 HF3)
    | ((with_reducible refine gate_dst (N := 31) rfl ?_); refine Kd.N_lit k102 (w0 := w4) w4.heap.size 102 ?hg (N' := 31) ?hd (xs := wB) (inner := [.string ⟨#[97]⟩, .bool true, .slice none 0 0]) (ok := fun k => w4.heap.size ≤ k) (okp := fun k => w4.heap.size ≤ k) ?hr ?hp (fun _ hk => hk) (Nat.le_refl _) (Below.refl _ _) (Nat.le_refl _) (by decide) ?_; (case hd => rfl); (case hg => rfl); (case hr => first | (go_simp; done) | (go_simp; rfl)); (case hp => exact (Reps.c3 (show Kd.FK k102 _ _ (⟨kA, true, []⟩ : S102) [.string ⟨#[97]⟩, .bool true, .slice none 0 0] from k102_mkF _ _ (⟨kA, true, []⟩ : S102) (Nat.le_refl _) (Kd.F_nil _ _ _)) (Reps.none _ _))); intro v5 w5 ho hb2 hg2 hat2; obtain ⟨A5, c5, ev⟩ := Kd.N_slice ho; subst ev; have HF5 := Aside0.mk (Kd.N_F ho); have HL5 := Aside0.mk (Kd.N_reads' ho).2.1; have HS5 := Aside0.mk (HS4.out.below hb2); have HB5 := Aside0.mk (below_step HB4.out hb2); clear ho hb2 hg2 hat2)
    | (go_at_call 61; (with_reducible refine (commit_bx HS5 (fun k => w4.heap.size ≤ k ∧ k < w5.heap.size) ?s0 A5 c5 ?s1 HL5 ?s2).mono ?_); (case s0 => exact ⟨fun k hk_ => ⟨hk_.2, fun ho => by have := (HS4.out.own ho).2.2; omega⟩⟩); (case s1 => exact ⟨Kd.F_bound HF5.out⟩); (case s2 => exact ⟨by have := hn4.out; omega⟩); rintro e w6 ⟨rfl, kv6, n6, D6, hS, hn, hT, hK⟩; have HS6 := Aside0.mk hS; have hn6 := Aside0.mk hn; have HB6 := Aside0.mk (HB5.out.trans (hT.below.mono h12.out)); clear hS hn hT hK HS5 HF5 HS4)
    | (go_at_call 43; (with_reducible refine (read_1 HS6).mono ?_); rintro e w7 ⟨⟨A7, c7, rfl, hl7, hF7⟩, hb⟩; have HS7 := Aside0.mk (HS6.out.below hb); have HF7 := Aside0.mk hF7; have HB7 := Aside0.mk (below_step HB6.out hb); clear hb hF7 hl7)
    | (go_at_call 43; (with_reducible refine (read_2 HS7).mono ?_); rintro e w8 ⟨⟨A8, c8, rfl⟩, hb⟩; have HS8 := Aside0.mk (HS7.out.below hb); have hcv := Kd.C_string (P := Try.prog) (A := A7) (n := 1) (c := c7) Try.underlying26 Try.underlying5 Try.underlying9 (Kd.F_now (Kd.F_below HF7.out hb)); have HB8 := Aside0.mk (below_step HB7.out hb); clear hb)
    | (go_at_call 49; (with_reducible refine (collect_x HS8 ?s0).mono ?_); (case s0 => exact ⟨by have := hn4.out; have := hn6.out; omega⟩); rintro e w9 ⟨rfl, kv9, n9, D9, hS, hn, hT⟩; have HS9 := Aside0.mk hS; have HB9 := Aside0.mk (HB8.out.trans (hT.below.mono h12.out)); clear hS hn hT)
    | (go_at_call 50; (with_reducible refine (keys_x HS9).mono ?_); rintro e w10 ⟨⟨A10, c10, rfl⟩, hb⟩; have HB10 := Aside0.mk (below_step HB9.out hb); clear hb))
  go_ret
  exact ⟨rfl, HB10.out⟩
set_option maxRecDepth 100000 in
set_option maxHeartbeats 4000000 in
theorem new_bad (l0 l1 l2 l3 l4 l5 last : Int) (w : World) (h : ¬ (Room l0 ∧ Room l1 ∧ Room l2 ∧ last ≠ 0)) :
    Calls Try.prog 52 #[.agg #[.int .i64 l0, .int .i64 l1, .int .i64 l2, .int .i64 l3, .int .i64 l4, .int .i64 l5, .int .u64 last]] w fun e w' => e = .returned (.tuple #[.pointer none, .int .i64 1]) ∧ Below w.heap.size w w' := by
  have H := Aside0.mk h
  clear h
  have i0 : ∀ w, (Instr.index 107 (.agg #[.int .i64 l0, .int .i64 l1, .int .i64 l2]) (.int .i64 0)).run Try.prog w = .ok (.int .i64 l0) w := fun _ => by kernel_rfl
  have i1 : ∀ w, (Instr.index 107 (.agg #[.int .i64 l0, .int .i64 l1, .int .i64 l2]) (.int .i64 1)).run Try.prog w = .ok (.int .i64 l1) w := fun _ => by kernel_rfl
  have i2 : ∀ w, (Instr.index 107 (.agg #[.int .i64 l0, .int .i64 l1, .int .i64 l2]) (.int .i64 2)).run Try.prog w = .ok (.int .i64 l2) w := fun _ => by kernel_rfl
  go_enter Try.func52, Try.ntmps52
  go_wp2_with ((with_reducible refine gate_dst (N := 1) rfl ?_); refine box_event ?hg (N := 1) ?hd (cs := #[.int .i64 l0, .int .i64 l1, .int .i64 l2, .int .i64 l3, .int .i64 l4, .int .i64 l5, .int .u64 last]) (t := 51) ?hr ?_; (case hd => rfl); (case hg => rfl); (case hr => first | (go_simp; done) | (go_simp; rfl)); intro g1 hg w1 hbox hb; have HB1 := Aside0.mk hb; have j0 := (blk_cell hbox 0).trans (show _ = some (Value.int .i64 l0) from rfl); have j1 := (blk_cell hbox 1).trans (show _ = some (Value.int .i64 l1) from rfl); have j2 := (blk_cell hbox 2).trans (show _ = some (Value.int .i64 l2) from rfl); have j6 := (blk_cell hbox 6).trans (show _ = some (Value.int .u64 last) from rfl); clear hbox hb hg)
  go_loop [13] (fun i => ∃ k : Nat, k ≤ 3 ∧ i = .int .i64 k ∧ Aside0 ((0 < k → Room l0) ∧ (1 < k → Room l1) ∧ (2 < k → Room l2))) (fun i => 3 - (intOf i).toNat)
  case atStart => exact ⟨0, by omega, rfl, ⟨⟨fun h => absurd h (by omega), fun h => absurd h (by omega), fun h => absurd h (by omega)⟩⟩⟩
  case round =>
    obtain ⟨k, hk, rfl, HK⟩ := hrel
    by_cases hlt : k < 3
    · obtain rfl | rfl | rfl : k = 0 ∨ k = 1 ∨ k = 2 := by omega
      · by_cases hr : 1 ≤ l0 ∧ l0 ≤ 1048576
        · obtain ⟨a0, b0⟩ := hr
          go_wp2
          go_round
          case rel => exact ⟨1, by omega, by go_num, ⟨fun _ => ⟨a0, b0⟩, fun h => absurd h (by omega), fun h => absurd h (by omega)⟩⟩
          case measure => simp [intOf]
        · by_cases h1 : 1 ≤ l0
          · have h2 : ¬ l0 ≤ 1048576 := fun h2 => hr ⟨h1, h2⟩
            go_wp2
            go_ret2
            exact ⟨rfl, HB1.out⟩
          · go_wp2
            go_ret2
            exact ⟨rfl, HB1.out⟩
      · by_cases hr : 1 ≤ l1 ∧ l1 ≤ 1048576
        · obtain ⟨a0, b0⟩ := hr
          go_wp2
          go_round
          case rel => exact ⟨2, by omega, by go_num, ⟨fun _ => HK.out.1 (by omega), fun _ => ⟨a0, b0⟩, fun h => absurd h (by omega)⟩⟩
          case measure => simp [intOf]
        · by_cases h1 : 1 ≤ l1
          · have h2 : ¬ l1 ≤ 1048576 := fun h2 => hr ⟨h1, h2⟩
            go_wp2
            go_ret2
            exact ⟨rfl, HB1.out⟩
          · go_wp2
            go_ret2
            exact ⟨rfl, HB1.out⟩
      · by_cases hr : 1 ≤ l2 ∧ l2 ≤ 1048576
        · obtain ⟨a0, b0⟩ := hr
          go_wp2
          go_round
          case rel => exact ⟨3, by omega, by go_num, ⟨fun _ => HK.out.1 (by omega), fun _ => HK.out.2.1 (by omega), fun _ => ⟨a0, b0⟩⟩⟩
          case measure => simp [intOf]
        · by_cases h1 : 1 ≤ l2
          · have h2 : ¬ l2 ≤ 1048576 := fun h2 => hr ⟨h1, h2⟩
            go_wp2
            go_ret2
            exact ⟨rfl, HB1.out⟩
          · go_wp2
            go_ret2
            exact ⟨rfl, HB1.out⟩
    · have hk3 : k = 3 := by omega
      have hl : last = 0 := Classical.not_not.1 (fun hne => H.out ⟨HK.out.1 (by omega), HK.out.2.1 (by omega), HK.out.2.2 (by omega), hne⟩)
      have hlb : (last == 0) = true := by rw [hl]; rfl
      clear hl HK
      go_wp2
      go_ret2
      exact ⟨rfl, HB1.out⟩
set_option maxRecDepth 100000 in
set_option maxHeartbeats 4000000 in
theorem made_good (l0 l1 l2 l3 l4 l5 last : Int) (w : World) (h0 : Room l0) (h1 : Room l1) (h2 : Room l2) (hl : last ≠ 0) :
    Calls Try.prog 39 #[.agg #[.int .i64 l0, .int .i64 l1, .int .i64 l2, .int .i64 l3, .int .i64 l4, .int .i64 l5, .int .u64 last]] w fun e w' => (∃ p mb : Nat, e = .returned (.pointer (some ⟨p, 0, none⟩)) ∧ StoreAt w' w.heap.size (fun k => w.heap.size ≤ k) p (noStore l0 l1 l2 l3 l4 l5 last) noCh mb 0 (.map [])) ∧ Below w.heap.size w w' := by
  have hN := Aside0.mk (fun w' => store_New.good l0 l1 l2 l3 l4 l5 last w' h0 h1 h2 hl)
  clear h0 h1 h2 hl
  go_enter Try.func39, Try.ntmps39
  go_wp2_with (first
    | ((with_reducible refine gate_dst (N := 1) rfl ?_); refine box_event ?hg (N := 1) ?hd (cs := #[.int .i64 l0, .int .i64 l1, .int .i64 l2, .int .i64 l3, .int .i64 l4, .int .i64 l5, .int .u64 last]) (t := 51) ?hr ?_; (case hd => rfl); (case hg => rfl); (case hr => first | (go_simp; done) | (go_simp; rfl)); intro g1 hg w1 hbox hb; have HB1 := Aside0.mk hb; have j0 := (blk_cell hbox 0).trans (show _ = some (Value.int .i64 l0) from rfl); have j1 := (blk_cell hbox 1).trans (show _ = some (Value.int .i64 l1) from rfl); have j2 := (blk_cell hbox 2).trans (show _ = some (Value.int .i64 l2) from rfl); have j3 := (blk_cell hbox 3).trans (show _ = some (Value.int .i64 l3) from rfl); have j4 := (blk_cell hbox 4).trans (show _ = some (Value.int .i64 l4) from rfl); have j5 := (blk_cell hbox 5).trans (show _ = some (Value.int .i64 l5) from rfl); have j6 := (blk_cell hbox 6).trans (show _ = some (Value.int .u64 last) from rfl); clear hbox hb hg)
    | (go_at_call 52; (with_reducible refine (hN.out _).mono ?_); rintro e w2 ⟨⟨p, mb, rfl, hS⟩, hb⟩; have HS2 := Aside0.mk (hS.lowerB HB1.out.size (Nat.le_refl _)); have HB2 := Aside0.mk (below_step HB1.out hb); clear hS hb j0 j1 j2 j3 j4 j5 j6))
  go_ret
  exact ⟨⟨p, mb, rfl, HS2.out⟩, HB2.out⟩
set_option maxRecDepth 100000 in
set_option maxHeartbeats 4000000 in
theorem made_bad (l0 l1 l2 l3 l4 l5 last : Int) (w : World) (h : ¬ (Room l0 ∧ Room l1 ∧ Room l2 ∧ last ≠ 0)) :
    Calls Try.prog 39 #[.agg #[.int .i64 l0, .int .i64 l1, .int .i64 l2, .int .i64 l3, .int .i64 l4, .int .i64 l5, .int .u64 last]] w fun e w' => e = .returned (.pointer none) ∧ Below w.heap.size w w' := by
  have hN := Aside0.mk (fun w' => new_bad l0 l1 l2 l3 l4 l5 last w' h)
  clear h
  go_enter Try.func39, Try.ntmps39
  go_wp2_with (first
    | ((with_reducible refine gate_dst (N := 1) rfl ?_); refine box_event ?hg (N := 1) ?hd (cs := #[.int .i64 l0, .int .i64 l1, .int .i64 l2, .int .i64 l3, .int .i64 l4, .int .i64 l5, .int .u64 last]) (t := 51) ?hr ?_; (case hd => rfl); (case hg => rfl); (case hr => first | (go_simp; done) | (go_simp; rfl)); intro g1 hg w1 hbox hb; have HB1 := Aside0.mk hb; have j0 := (blk_cell hbox 0).trans (show _ = some (Value.int .i64 l0) from rfl); have j1 := (blk_cell hbox 1).trans (show _ = some (Value.int .i64 l1) from rfl); have j2 := (blk_cell hbox 2).trans (show _ = some (Value.int .i64 l2) from rfl); have j3 := (blk_cell hbox 3).trans (show _ = some (Value.int .i64 l3) from rfl); have j4 := (blk_cell hbox 4).trans (show _ = some (Value.int .i64 l4) from rfl); have j5 := (blk_cell hbox 5).trans (show _ = some (Value.int .i64 l5) from rfl); have j6 := (blk_cell hbox 6).trans (show _ = some (Value.int .u64 last) from rfl); clear hbox hb hg)
    | (go_at_call 52; (with_reducible refine (hN.out _).mono ?_); rintro e w2 ⟨rfl, hb⟩; have HB2 := Aside0.mk (below_step HB1.out hb); clear hb j0 j1 j2 j3 j4 j5 j6))
  go_ret
  exact ⟨rfl, HB2.out⟩
end Go.Proofs.Yteofdgonpbmdlaa.St
namespace Go.Proofs.Yteofdgonpbmdlaa.St
open Go.RowKit Go.Proofs.YteofdgonpbmdlaaW.PrintWords Go.Proofs.Yteofdgonpbmdlaa.C Go.Proofs.Yteofdgonpbmdlaa.Pure
theorem getF_nil (a : Int) : getF [] a = ([], false) := by
  unfold getF
  rw [getV_neg (by simp; omega)]
def runP : SS → List S55 → SS
  | s, [] => s
  | s, o :: t => runP (opP s o).2 t
theorem runP_snoc (o : S55) : ∀ (l : List S55) (s : SS), runP s (l ++ [o]) = (opP (runP s l) o).2
  | [], _ => rfl
  | x :: t, s => runP_snoc o t _
theorem runP_step (s : SS) (l : List S55) (i : Nat) (hi : i < l.length) : runP s (l.take (i + 1)) = (opP (runP s (l.take i)) l[i]).2 := by
  rw [List.take_succ_eq_append_getElem hi, runP_snoc]
theorem Good.run : ∀ (l : List S55) {m : Nat} {s : SS}, Good m s → (∀ o ∈ l, FewOp o) → Good (m + l.length) (runP s l)
  | [], _, _, h, _ => h
  | o :: t, m, s, h, hf => by
    have := Good.run t (h.op (hf o (List.mem_cons_self ..))) (fun x hx => hf x (List.mem_cons_of_mem _ hx))
    exact this.mono (by simp; omega)
theorem Good.runTake {m : Nat} {s : SS} (h : Good m s) (l : List S55) (hf : ∀ o ∈ l, FewOp o) (i : Nat) : Good (m + i) (runP s (l.take i)) :=
  (Good.run _ h (fun o ho => hf o (List.mem_of_mem_take ho))).mono (by rw [List.length_take]; omega)
theorem sorted_ext : ∀ {a b : List ByteArray}, Sorted a → Sorted b → (∀ q, q ∈ a ↔ q ∈ b) → a = b
  | [], [], _, _, _ => rfl
  | [], y :: t, _, _, h => absurd ((h y).2 (List.mem_cons_self ..)) (by simp)
  | x :: t, [], _, _, h => absurd ((h x).1 (List.mem_cons_self ..)) (by simp)
  | x :: t, y :: u, ha, hb, h => by
    have ha' := List.pairwise_cons.1 ha
    have hb' := List.pairwise_cons.1 hb
    have e : x = y := by
      rcases List.mem_cons.1 ((h x).1 (List.mem_cons_self ..)) with e | hx
      · exact e
      · rcases List.mem_cons.1 ((h y).2 (List.mem_cons_self ..)) with e | hy
        · exact e.symm
        · exact absurd (ltt (ha'.1 y hy) (hb'.1 x hx)) (lti _)
    subst e
    congr 1
    refine sorted_ext ha'.2 hb'.2 (fun q => ?_)
    constructor
    · intro hq
      rcases List.mem_cons.1 ((h q).1 (List.mem_cons_of_mem _ hq)) with e | hq2
      · subst e; exact absurd (ha'.1 _ hq) (lti _)
      · exact hq2
    · intro hq
      rcases List.mem_cons.1 ((h q).2 (List.mem_cons_of_mem _ hq)) with e | hq2
      · subst e; exact absurd (hb'.1 _ hq) (lti _)
      · exact hq2
/-- Does a key lie in a stretch that ends at hi? -/
def under (hi k : ByteArray) : Bool := decide (hi.toList = []) || decide (k.toList < hi.toList)
theorem ends_under (hi k : ByteArray) : ends hi k = !under hi k := by
  unfold ends under
  rw [bl]
  by_cases h1 : hi.toList = [] <;> by_cases h2 : k.toList < hi.toList <;> simp [h1, h2]
theorem scanL_eq (gf : ByteArray → List Int × Bool) (hi : ByteArray) : ∀ ks : List ByteArray, Sorted ks → scanL gf hi ks = (ks.filter (fun k => under hi k && (gf k).2)).map (fun k => ⟨k, (gf k).1⟩)
  | [], _ => rfl
  | k :: t, hs => by
    have hs' := List.pairwise_cons.1 hs
    simp only [scanL, ends_under]
    rw [List.filter_cons]
    by_cases hu : under hi k = true
    · rw [if_neg (by simp [hu]), scanL_eq gf hi t hs'.2]
      by_cases hg : (gf k).2 = true
      · rw [if_pos hg, if_pos (by simp [hu, hg])]; rfl
      · rw [if_neg hg, if_neg (by simp [hu, hg])]
    · have hu' : under hi k = false := by simpa using hu
      rw [if_pos (by simp [hu']), if_neg (by simp [hu'])]
      have : ∀ y ∈ t, under hi y = false := fun y hy => by
        have hky := hs'.1 y hy
        unfold under at hu' ⊢
        simp only [Bool.or_eq_false_iff, decide_eq_false_iff_not] at hu' ⊢
        exact ⟨hu'.1, fun h => hu'.2 (ltt hky h)⟩
      rw [List.filter_eq_nil_iff.2 (fun y hy => by simp [this y hy])]
      rfl
theorem drop_filter {ks : List ByteArray} (hs : Sorted ks) (lo : ByteArray) : ks.drop (srchF ks lo) = ks.filter (fun k => !decide (k.toList < lo.toList)) := by
  conv => rhs; rw [← List.take_append_drop (srchF ks lo) ks]
  rw [List.filter_append, List.filter_eq_nil_iff.2 (fun k hk => by simpa using take_srch hs lo k hk), List.nil_append]
  exact (List.filter_eq_self.2 (fun k hk => by simpa using drop_srch hs lo k hk)).symm
/-- The keys that a scan has. -/
def scanK (s : SS) (lo hi : ByteArray) (a : Int) : List ByteArray := s.keys.filter (fun k => (!decide (k.toList < lo.toList)) && (under hi k && (getF (s.ch k) a).2))
theorem scanP_eq {s : SS} (hs : Sorted s.keys) (lo hi : ByteArray) (a : Int) : scanP s lo hi a = (scanK s lo hi a).map (fun k => ⟨k, (getF (s.ch k) a).1⟩) := by
  unfold scanP scanK
  have hd := drop_filter hs lo
  have hs2 : Sorted (s.keys.drop (srchF s.keys lo)) := hs.sublist (List.drop_sublist _ _)
  rw [scanL_eq _ hi _ hs2, hd, List.filter_filter]
  congr 1
  refine List.filter_congr (fun k _ => ?_)
  rw [Bool.and_comm]
theorem scanK_mem {m : Nat} {s : SS} (h : Good m s) (lo hi : ByteArray) (a : Int) (k : ByteArray) : k ∈ scanK s lo hi a ↔ ¬ k.toList < lo.toList ∧ under hi k = true ∧ (getF (s.ch k) a).2 = true := by
  unfold scanK
  rw [List.mem_filter]
  simp only [Bool.and_eq_true, Bool.not_eq_true', decide_eq_false_iff_not]
  constructor
  · rintro ⟨_, h1, h2, h3⟩; exact ⟨h1, h2, h3⟩
  · rintro ⟨h1, h2, h3⟩
    refine ⟨?_, h1, h2, h3⟩
    rw [h.me]
    intro e
    rw [e, getF_nil] at h3
    cases h3
theorem scanK_sorted {m : Nat} {s : SS} (h : Good m s) (lo hi : ByteArray) (a : Int) : Sorted (scanK s lo hi a) := h.so.sublist List.filter_sublist
theorem scan_eq {m m' : Nat} {s s' : SS} (h : Good m s) (h' : Good m' s') (lo hi : ByteArray) (a : Int) (he : ∀ key, getF (s.ch key) a = getF (s'.ch key) a) : scanP s lo hi a = scanP s' lo hi a := by
  have hk : scanK s lo hi a = scanK s' lo hi a := sorted_ext (scanK_sorted h lo hi a) (scanK_sorted h' lo hi a) (fun q => by rw [scanK_mem h, scanK_mem h', he q])
  rw [scanP_eq h.so, scanP_eq h'.so, hk]
  exact List.map_congr_left (fun k _ => by rw [he k])
theorem scan_len {m : Nat} {s : SS} (h : Good m s) (lo hi : ByteArray) (a : Int) : (scanP s lo hi a).length ≤ 20 * m := by
  rw [scanP_eq h.so, List.length_map]
  exact Nat.le_trans (List.length_filter_le _ _) h.kn
theorem same_loop (l : List S62) (hl : l.length ≤ 9223372036854775807) : ∀ (d i k : Nat), i + d = l.length → d < k → conductorref08_SamePairs.l0 k l l l.length i = some true := by
  intro d
  induction d with
  | zero =>
    intro i k hd hk
    obtain ⟨k, rfl⟩ : ∃ m, k = m + 1 := ⟨k - 1, by omega⟩
    simp only [conductorref08_SamePairs.l0]
    rw [if_neg (by omega)]
  | succ d ih =>
    intro i k hd hk
    obtain ⟨k, rfl⟩ : ∃ m, k = m + 1 := ⟨k - 1, by omega⟩
    have hi : i < l.length := by omega
    simp only [conductorref08_SamePairs.l0]
    rw [if_pos (by omega), if_pos (by omega), if_pos (by omega), if_pos (by omega), w1 hi hl]
    simp only [if_true]
    exact ih (i + 1) k (by omega) (by omega)
theorem same_refl (l : List S62) (hl : l.length ≤ 9223372036854775807) : ∃ k, conductorref08_SamePairs.f k l l = some true :=
  ⟨l.length + 1, by unfold conductorref08_SamePairs.f; rw [if_pos rfl]; exact same_loop l hl l.length 0 _ (by omega) (by omega)⟩
end Go.Proofs.Yteofdgonpbmdlaa.St
namespace Go.Proofs.Yteofdgonpbmdlaa.St
open Go.RowKit Go.Maps Go.Proofs.YteofdgonpbmdlaaW.PrintWords Go.Proofs.YteofdgonpbmdlaaW.PrintLast Go.Proofs.YteofdgonpbmdlaaW.PrintMore Go.Proofs.Yteofdgonpbmdlaa.C Go.Proofs.Yteofdgonpbmdlaa.Pure
/-- A block that no call of the store writes. -/
def Free (p mb : Nat) (kv : Value) (W : World) (k : Nat) : Prop := k < W.heap.size ∧ ¬ Own p mb kv k
section
variable {α : Type} {d : Kd α} {W W' : World} {base p : Nat} {B : Nat → Prop} {s s' : SS} {kv kv' : Value} {mb n n' : Nat} {D D' : DataW Value} {A : Option Addr} {k : Nat} {xs : List α}
theorem F_free (h : Kd.F d W' (fun q => W.heap.size ≤ q) A k xs) (hS : StoreAt W base B p s kv mb n D) : Kd.F d W' (Free p mb kv W') A k xs :=
  Kd.F_mono (Kd.F_bound h) (fun q hq => ⟨hq.2, fun ho => by have := (hS.own ho).2.2; have := hq.1; omega⟩)
theorem F_freeBelow (h : Kd.F d W (Free p mb kv W) A k xs) (hb : Below W.heap.size W W') : Kd.F d W' (Free p mb kv W') A k xs :=
  Kd.F_mono (Kd.F_below h hb) (fun _ hq => ⟨Nat.lt_of_lt_of_le hq.1 hb.size, hq.2⟩)
theorem F_freeTurn (h : Kd.F d W (Free p mb kv W) A k xs) (hT : Turn base (Own p mb kv) W W') (hK : ∀ q, kv'.ownBlock = some q → kv.ownBlock = some q ∨ W.heap.size ≤ q) : Kd.F d W' (Free p mb kv' W') A k xs :=
  Kd.F_mono (Kd.F_step h (fun q hq hl => hT.keep q hl hq.2)) (fun q hq => ⟨Nat.lt_of_lt_of_le hq.1 hT.below.size, fun ho => by
    rcases ho with e | e | e
    · exact hq.2 (.inl e)
    · exact hq.2 (.inr (.inl e))
    · rcases hK q e.symm with e2 | e2
      · exact hq.2 (.inr (.inr e2.symm))
      · have := hq.1
        omega⟩)
theorem scan_as (h : Aside0 (StoreAt W base B p s kv mb n D)) {m : Nat} (g : Aside0 (Good m s)) (hm : Aside0 (m ≤ 800)) (lo hi : ByteArray) (a : Int) (L : List S62) (hr : Aside0 (scanP s lo hi a = L)) :
    Calls Try.prog 42 #[.pointer (some ⟨p, 0, none⟩), .string lo, .string hi, .int .u64 a] W fun e w' => (∃ A c, e = .returned (.slice A L.length c) ∧ L.length ≤ c ∧ Kd.F k62 w' (Free p mb kv w') A L.length L) ∧ Below W.heap.size W w' := by
  refine (scan_P h g hm lo hi a).mono ?_
  rintro e w' ⟨⟨A, c, rfl, h1, h2⟩, hb⟩
  rw [hr.out] at h1 h2 ⊢
  exact ⟨⟨A, c, rfl, h1, F_free h2 h.out⟩, hb⟩
end
end Go.Proofs.Yteofdgonpbmdlaa.St
namespace Go.Proofs.Yteofdgonpbmdlaa.St
open Go.RowKit Go.Maps Go.Proofs.YteofdgonpbmdlaaW.PrintWords Go.Proofs.Yteofdgonpbmdlaa.C Go.Proofs.Yteofdgonpbmdlaa.Pure
def sumK {α : Type} (f : α → Nat) (l : List α) : Nat := (l.map f).sum
theorem sumK_nil {α : Type} (f : α → Nat) : sumK f [] = 0 := rfl
theorem sumK_cons {α : Type} (f : α → Nat) (x : α) (l : List α) : sumK f (x :: l) = f x + sumK f l := by simp [sumK]
theorem sumK_app {α : Type} (f : α → Nat) (a b : List α) : sumK f (a ++ b) = sumK f a + sumK f b := by simp [sumK]
theorem sumK_congr {α : Type} {f g : α → Nat} {l : List α} (h : ∀ x ∈ l, f x = g x) : sumK f l = sumK g l := by
  unfold sumK
  rw [List.map_congr_left h]
theorem sumK_le {α : Type} {f g : α → Nat} : ∀ {l : List α}, (∀ x ∈ l, f x ≤ g x) → sumK f l ≤ sumK g l
  | [], _ => Nat.le_refl _
  | x :: t, h => by
    rw [sumK_cons, sumK_cons]
    have h1 := h x (List.mem_cons_self ..)
    have h2 := sumK_le (fun y hy => h y (List.mem_cons_of_mem x hy)) (l := t)
    omega
theorem sumK_add {α : Type} (f g : α → Nat) : ∀ l : List α, sumK (fun x => f x + g x) l = sumK f l + sumK g l
  | [] => rfl
  | x :: t => by
    rw [sumK_cons, sumK_cons, sumK_cons, sumK_add f g t]
    omega
theorem sumK_filter {α : Type} (f g : α → Nat) (p : α → Bool) : ∀ l : List α, (∀ x ∈ l, f x ≤ g x) → sumK f (l.filter p) ≤ sumK g l
  | [], _ => Nat.le_refl _
  | x :: t, h => by
    have h1 := h x (List.mem_cons_self ..)
    have h2 := sumK_filter f g p t (fun y hy => h y (List.mem_cons_of_mem x hy))
    rw [List.filter_cons, sumK_cons]
    split
    · rw [sumK_cons]; omega
    · omega
theorem sumK_one {α : Type} (l : List α) : sumK (fun _ => 1) l = l.length := by
  induction l with
  | nil => rfl
  | cons x t ih => rw [sumK_cons, ih, List.length_cons]; omega
theorem sumK_zero {α : Type} {f : α → Nat} {l : List α} (h : ∀ x ∈ l, f x = 0) : sumK f l = 0 := by
  induction l with
  | nil => rfl
  | cons x t ih => rw [sumK_cons, h x (List.mem_cons_self ..), ih (fun y hy => h y (List.mem_cons_of_mem x hy))]
theorem sumK_indicator (q : ByteArray) (v : Nat) : ∀ l : List ByteArray, l.Nodup → q ∈ l → sumK (fun k => if q = k then v else 0) l = v
  | [], _, h => by cases h
  | k :: t, hn, h => by
    rw [List.nodup_cons] at hn
    rw [sumK_cons]
    by_cases e : q = k
    · subst e
      have hz : ∀ x ∈ t, (if q = x then v else 0) = 0 := fun x hx => by
        rw [if_neg]
        intro e
        exact hn.1 (by rw [e]; exact hx)
      rw [if_pos rfl, sumK_zero hz]
      omega
    · rw [if_neg e, sumK_indicator q v t hn.2 ((List.mem_cons.1 h).resolve_left e)]
      omega
theorem sumK_weigh (w : S102 → Nat) (K : List ByteArray) (hn : K.Nodup) : ∀ L : List S102, (∀ x ∈ L, x.f0 ∈ K) → sumK (fun k => sumK w (L.filter (fun x => decide (x.f0 = k)))) K = sumK w L
  | [], _ => by
    refine sumK_zero (fun x _ => rfl)
  | x :: t, h => by
    rw [sumK_cons, ← sumK_weigh w K hn t (fun y hy => h y (List.mem_cons_of_mem x hy)), ← sumK_indicator x.f0 (w x) K hn (h x (List.mem_cons_self ..)), ← sumK_add]
    refine sumK_congr (fun k _ => ?_)
    rw [List.filter_cons]
    by_cases e : x.f0 = k
    · rw [if_pos (by simp [e]), if_pos e, sumK_cons]
    · rw [if_neg (by simp [e]), if_neg e, Nat.zero_add]
theorem sumK_insL (f : ByteArray → Nat) (K : List ByteArray) (i : Nat) (q : ByteArray) : sumK f (insL K i q) = sumK f K + f q := by
  unfold insL
  have : sumK f K = sumK f (K.take i) + sumK f (K.drop i) := by rw [← sumK_app, List.take_append_drop]
  rw [sumK_app, sumK_cons, this]
  omega
theorem sumK_insK (f : ByteArray → Nat) (pf : ByteArray → List S28) : ∀ (L : List S102) (K : List ByteArray), sumK f (insK pf L K) = sumK f K + sumK (fun x : S102 => f x.f0) (L.filter (fun x => decide ((pf x.f0).length = 1)))
  | [], K => rfl
  | x :: t, K => by
    simp only [insK]
    rw [sumK_insK f pf t, List.filter_cons]
    by_cases h : (pf x.f0).length = 1
    · rw [if_pos h, if_pos (by simpa using h), sumK_insL, sumK_cons]
      omega
    · rw [if_neg h, if_neg (by simpa using h)]
def vN (ch : ByteArray → List S28) (k : ByteArray) : Nat := (ch k).length
def bN (ch : ByteArray → List S28) (k : ByteArray) : Nat := k.size + dsz (ch k)
structure Sized (s : SS) : Prop where
  z0 : s.n0 = ((s.keys.length : Nat) : Int)
  z1 : s.n1 = ((sumK (vN s.ch) s.keys : Nat) : Int)
  z2 : s.n2 = ((sumK (bN s.ch) s.keys : Nat) : Int)
/-- The sizes lie in their limits, which are no greater than the greatest. -/
structure Fits (s : SS) : Prop where
  f0 : s.n0 ≤ s.l0
  f1 : s.n1 ≤ s.l1
  f2 : s.n2 ≤ s.l2
  g0 : s.l0 ≤ 1048576
  g1 : s.l1 ≤ 1048576
  g2 : s.l2 ≤ 1048576
theorem wr_add (a b : Nat) (h : a + b ≤ 1000000000) : wrap64 ((a : Int) + (b : Int)) = ((a + b : Nat) : Int) := by unfold wrap64; omega
theorem wr_one (a : Nat) (h : a + 1 ≤ 1000000000) : wrap64 ((a : Int) + 1) = ((a + 1 : Nat) : Int) := by unfold wrap64; omega
theorem tri {a b c a' b' c' : Nat} (h1 : a = a') (h2 : b = b') (h3 : c = c') : (((a : Nat) : Int), ((b : Nat) : Int), ((c : Nat) : Int)) = (((a' : Nat) : Int), ((b' : Nat) : Int), ((c' : Nat) : Int)) := by rw [h1, h2, h3]
theorem colN_sum (tf : ByteArray → List S28) (zf : ByteArray → Int) (hz : ∀ k, zf k = ((dsz (tf k) : Nat) : Int)) (M : Nat) (hM : M ≤ 1000000000) : ∀ (l : List ByteArray) (a b c : Nat), a + l.length ≤ M → b + sumK (vN tf) l ≤ M → c + sumK (bN tf) l ≤ M →
    colN tf zf l a b c = (((a + (l.filter (fun q => decide ((tf q).length ≠ 0))).length : Nat) : Int), ((b + sumK (vN tf) (l.filter (fun q => decide ((tf q).length ≠ 0))) : Nat) : Int), ((c + sumK (bN tf) (l.filter (fun q => decide ((tf q).length ≠ 0))) : Nat) : Int)) := by
  intro l
  induction l with
  | nil => intro a b c _ _ _; simp [colN, sumK_nil]
  | cons k t ih =>
    intro a b c h1 h2 h3
    rw [sumK_cons] at h2 h3
    rw [List.length_cons] at h1
    have hv : vN tf k = (tf k).length := rfl
    have hb : bN tf k = k.size + dsz (tf k) := rfl
    rw [List.filter_cons]
    by_cases h0 : (tf k).length = 0
    · rw [if_neg (by simp [h0])]
      simp only [colN, if_pos h0]
      exact ih a b c (by omega) (by omega) (by omega)
    · rw [if_pos (by simpa using h0)]
      simp only [colN, if_neg h0, hz]
      have b1 : a + 1 ≤ 1000000000 := by omega
      have b2 : b + (tf k).length ≤ 1000000000 := by omega
      have b3 : k.size + dsz (tf k) ≤ 1000000000 := by omega
      have b4 : c + (k.size + dsz (tf k)) ≤ 1000000000 := by omega
      have i1 := ih (a + 1) (b + (tf k).length) (c + (k.size + dsz (tf k))) (by omega) (by omega) (by omega)
      rw [wr_one a b1, wr_add b (tf k).length b2, wr_add k.size (dsz (tf k)) b3, wr_add c (k.size + dsz (tf k)) b4, i1]
      clear i1 ih
      rw [List.length_cons, sumK_cons, sumK_cons, hv, hb]
      exact tri (by omega) (by omega) (by omega)
theorem Sized.col {m : Nat} {s : SS} (hs : Sized s) (h : Good m s) (hf : Fits s) (low : Int) : Sized (colP s low) ∧ Fits (colP s low) := by
  have hz : ∀ k, zfP s low k = ((dsz (tfP s low k) : Nat) : Int) := fun _ => rfl
  have t1 : sumK (vN (tfP s low)) s.keys ≤ sumK (vN s.ch) s.keys := sumK_le (fun k _ => trim_len _ _)
  have t2 : sumK (bN (tfP s low)) s.keys ≤ sumK (bN s.ch) s.keys := sumK_le (fun k _ => by have := dsz_sub (trim_sub (s.ch k) low); show k.size + dsz (trimF (s.ch k) low) ≤ k.size + dsz (s.ch k); omega)
  have e0 := hs.z0
  have e1 := hs.z1
  have e2 := hs.z2
  obtain ⟨f0, f1, f2, g0, g1, g2⟩ := hf
  have hc := colN_sum (tfP s low) (zfP s low) hz 1000000000 (Nat.le_refl _) s.keys 0 0 0 (by omega) (by omega) (by omega)
  simp only [Nat.zero_add] at hc
  have hk := col_keys s low
  have hch := h.col_ch low
  have q0 : (colP s low).n0 = (((colP s low).keys.length : Nat) : Int) := by
    show (colN (tfP s low) (zfP s low) s.keys 0 0 0).1 = _
    exact (congrArg (·.1) hc).trans (by first | rfl | (rw [hk]; rfl))
  have q1 : (colP s low).n1 = ((sumK (vN (tfP s low)) (colP s low).keys : Nat) : Int) := by
    show (colN (tfP s low) (zfP s low) s.keys 0 0 0).2.1 = _
    exact (congrArg (·.2.1) hc).trans (by first | rfl | (rw [hk]; rfl))
  have q2 : (colP s low).n2 = ((sumK (bN (tfP s low)) (colP s low).keys : Nat) : Int) := by
    show (colN (tfP s low) (zfP s low) s.keys 0 0 0).2.2 = _
    exact (congrArg (·.2.2) hc).trans (by first | rfl | (rw [hk]; rfl))
  have hce : (colP s low).ch = tfP s low := hch
  have u0 : (colP s low).keys.length ≤ s.keys.length := by rw [hk]; exact List.length_filter_le _ _
  have u1 : sumK (vN (tfP s low)) (colP s low).keys ≤ sumK (vN s.ch) s.keys := by rw [hk]; exact sumK_filter _ _ _ _ (fun k _ => trim_len _ _)
  have u2 : sumK (bN (tfP s low)) (colP s low).keys ≤ sumK (bN s.ch) s.keys := by rw [hk]; exact sumK_filter _ _ _ _ (fun k _ => by have := dsz_sub (trim_sub (s.ch k) low); show k.size + dsz (trimF (s.ch k) low) ≤ k.size + dsz (s.ch k); omega)
  refine ⟨⟨q0, by rw [hce]; exact q1, by rw [hce]; exact q2⟩, ⟨?_, ?_, ?_, g0, g1, g2⟩⟩
  · show (colP s low).n0 ≤ s.l0; omega
  · show (colP s low).n1 ≤ s.l1; omega
  · show (colP s low).n2 ≤ s.l2; omega
theorem comesN_sum (ch : ByteArray → List S28) (M : Nat) (hM : M ≤ 1000000000) : ∀ (l : List S102) (a b c : Nat), a + l.length ≤ M → b + l.length ≤ M → c + sumK (fun x : S102 => x.f2.length + x.f0.size) l ≤ M →
    comesN ch l a b c = (((a + ((comesL ch l).filter (fun x => decide ((ch x.f0).length = 0))).length : Nat) : Int), ((b + (comesL ch l).length : Nat) : Int), ((c + (sumK (fun x : S102 => x.f2.length) (comesL ch l) + sumK (fun x : S102 => x.f0.size) ((comesL ch l).filter (fun x => decide ((ch x.f0).length = 0)))) : Nat) : Int)) := by
  intro l
  induction l with
  | nil => intro a b c _ _ _; simp [comesN, comesL, sumK_nil]
  | cons x t ih =>
    intro a b c h1 h2 h3
    rw [sumK_cons] at h3
    rw [List.length_cons] at h1 h2
    simp only [comesN, comesL]
    by_cases hg : (x.f1 && goneC (ch x.f0)) = true
    · rw [if_pos hg, if_pos hg]
      exact ih a b c (by omega) (by omega) (by omega)
    · rw [if_neg hg, if_neg hg, List.filter_cons, sumK_cons, List.length_cons]
      have b1 : a + 1 ≤ 1000000000 := by omega
      have b2 : b + 1 ≤ 1000000000 := by omega
      have b3 : c + x.f2.length ≤ 1000000000 := by omega
      have b4 : c + x.f2.length + x.f0.size ≤ 1000000000 := by omega
      have i1 := ih (a + 1) (b + 1) (c + x.f2.length + x.f0.size) (by omega) (by omega) (by omega)
      have i2 := ih a (b + 1) (c + x.f2.length) (by omega) (by omega) (by omega)
      by_cases h0 : (ch x.f0).length = 0
      · rw [if_pos h0, if_pos (by simpa using h0), wr_one a b1, wr_one b b2, wr_add c x.f2.length b3, wr_add (c + x.f2.length) x.f0.size b4, i1]
        clear i1 i2 ih
        rw [sumK_cons, List.length_cons]
        exact tri (by omega) (by omega) (by omega)
      · rw [if_neg h0, if_neg (by simpa using h0), wr_one b b2, wr_add c x.f2.length b3, i2]
        clear i1 i2 ih
        exact tri (by omega) (by omega) (by omega)
theorem dsz_vers (now : Int) (a : List S28) (b : List S102) : dsz (a ++ b.map (verOf now)) = dsz a + sumK (fun x : S102 => x.f2.length) b := by
  unfold dsz sumK
  rw [List.map_append, List.sum_append, List.map_map]
  rfl
theorem put_sums {m : Nat} {s1 : SS} (h : Good m s1) {L : List S102} (hn : (L.map (·.f0)).Nodup) :
    (insK (pfP s1 L) L s1.keys).length = s1.keys.length + (L.filter (fun x => decide ((s1.ch x.f0).length = 0))).length ∧
    sumK (vN (pfP s1 L)) (insK (pfP s1 L) L s1.keys) = sumK (vN s1.ch) s1.keys + L.length ∧
    sumK (bN (pfP s1 L)) (insK (pfP s1 L) L s1.keys) = sumK (bN s1.ch) s1.keys + (sumK (fun x : S102 => x.f2.length) L + sumK (fun x : S102 => x.f0.size) (L.filter (fun x => decide ((s1.ch x.f0).length = 0)))) := by
  obtain ⟨hso, hme⟩ := insK_all (pfP s1 L) L s1.keys h.so hn (pf_len h hn)
  have hnd := hso.nodup
  have hin : ∀ x ∈ L, x.f0 ∈ insK (pfP s1 L) L s1.keys := fun x hx => (hme _).2 (.inr (List.mem_map.2 ⟨x, hx, rfl⟩))
  have hfl : L.filter (fun x => decide ((pfP s1 L x.f0).length = 1)) = L.filter (fun x => decide ((s1.ch x.f0).length = 0)) := by
    refine List.filter_congr (fun x hx => ?_)
    rw [decide_eq_decide, pf_len h hn x hx, h.me, Classical.not_not, List.length_eq_zero_iff]
  have hz : ∀ x ∈ L.filter (fun x => decide ((s1.ch x.f0).length = 0)), s1.ch x.f0 = [] := fun x hx => by
    have := (List.mem_filter.1 hx).2
    exact List.length_eq_zero_iff.1 (of_decide_eq_true this)
  refine ⟨?_, ?_, ?_⟩
  · rw [← sumK_one, sumK_insK, sumK_one, hfl, sumK_one]
  · have e : sumK (vN (pfP s1 L)) (insK (pfP s1 L) L s1.keys) = sumK (fun k => vN s1.ch k + sumK (fun _ => 1) (L.filter (fun x => decide (x.f0 = k)))) (insK (pfP s1 L) L s1.keys) := by
      refine sumK_congr (fun k _ => ?_)
      rw [sumK_one]
      simp [vN, pfP]
    have e3 : sumK (fun x : S102 => vN s1.ch x.f0) (L.filter (fun x => decide ((s1.ch x.f0).length = 0))) = 0 := sumK_zero (fun x hx => by
      show (s1.ch x.f0).length = 0
      rw [hz x hx]
      rfl)
    rw [e, sumK_add, sumK_weigh (fun _ => 1) _ hnd L hin, sumK_one, sumK_insK, hfl, e3]
    rfl
  · have e : sumK (bN (pfP s1 L)) (insK (pfP s1 L) L s1.keys) = sumK (fun k => bN s1.ch k + sumK (fun x : S102 => x.f2.length) (L.filter (fun x => decide (x.f0 = k)))) (insK (pfP s1 L) L s1.keys) := by
      refine sumK_congr (fun k _ => ?_)
      show k.size + dsz (s1.ch k ++ (L.filter (fun x => decide (x.f0 = k))).map (verOf s1.now)) = k.size + dsz (s1.ch k) + _
      rw [dsz_vers, Nat.add_assoc]
    have e2 : sumK (fun x : S102 => bN s1.ch x.f0) (L.filter (fun x => decide ((s1.ch x.f0).length = 0))) = sumK (fun x : S102 => x.f0.size) (L.filter (fun x => decide ((s1.ch x.f0).length = 0))) := by
      refine sumK_congr (fun x hx => ?_)
      show x.f0.size + dsz (s1.ch x.f0) = x.f0.size
      rw [hz x hx]
      rfl
    rw [e, sumK_add, sumK_weigh _ _ hnd L hin, sumK_insK, hfl, e2, Nat.add_assoc, Nat.add_comm (sumK _ (L.filter _)) (sumK _ L)]
theorem sizes_true {m : Nat} {s1 : SS} (h : Good m s1) (hs : Sized s1) (hf : Fits s1) {l : List S102} (hl : l.length ≤ 20) (hk : ∀ x ∈ l, x.f0.size ≤ 300) (hd : ∀ x ∈ l, x.f2.length ≤ 5000) (hn : ((comesL s1.ch l).map (·.f0)).Nodup) :
    sizesOf s1 l = ((((insK (pfP s1 (comesL s1.ch l)) (comesL s1.ch l) s1.keys).length : Nat) : Int), ((sumK (vN (pfP s1 (comesL s1.ch l))) (insK (pfP s1 (comesL s1.ch l)) (comesL s1.ch l) s1.keys) : Nat) : Int), ((sumK (bN (pfP s1 (comesL s1.ch l))) (insK (pfP s1 (comesL s1.ch l)) (comesL s1.ch l) s1.keys) : Nat) : Int)) := by
  obtain ⟨e0, e1, e2⟩ := put_sums h hn
  obtain ⟨f0, f1, f2, g0, g1, g2⟩ := hf
  have z0 := hs.z0
  have z1 := hs.z1
  have z2 := hs.z2
  have hb : sumK (fun x : S102 => x.f2.length + x.f0.size) l ≤ 5300 * l.length := by
    have : sumK (fun x : S102 => x.f2.length + x.f0.size) l ≤ sumK (fun _ => 5300) l := sumK_le (fun x hx => by have := hk x hx; have := hd x hx; omega)
    have h2 : ∀ q : List S102, sumK (fun _ => 5300) q = 5300 * q.length := fun q => by
      induction q with
      | nil => rfl
      | cons x t ih => rw [sumK_cons, ih, List.length_cons]; omega
    rw [h2] at this
    exact this
  have b0 : s1.keys.length + l.length ≤ 1000000000 := by omega
  have b1 : sumK (vN s1.ch) s1.keys + l.length ≤ 1000000000 := by omega
  have b2 : sumK (bN s1.ch) s1.keys + sumK (fun x : S102 => x.f2.length + x.f0.size) l ≤ 1000000000 := by omega
  have hc := comesN_sum s1.ch 1000000000 (Nat.le_refl _) l s1.keys.length (sumK (vN s1.ch) s1.keys) (sumK (bN s1.ch) s1.keys) b0 b1 b2
  unfold sizesOf
  rw [z0, z1, z2, hc]
  exact tri e0.symm e1.symm e2.symm
theorem Sized.put {m : Nat} {s1 : SS} (h : Good m s1) (hs : Sized s1) (hf : Fits s1) {l : List S102} (hl : l.length ≤ 20) (hk : ∀ x ∈ l, x.f0.size ≤ 300) (hd : ∀ x ∈ l, x.f2.length ≤ 5000) (hn : ((comesL s1.ch l).map (·.f0)).Nodup) (hfit : fitsB s1 (sizesOf s1 l) = true) :
    Sized (putS s1 (pfP s1 (comesL s1.ch l)) (comesL s1.ch l) (sizesOf s1 l)) ∧ Fits (putS s1 (pfP s1 (comesL s1.ch l)) (comesL s1.ch l) (sizesOf s1 l)) := by
  have e := sizes_true h hs hf hl hk hd hn
  have hch : (putS s1 (pfP s1 (comesL s1.ch l)) (comesL s1.ch l) (sizesOf s1 l)).ch = pfP s1 (comesL s1.ch l) := pf_colCh s1 _
  have hb : ((sizesOf s1 l).1 ≤ s1.l0 ∧ (sizesOf s1 l).2.1 ≤ s1.l1) ∧ (sizesOf s1 l).2.2 ≤ s1.l2 := by
    simpa only [fitsB, Bool.and_eq_true, decide_eq_true_eq] using hfit
  refine ⟨⟨?_, ?_, ?_⟩, ⟨hb.1.1, hb.1.2, hb.2, hf.g0, hf.g1, hf.g2⟩⟩
  · exact congrArg (·.1) e
  · rw [hch]; exact congrArg (·.2.1) e
  · rw [hch]; exact congrArg (·.2.2) e
theorem Sized.coS {m : Nat} {s : SS} (h : Good m s) (hs : Sized s) (hf : Fits s) (l : List S102) (low : Int) : Sized (comS s l low) ∧ Fits (comS s l low) := by
  rcases comS_cases s l low with e | e <;> rw [e]
  · exact ⟨hs, hf⟩
  · exact hs.col h hf low
theorem Sized.com {m : Nat} {s : SS} (h : Good m s) (hs : Sized s) (hf : Fits s) {l : List S102} (hl : l.length ≤ 20) (hk : ∀ x ∈ l, x.f0.size ≤ 300) (hd : ∀ x ∈ l, x.f2.length ≤ 5000) (low : Int) : Sized (comP s l low).2.2 ∧ Fits (comP s l low).2.2 := by
  unfold comP comR
  split
  · exact ⟨hs, hf⟩
  rename_i h1
  split
  · exact ⟨hs, hf⟩
  split
  · exact ⟨hs, hf⟩
  have hw := chk_wok (Classical.not_not.1 h1)
  obtain ⟨hs1, hf1⟩ := hs.coS h hf l low
  split
  · rename_i hfit
    exact Sized.put (h.coS l low) hs1 hf1 hl hk hd ((hw.sub (comesL_sub (comS s l low).ch l)).so.nodup) hfit
  · exact ⟨hs1, hf1⟩
theorem Sized.op {m : Nat} {s : SS} (h : Good m s) (hs : Sized s) (hf : Fits s) {o : S55} (ho : FewOp o) : Sized (opP s o).2 ∧ Fits (opP s o).2 := by
  unfold opP
  split
  · exact hs.com h hf ho.len ho.key ho.dat o.f2
  split
  · exact hs.col h hf o.f2
  split
  · exact ⟨hs, hf⟩
  split <;> exact ⟨hs, hf⟩
theorem sized_new (l0 l1 l2 l3 l4 l5 last : Int) (h0 : Room l0) (h1 : Room l1) (h2 : Room l2) : Sized (noStore l0 l1 l2 l3 l4 l5 last) ∧ Fits (noStore l0 l1 l2 l3 l4 l5 last) :=
  ⟨⟨rfl, rfl, rfl⟩, ⟨by have := h0.1; show (0 : Int) ≤ l0; omega, by have := h1.1; show (0 : Int) ≤ l1; omega, by have := h2.1; show (0 : Int) ≤ l2; omega, h0.2, h1.2, h2.2⟩⟩
theorem trim_late {l : List S28} (hs : rgt 0 l = true) {a b : Int} (hab : a ≤ b) (ht : ∀ v ∈ l, v.f0 ≤ a) : trimF l b = trimF l a := by
  have e : ∀ c, a ≤ c → up l c = l.length := fun c hc => up_is hs ⟨Nat.le_refl _, fun j hj _ => Int.le_trans (ht _ (List.getElem_mem hj)) hc, fun j hj h2 => by omega⟩
  unfold trimF
  rw [e a (Int.le_refl a), e b hab]
theorem get_colnow {m : Nat} {s : SS} (h : Good m s) (low : Int) (key : ByteArray) : getF ((colP s low).ch key) s.now = getF (s.ch key) s.now := by
  rw [h.col_ch]
  show getF (trimF (s.ch key) low) s.now = _
  by_cases hl : low ≤ s.now
  · exact get_trimF (h.rg key) hl
  · rw [trim_late (h.rg key) (a := s.now) (b := low) (by omega) (fun v hv => h.tm key v hv)]
    exact get_trimF (h.rg key) (Int.le_refl _)
theorem com_went {m : Nat} {s : SS} (h : Good m s) (l : List S102) (low : Int) :
    ((comP s l low).2.1 = 0 → 0 < l.length → (comP s l low).2.2.now = s.now + 1 ∧ (comP s l low).1 = s.now + 1) ∧
    (¬ ((comP s l low).2.1 = 0 ∧ 0 < l.length) → (comP s l low).2.2.now = s.now ∧ ∀ key, getF ((comP s l low).2.2.ch key) s.now = getF (s.ch key) s.now) := by
  unfold comP comR
  by_cases h1 : chkL none l ≠ 0
  · rw [if_pos h1]
    exact ⟨fun e => absurd e h1, fun _ => ⟨rfl, fun _ => rfl⟩⟩
  rw [if_neg h1]
  by_cases h2 : l.length = 0
  · rw [if_pos h2]
    exact ⟨fun _ e => by omega, fun _ => ⟨rfl, fun _ => rfl⟩⟩
  rw [if_neg h2]
  by_cases h3 : s.last ≤ s.now
  · rw [if_pos h3]
    exact ⟨fun e => (by cases e), fun _ => ⟨rfl, fun _ => rfl⟩⟩
  rw [if_neg h3]
  by_cases h4 : fitsB (comS1 s l (tfP s low) (zfP s low)) (sizesOf (comS1 s l (tfP s low) (zfP s low)) l) = true
  · rw [if_pos h4]
    have hn : (comS s l low).now = s.now := comS_now s l low
    exact ⟨fun _ _ => ⟨by show (comS s l low).now + 1 = s.now + 1; rw [hn], rfl⟩, fun e => absurd ⟨rfl, by omega⟩ e⟩
  · rw [if_neg h4]
    refine ⟨fun e => (by cases e), fun _ => ⟨comS_now s l low, fun key => ?_⟩⟩
    show getF ((comS s l low).ch key) s.now = _
    rcases comS_cases s l low with e | e <;> rw [e]
    exact get_colnow h low key
theorem op_went {m : Nat} {s : SS} (h : Good m s) (o : S55) :
    (o.f0 = 0 → (opP s o).1.e = 0 → 0 < o.f1.length → (opP s o).2.now = s.now + 1 ∧ (opP s o).1.n = s.now + 1) ∧
    (¬ (o.f0 = 0 ∧ (opP s o).1.e = 0 ∧ 0 < o.f1.length) → (opP s o).2.now = s.now ∧ ∀ key, getF ((opP s o).2.ch key) s.now = getF (s.ch key) s.now) := by
  unfold opP
  by_cases h0 : o.f0 = 0
  · rw [if_pos h0]
    have := com_went h o.f1 o.f2
    exact ⟨fun _ e hl => this.1 e hl, fun hn => this.2 (fun hh => hn ⟨h0, hh.1, hh.2⟩)⟩
  rw [if_neg h0]
  refine ⟨fun e => absurd e h0, fun _ => ?_⟩
  by_cases h1 : o.f0 = 1
  · rw [if_pos h1]
    exact ⟨rfl, get_colnow h o.f2⟩
  rw [if_neg h1]
  by_cases h2 : o.f0 = 2
  · rw [if_pos h2]
    exact ⟨rfl, fun _ => rfl⟩
  rw [if_neg h2]
  by_cases h3 : o.f0 = 3
  · rw [if_pos h3]
    exact ⟨rfl, fun _ => rfl⟩
  rw [if_neg h3]
  exact ⟨rfl, fun _ => rfl⟩
theorem com_lim (s : SS) (l : List S102) (low : Int) : (comP s l low).2.2.l0 = s.l0 ∧ (comP s l low).2.2.l1 = s.l1 ∧ (comP s l low).2.2.l2 = s.l2 ∧ (comP s l low).2.2.last = s.last := by
  have hc : (comS s l low).l0 = s.l0 ∧ (comS s l low).l1 = s.l1 ∧ (comS s l low).l2 = s.l2 ∧ (comS s l low).last = s.last := by
    rcases comS_cases s l low with e | e <;> rw [e] <;> exact ⟨rfl, rfl, rfl, rfl⟩
  unfold comP comR
  split
  · exact ⟨rfl, rfl, rfl, rfl⟩
  split
  · exact ⟨rfl, rfl, rfl, rfl⟩
  split
  · exact ⟨rfl, rfl, rfl, rfl⟩
  split <;> exact hc
theorem op_lim (s : SS) (o : S55) : (opP s o).2.l0 = s.l0 ∧ (opP s o).2.l1 = s.l1 ∧ (opP s o).2.l2 = s.l2 ∧ (opP s o).2.last = s.last := by
  unfold opP
  split
  · exact com_lim _ _ _
  split
  · exact ⟨rfl, rfl, rfl, rfl⟩
  split
  · exact ⟨rfl, rfl, rfl, rfl⟩
  split <;> exact ⟨rfl, rfl, rfl, rfl⟩
structure Lim (m : Nat) (s0 s : SS) : Prop where
  good : Good m s
  sized : Sized s
  fits : Fits s
  l0 : s.l0 = s0.l0
  l1 : s.l1 = s0.l1
  l2 : s.l2 = s0.l2
  la : s.last = s0.last
theorem Lim.op {m : Nat} {s0 s : SS} (h : Lim m s0 s) {o : S55} (ho : FewOp o) : Lim (m + 1) s0 (opP s o).2 := by
  obtain ⟨a, b⟩ := Sized.op h.good h.sized h.fits ho
  obtain ⟨e0, e1, e2, e3⟩ := op_lim s o
  exact ⟨h.good.op ho, a, b, e0.trans h.l0, e1.trans h.l1, e2.trans h.l2, e3.trans h.la⟩
theorem Lim.run : ∀ (l : List S55) {m : Nat} {s0 s : SS}, Lim m s0 s → (∀ o ∈ l, FewOp o) → Lim (m + l.length) s0 (runP s l)
  | [], _, _, _, h, _ => h
  | o :: t, m, s0, s, h, hf => by
    have := Lim.run t (h.op (hf o (List.mem_cons_self ..))) (fun x hx => hf x (List.mem_cons_of_mem _ hx))
    rw [List.length_cons, show m + (t.length + 1) = m + 1 + t.length by omega]
    exact this
theorem Good.lim {m m' : Nat} {s0 s : SS} (h : Lim m s0 s) (hm : m ≤ m') : Lim m' s0 s := { h with good := h.good.mono hm }
theorem Lim.runTake {m : Nat} {s0 s : SS} (h : Lim m s0 s) (l : List S55) (hf : ∀ o ∈ l, FewOp o) (i : Nat) : Lim (m + i) s0 (runP s (l.take i)) :=
  Good.lim (Lim.run _ h (fun o ho => hf o (List.mem_of_mem_take ho))) (by rw [List.length_take]; omega)
theorem lim_new (q0 q1 q2 q3 q4 q5 q6 : Int) (h0 : Room q0) (h1 : Room q1) (h2 : Room q2) (h5 : 0 ≤ q6) (h6 : q6 ≤ 18446744073709551615) : Lim 0 (noStore q0 q1 q2 q3 q4 q5 q6) (noStore q0 q1 q2 q3 q4 q5 q6) :=
  ⟨good_new q0 q1 q2 q3 q4 q5 q6 h5 h6, (sized_new q0 q1 q2 q3 q4 q5 q6 h0 h1 h2).1, (sized_new q0 q1 q2 q3 q4 q5 q6 h0 h1 h2).2, rfl, rfl, rfl, rfl⟩
instance (n : Int) : Decidable (Room n) := inferInstanceAs (Decidable (1 ≤ n ∧ n ≤ 1048576))
theorem room_f (n : Int) : conductorref08_room.f n = some (decide (Room n)) := by
  unfold conductorref08_room.f
  by_cases h : n ≥ 1
  · rw [if_pos h]
    exact congrArg some (decide_eq_decide.2 ⟨fun k => ⟨h, k⟩, fun k => k.2⟩)
  · rw [if_neg h]
    exact congrArg some (decide_eq_false (p := Room n) (fun k => h k.1)).symm
theorem may_f (q0 q1 q2 q3 q4 q5 q6 : Int) (h6 : 0 ≤ q6) : conductorref08_May.f q0 q1 q2 q3 q4 q5 q6 = some (decide (Room q0 ∧ Room q1 ∧ Room q2 ∧ q6 ≠ 0)) := by
  unfold conductorref08_May.f
  simp only [room_f, Option.bind_some, decide_eq_true_eq]
  by_cases a : Room q0
  · by_cases b : Room q1
    · by_cases c : Room q2
      · simp only [a, b, c, if_true, true_and]
        congr 1
        rw [decide_eq_decide]
        omega
      · simp [a, b, c]
    · simp [a, b]
  · simp [a]
end Go.Proofs.Yteofdgonpbmdlaa.St
