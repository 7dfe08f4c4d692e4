/- Texts of this session, merged for the law StoreUnseen: C34, PD, TE, TD, C30, C35, TU, TV. No condition. -/
import Derived.Test.YteofdgonpbmdlaaZStoreUnseeno
import Derived.Test.YteofdgonpbmdlaaZStoreUnseenu
import Derived.Test.YteofdgonpbmdlaaZStoreUnseent
import Derived.Test.YteofdgonpbmdlaaZStoreUnseenp
import Derived.Carry
import Derived.Lib.SlBytesConst
import Derived.Laws.IdiomStrings
set_option linter.unusedVariables false
set_option linter.unusedSimpArgs false
namespace Go.Proofs.Yteofdgonpbmdlaa.C
open Go.RowKit Go.Proofs.YteofdgonpbmdlaaW.PrintWords Go.Proofs.YteofdgonpbmdlaaW.PrintLast Go.Proofs.YteofdgonpbmdlaaW.PrintMore
attribute [local go_sem] max2_int min2_int max2_str min2_str str_leq str_gtr str_geq max_two min_two max_three min_three max_four min_four   -- for this text's walks alone
set_option linter.unusedVariables false
set_option linter.unusedSimpArgs false
def conductorlaw08_few.l0 : Nat → List (S55) → List (S55) → Int → Int → Option (Bool)
 | 0, _, _, _, _ => none
 | k + 1, x0, x5, x6, x7 => if x7 < x6 then (if 0 ≤ x7 then (if x7 < (x5.length : Int) then ((conductorlaw08_writes.f k ((rd_T55 x5 x7).f1)).bind fun t420 => (if t420 = true then (if (((rd_T55 x5 x7).f4).size : Int) > 300 then (some false) else (if (((rd_T55 x5 x7).f5).size : Int) > 300 then (some false) else (conductorlaw08_few.l0 k x0 x5 x6 (wrap64 (x7 + 1))))) else (some false))) else (none)) else (none)) else (some (decide ((x0.length : Int) ≤ 40)))
def conductorlaw08_few.f (k : Nat) (l0 : List (S55)) : Option (Bool) := conductorlaw08_few.l0 k l0 l0 (l0.length : Int) 0
theorem conductorlaw08_few.mono_l : ∀ k, (∀ y0 y1 y2 y3, LeO (conductorlaw08_few.l0 k y0 y1 y2 y3) (conductorlaw08_few.l0 (k + 1) y0 y1 y2 y3))
 | 0 => fun _ _ _ _ r h => by simp [conductorlaw08_few.l0] at h
 | k + 1 => by
  have ih0 := conductorlaw08_few.mono_l k
  ·intro y0 y1 y2 y3
   unfold conductorlaw08_few.l0
   repeat' first
   | (with_reducible exact ih0 _ _ _ _)
   | (with_reducible exact conductorlaw08_writes.mono _ _)
   | (with_reducible exact LeO.refl _)
   | (with_reducible exact LeO.none _)
   | (with_reducible refine LeO.ite ?_ ?_)
   | (with_reducible refine LeO.bind ?_ (fun _ => ?_))
   | exact ih0 _ _ _ _
   | exact conductorlaw08_writes.mono _ _
   | exact LeO.none _
   | refine LeO.ite ?_ ?_
   | refine LeO.bind ?_ (fun _ => ?_)
theorem conductorlaw08_few.mono : ∀ a0 k, LeO (conductorlaw08_few.f k a0) (conductorlaw08_few.f (k + 1) a0) := by
 intro a0 k
 have ih0 := conductorlaw08_few.mono_l k
 unfold conductorlaw08_few.f
 repeat' first
   | (with_reducible exact ih0 _ _ _ _)
   | (with_reducible exact conductorlaw08_writes.mono _ _)
   | (with_reducible exact LeO.refl _)
   | (with_reducible exact LeO.none _)
   | (with_reducible refine LeO.ite ?_ ?_)
   | (with_reducible refine LeO.bind ?_ (fun _ => ?_))
   | exact ih0 _ _ _ _
   | exact conductorlaw08_writes.mono _ _
   | exact LeO.none _
   | refine LeO.ite ?_ ?_
   | refine LeO.bind ?_ (fun _ => ?_)
set_option maxHeartbeats 8000000 in
set_option maxRecDepth 100000 in
theorem conductorlaw08_few.calls (k : Nat) (A0 : Option Addr) (c0 : Nat) (l0 : List (S55)) (r : Bool) (w : World) (hr0 : Kd.C k55 w A0 l0.length l0) (hc0 : l0.length ≤ c0) (h : conductorlaw08_few.f k l0 = some r) :
  Calls Try.prog 38 #[.slice A0 l0.length c0] w fun e w' => e = .returned (.bool r) ∧ Below w.heap.size w w' := by
 have hu55 := Try.underlying55
 have HR0 := Aside0.mk hr0
 have HC0 := Aside0.mk hc0
 clear hr0 hc0
 have HB := Aside0.mk (Below.refl w.heap.size w)
 have H : (conductorlaw08_few.l0 k l0 l0 (l0.length : Int) 0) = some r := h
 clear h
 have H' := Aside0.mk H
 clear H
 go_enter Try.func38, Try.ntmps38
 go_wp2
 go_loopg [7] k (fun kq v7 w' => ∃ (x7_1 : Int), v7 = .int .i64 x7_1 ∧ Aside0 (conductorlaw08_few.l0 kq l0 l0 (l0.length : Int) x7_1 = some r) ∧ Aside0 (kq ≤ k) ∧ Aside0 (Below w.heap.size w w'))
 case atStart => exact ⟨(0), (by first | rfl | (simp; done) | (simp [*]; done)), H', ⟨Nat.le_refl _⟩, ⟨by repeat (first | (with_reducible first | exact HB.out | apply below_alloc | apply pw_below_drewN | apply below_drew1) | exact HB.out)⟩⟩
 case round =>
  clear H'
  obtain ⟨x7_1, rfl, HA, HK1, HB⟩ := hrel
  cases gk with
  | zero => exact absurd HA.out (by simp [conductorlaw08_few.l0])
  | succ k1 =>
   have H := HA.out
   clear HA
   simp only [conductorlaw08_few.l0] at H
   by_cases c2 : x7_1 < (l0.length : Int)
   ·rw [if_pos c2] at H
    have c2b0 : decide (x7_1 < (l0.length : Int)) = true := decide_eq_true c2
    clear c2
    by_cases c3 : 0 ≤ x7_1
    ·rw [if_pos c3] at H
     have c3b0 : decide (0 ≤ x7_1) = true := decide_eq_true c3
     clear c3
     by_cases c4 : x7_1 < (l0.length : Int)
     ·rw [if_pos c4] at H
      have c4b0 : decide (x7_1 < (l0.length : Int)) = true := decide_eq_true c4
      clear c4
      replace H := Option.bind_eq_some_iff.mp H
      obtain ⟨t420, A50, H⟩ := H
      replace H : (if t420 = true then (if (((rd_T55 l0 x7_1).f4).size : Int) > 300 then (some false) else (if (((rd_T55 l0 x7_1).f5).size : Int) > 300 then (some false) else (conductorlaw08_few.l0 k1 l0 l0 (l0.length : Int) (wrap64 (x7_1 + 1))))) else (some false)) = some r := H
      have A5 := Aside0.mk A50
      clear A50
      by_cases c6 : t420 = true
      ·subst c6
       have H1 : (if (((rd_T55 l0 x7_1).f4).size : Int) > 300 then (some false) else (if (((rd_T55 l0 x7_1).f5).size : Int) > 300 then (some false) else (conductorlaw08_few.l0 k1 l0 l0 (l0.length : Int) (wrap64 (x7_1 + 1))))) = some r := by rw [if_pos rfl] at H; exact H
       clear H
       have H := H1
       clear H1
       by_cases c7 : (((rd_T55 l0 x7_1).f4).size : Int) > 300
       ·rw [if_pos c7] at H
        have c7b0 : decide (300 < (((rd_T55 l0 x7_1).f4).size : Int)) = true := decide_eq_true c7
        have c7b1 : decide (300 < ((rd_T55 l0 x7_1).f4).size) = true := decide_eq_true (by omega)
        clear c7
        obtain rfl := Option.some.inj H
        have p418 : 0 ≤ (x7_1 : Int) := of_decide_eq_true (by first | (with_reducible assumption) | assumption)
        have q418 : x7_1 < (l0.length : Int) := of_decide_eq_true (by first | (with_reducible assumption) | assumption)
        obtain ⟨ad418, A418_1, c418_1, e418, hx418_0, hx418_1, hx418_2, hx418_3, hx418_4, hx418_5, hl418_1, hi418_1⟩ := at_T55 HR0.out x7_1 p418 q418
        cases e418
        replace hx418_0 := (HB.out.cell (World.block_lt_of_cell? w _ hx418_0)).trans hx418_0
        replace hx418_1 := (HB.out.cell (World.block_lt_of_cell? w _ hx418_1)).trans hx418_1
        replace hx418_2 := (HB.out.cell (World.block_lt_of_cell? w _ hx418_2)).trans hx418_2
        replace hx418_3 := (HB.out.cell (World.block_lt_of_cell? w _ hx418_3)).trans hx418_3
        replace hx418_4 := (HB.out.cell (World.block_lt_of_cell? w _ hx418_4)).trans hx418_4
        replace hx418_5 := (HB.out.cell (World.block_lt_of_cell? w _ hx418_5)).trans hx418_5
        have HR418_1 := Aside0.mk hi418_1
        have HC418_1 := Aside0.mk hl418_1
        clear hi418_1 hl418_1
        replace p418 := eq_true p418
        replace q418 := eq_true q418
        go_wp2_with (first | ((with_reducible refine gate_dst (N := 4) rfl ?_); (try (refine gate_guard (by rfl) ?_; dsimp only)); refine box_event ?hg (N := 4) ?hd (cs := #[.int .i64 0, .slice none 0 0, .int .u64 0, .int .u64 0, .string (⟨#[]⟩ : ByteArray), .string (⟨#[]⟩ : ByteArray)]) (t := 55) ?hr ?_; (case hd => rfl); (case hg => rfl); (case hr => first | (go_simp; done) | (go_simp; rfl)); intro gb419 hg w8 hbox hb; have n0_ := Aside0.mk (below_step (by repeat (first | (with_reducible first | exact HB.out | apply below_alloc | apply pw_below_drewN | apply below_drew1) | exact HB.out)) hb); have n1_ := Aside0.mk (hbox); have n2_ := Aside0.mk ((by rw [hg]; exact (below_size (by repeat (first | (with_reducible first | exact HB.out | apply below_alloc | apply pw_below_drewN | apply below_drew1) | exact HB.out))) : w.heap.size ≤ gb419)); have n3_ := Aside0.mk ((by rw [hg]; exact (below_size (by repeat (first | (with_reducible first | exact HB.out | apply below_alloc | apply pw_below_drewN | apply below_drew1) | exact HB.out))) : w.heap.size ≤ gb419)); clear HB; have HB := n0_; have BK419 := n1_; have GW419 := n2_; have GE419 := n3_; clear n0_ n1_ n2_ n3_; clear hb hbox hg; have hcz9_0 : w8.cell? ⟨gb419, 0, none⟩ = some (.int .i64 0) := (blk_cell BK419.out 0).trans rfl; have hcz9_1 : w8.cell? ⟨gb419, 1, none⟩ = some (.slice none 0 0) := (blk_cell BK419.out 1).trans rfl; have hcz9_2 : w8.cell? ⟨gb419, 2, none⟩ = some (.int .u64 0) := (blk_cell BK419.out 2).trans rfl; have hcz9_3 : w8.cell? ⟨gb419, 3, none⟩ = some (.int .u64 0) := (blk_cell BK419.out 3).trans rfl; have hcz9_4 : w8.cell? ⟨gb419, 4, none⟩ = some (.string (⟨#[]⟩ : ByteArray)) := (blk_cell BK419.out 4).trans rfl; have hcz9_5 : w8.cell? ⟨gb419, 5, none⟩ = some (.string (⟨#[]⟩ : ByteArray)) := (blk_cell BK419.out 5).trans rfl; have hfz9_0 := blk_frozen BK419.out 0; have hfz9_1 := blk_frozen BK419.out 1; have hfz9_2 := blk_frozen BK419.out 2; have hfz9_3 := blk_frozen BK419.out 3; have hfz9_4 := blk_frozen BK419.out 4; have hfz9_5 := blk_frozen BK419.out 5) | ((with_reducible refine gate_callee (f := 69) rfl ?_); refine goesL_ (some 13) rfl rfl Try.func69 (by kernel_rfl) rfl #[.slice A418_1 ((rd_T55 l0 x7_1).f1).length c418_1] rfl (by (try simp only [List.map_toArray, List.map_cons, List.map_nil]); first | done | rfl | (simp only [List.length_drop, List.length_take]; rfl)) ?_; (with_reducible refine (conductorlaw08_writes.calls k1 _ _ ((rd_T55 l0 x7_1).f1) true _ ?side1 ?side2 A5.out).mono ?_); (case side1 => exact Kd.C_below HR418_1.out (by repeat (first | (with_reducible first | exact HB.out | apply below_alloc | apply pw_below_drewN | apply below_drew1 | refine below_set ?_ GE419.out) | exact HB.out))); (case side2 => exact HC418_1.out); rintro e w10 ⟨rfl, hb⟩; refine ⟨_, rfl, ?_⟩; have n0_ := Aside0.mk (blk_below (g := gb419) (o := .cells #[.int .i64 ((rd_T55 l0 x7_1).f0), .slice A418_1 ((rd_T55 l0 x7_1).f1).length c418_1, .int .u64 ((rd_T55 l0 x7_1).f2), .int .u64 ((rd_T55 l0 x7_1).f3), .string ((rd_T55 l0 x7_1).f4), .string ((rd_T55 l0 x7_1).f5)] 55 (0, 0)) (by (with_reducible repeat (first | refine blk_drewN ?_ _ | refine blk_drew ?_ | refine blk_alloc ?_ _)); refine blk_put (cs := #[.int .i64 ((rd_T55 l0 x7_1).f0), .slice A418_1 ((rd_T55 l0 x7_1).f1).length c418_1, .int .u64 ((rd_T55 l0 x7_1).f2), .int .u64 ((rd_T55 l0 x7_1).f3), .string ((rd_T55 l0 x7_1).f4), .string (⟨#[]⟩ : ByteArray)]) ?_ 5 _ rfl; (with_reducible repeat (first | refine blk_drewN ?_ _ | refine blk_drew ?_ | refine blk_alloc ?_ _)); refine blk_put (cs := #[.int .i64 ((rd_T55 l0 x7_1).f0), .slice A418_1 ((rd_T55 l0 x7_1).f1).length c418_1, .int .u64 ((rd_T55 l0 x7_1).f2), .int .u64 ((rd_T55 l0 x7_1).f3), .string (⟨#[]⟩ : ByteArray), .string (⟨#[]⟩ : ByteArray)]) ?_ 4 _ rfl; (with_reducible repeat (first | refine blk_drewN ?_ _ | refine blk_drew ?_ | refine blk_alloc ?_ _)); refine blk_put (cs := #[.int .i64 ((rd_T55 l0 x7_1).f0), .slice A418_1 ((rd_T55 l0 x7_1).f1).length c418_1, .int .u64 ((rd_T55 l0 x7_1).f2), .int .u64 0, .string (⟨#[]⟩ : ByteArray), .string (⟨#[]⟩ : ByteArray)]) ?_ 3 _ rfl; (with_reducible repeat (first | refine blk_drewN ?_ _ | refine blk_drew ?_ | refine blk_alloc ?_ _)); refine blk_put (cs := #[.int .i64 ((rd_T55 l0 x7_1).f0), .slice A418_1 ((rd_T55 l0 x7_1).f1).length c418_1, .int .u64 0, .int .u64 0, .string (⟨#[]⟩ : ByteArray), .string (⟨#[]⟩ : ByteArray)]) ?_ 2 _ rfl; (with_reducible repeat (first | refine blk_drewN ?_ _ | refine blk_drew ?_ | refine blk_alloc ?_ _)); refine blk_put (cs := #[.int .i64 ((rd_T55 l0 x7_1).f0), .slice none 0 0, .int .u64 0, .int .u64 0, .string (⟨#[]⟩ : ByteArray), .string (⟨#[]⟩ : ByteArray)]) ?_ 1 _ rfl; (with_reducible repeat (first | refine blk_drewN ?_ _ | refine blk_drew ?_ | refine blk_alloc ?_ _)); refine blk_put (cs := #[.int .i64 0, .slice none 0 0, .int .u64 0, .int .u64 0, .string (⟨#[]⟩ : ByteArray), .string (⟨#[]⟩ : ByteArray)]) ?_ 0 _ rfl; (with_reducible repeat (first | refine blk_drewN ?_ _ | refine blk_drew ?_ | refine blk_alloc ?_ _)); exact BK419.out) hb); have n1_ := Aside0.mk (below_step (by repeat (first | (with_reducible first | exact HB.out | apply below_alloc | apply pw_below_drewN | apply below_drew1 | refine below_set ?_ GE419.out) | exact HB.out)) hb); clear BK419; clear HB; have BK419 := n0_; have HB := n1_; clear n0_ n1_; (try clear hb); (try clear hb2); (try clear hk); (try clear hi); have hcz11_0 : w10.cell? ⟨gb419, 0, none⟩ = some (.int .i64 ((rd_T55 l0 x7_1).f0)) := (blk_cell BK419.out 0).trans rfl; have hcz11_1 : w10.cell? ⟨gb419, 1, none⟩ = some (.slice A418_1 ((rd_T55 l0 x7_1).f1).length c418_1) := (blk_cell BK419.out 1).trans rfl; have hcz11_2 : w10.cell? ⟨gb419, 2, none⟩ = some (.int .u64 ((rd_T55 l0 x7_1).f2)) := (blk_cell BK419.out 2).trans rfl; have hcz11_3 : w10.cell? ⟨gb419, 3, none⟩ = some (.int .u64 ((rd_T55 l0 x7_1).f3)) := (blk_cell BK419.out 3).trans rfl; have hcz11_4 : w10.cell? ⟨gb419, 4, none⟩ = some (.string ((rd_T55 l0 x7_1).f4)) := (blk_cell BK419.out 4).trans rfl; have hcz11_5 : w10.cell? ⟨gb419, 5, none⟩ = some (.string ((rd_T55 l0 x7_1).f5)) := (blk_cell BK419.out 5).trans rfl; have hfz11_0 := blk_frozen BK419.out 0; have hfz11_1 := blk_frozen BK419.out 1; have hfz11_2 := blk_frozen BK419.out 2; have hfz11_3 := blk_frozen BK419.out 3; have hfz11_4 := blk_frozen BK419.out 4; have hfz11_5 := blk_frozen BK419.out 5))
        go_ret
        exact ⟨by first | rfl | (simp [errW_none, errW_some] <;> rfl) | (simp [*, errW_none, errW_some] <;> rfl), by repeat (first | (with_reducible first | exact HB.out | apply below_alloc | apply pw_below_drewN | apply below_drew1 | refine below_set ?_ GE419.out) | exact HB.out)⟩
       ·rw [if_neg c7] at H
        have c7b0 : decide (300 < (((rd_T55 l0 x7_1).f4).size : Int)) = false := decide_eq_false c7
        have c7b1 : decide (300 < ((rd_T55 l0 x7_1).f4).size) = false := decide_eq_false (by omega)
        clear c7
        by_cases c12 : (((rd_T55 l0 x7_1).f5).size : Int) > 300
        ·rw [if_pos c12] at H
         have c12b0 : decide (300 < (((rd_T55 l0 x7_1).f5).size : Int)) = true := decide_eq_true c12
         have c12b1 : decide (300 < ((rd_T55 l0 x7_1).f5).size) = true := decide_eq_true (by omega)
         clear c12
         obtain rfl := Option.some.inj H
         have p418 : 0 ≤ (x7_1 : Int) := of_decide_eq_true (by first | (with_reducible assumption) | assumption)
         have q418 : x7_1 < (l0.length : Int) := of_decide_eq_true (by first | (with_reducible assumption) | assumption)
         obtain ⟨ad418, A418_1, c418_1, e418, hx418_0, hx418_1, hx418_2, hx418_3, hx418_4, hx418_5, hl418_1, hi418_1⟩ := at_T55 HR0.out x7_1 p418 q418
         cases e418
         replace hx418_0 := (HB.out.cell (World.block_lt_of_cell? w _ hx418_0)).trans hx418_0
         replace hx418_1 := (HB.out.cell (World.block_lt_of_cell? w _ hx418_1)).trans hx418_1
         replace hx418_2 := (HB.out.cell (World.block_lt_of_cell? w _ hx418_2)).trans hx418_2
         replace hx418_3 := (HB.out.cell (World.block_lt_of_cell? w _ hx418_3)).trans hx418_3
         replace hx418_4 := (HB.out.cell (World.block_lt_of_cell? w _ hx418_4)).trans hx418_4
         replace hx418_5 := (HB.out.cell (World.block_lt_of_cell? w _ hx418_5)).trans hx418_5
         have HR418_1 := Aside0.mk hi418_1
         have HC418_1 := Aside0.mk hl418_1
         clear hi418_1 hl418_1
         replace p418 := eq_true p418
         replace q418 := eq_true q418
         go_wp2_with (first | ((with_reducible refine gate_dst (N := 4) rfl ?_); (try (refine gate_guard (by rfl) ?_; dsimp only)); refine box_event ?hg (N := 4) ?hd (cs := #[.int .i64 0, .slice none 0 0, .int .u64 0, .int .u64 0, .string (⟨#[]⟩ : ByteArray), .string (⟨#[]⟩ : ByteArray)]) (t := 55) ?hr ?_; (case hd => rfl); (case hg => rfl); (case hr => first | (go_simp; done) | (go_simp; rfl)); intro gb419 hg w13 hbox hb; have n0_ := Aside0.mk (below_step (by repeat (first | (with_reducible first | exact HB.out | apply below_alloc | apply pw_below_drewN | apply below_drew1) | exact HB.out)) hb); have n1_ := Aside0.mk (hbox); have n2_ := Aside0.mk ((by rw [hg]; exact (below_size (by repeat (first | (with_reducible first | exact HB.out | apply below_alloc | apply pw_below_drewN | apply below_drew1) | exact HB.out))) : w.heap.size ≤ gb419)); have n3_ := Aside0.mk ((by rw [hg]; exact (below_size (by repeat (first | (with_reducible first | exact HB.out | apply below_alloc | apply pw_below_drewN | apply below_drew1) | exact HB.out))) : w.heap.size ≤ gb419)); clear HB; have HB := n0_; have BK419 := n1_; have GW419 := n2_; have GE419 := n3_; clear n0_ n1_ n2_ n3_; clear hb hbox hg; have hcz14_0 : w13.cell? ⟨gb419, 0, none⟩ = some (.int .i64 0) := (blk_cell BK419.out 0).trans rfl; have hcz14_1 : w13.cell? ⟨gb419, 1, none⟩ = some (.slice none 0 0) := (blk_cell BK419.out 1).trans rfl; have hcz14_2 : w13.cell? ⟨gb419, 2, none⟩ = some (.int .u64 0) := (blk_cell BK419.out 2).trans rfl; have hcz14_3 : w13.cell? ⟨gb419, 3, none⟩ = some (.int .u64 0) := (blk_cell BK419.out 3).trans rfl; have hcz14_4 : w13.cell? ⟨gb419, 4, none⟩ = some (.string (⟨#[]⟩ : ByteArray)) := (blk_cell BK419.out 4).trans rfl; have hcz14_5 : w13.cell? ⟨gb419, 5, none⟩ = some (.string (⟨#[]⟩ : ByteArray)) := (blk_cell BK419.out 5).trans rfl; have hfz14_0 := blk_frozen BK419.out 0; have hfz14_1 := blk_frozen BK419.out 1; have hfz14_2 := blk_frozen BK419.out 2; have hfz14_3 := blk_frozen BK419.out 3; have hfz14_4 := blk_frozen BK419.out 4; have hfz14_5 := blk_frozen BK419.out 5) | ((with_reducible refine gate_callee (f := 69) rfl ?_); refine goesL_ (some 13) rfl rfl Try.func69 (by kernel_rfl) rfl #[.slice A418_1 ((rd_T55 l0 x7_1).f1).length c418_1] rfl (by (try simp only [List.map_toArray, List.map_cons, List.map_nil]); first | done | rfl | (simp only [List.length_drop, List.length_take]; rfl)) ?_; (with_reducible refine (conductorlaw08_writes.calls k1 _ _ ((rd_T55 l0 x7_1).f1) true _ ?side1 ?side2 A5.out).mono ?_); (case side1 => exact Kd.C_below HR418_1.out (by repeat (first | (with_reducible first | exact HB.out | apply below_alloc | apply pw_below_drewN | apply below_drew1 | refine below_set ?_ GE419.out) | exact HB.out))); (case side2 => exact HC418_1.out); rintro e w15 ⟨rfl, hb⟩; refine ⟨_, rfl, ?_⟩; have n0_ := Aside0.mk (blk_below (g := gb419) (o := .cells #[.int .i64 ((rd_T55 l0 x7_1).f0), .slice A418_1 ((rd_T55 l0 x7_1).f1).length c418_1, .int .u64 ((rd_T55 l0 x7_1).f2), .int .u64 ((rd_T55 l0 x7_1).f3), .string ((rd_T55 l0 x7_1).f4), .string ((rd_T55 l0 x7_1).f5)] 55 (0, 0)) (by (with_reducible repeat (first | refine blk_drewN ?_ _ | refine blk_drew ?_ | refine blk_alloc ?_ _)); refine blk_put (cs := #[.int .i64 ((rd_T55 l0 x7_1).f0), .slice A418_1 ((rd_T55 l0 x7_1).f1).length c418_1, .int .u64 ((rd_T55 l0 x7_1).f2), .int .u64 ((rd_T55 l0 x7_1).f3), .string ((rd_T55 l0 x7_1).f4), .string (⟨#[]⟩ : ByteArray)]) ?_ 5 _ rfl; (with_reducible repeat (first | refine blk_drewN ?_ _ | refine blk_drew ?_ | refine blk_alloc ?_ _)); refine blk_put (cs := #[.int .i64 ((rd_T55 l0 x7_1).f0), .slice A418_1 ((rd_T55 l0 x7_1).f1).length c418_1, .int .u64 ((rd_T55 l0 x7_1).f2), .int .u64 ((rd_T55 l0 x7_1).f3), .string (⟨#[]⟩ : ByteArray), .string (⟨#[]⟩ : ByteArray)]) ?_ 4 _ rfl; (with_reducible repeat (first | refine blk_drewN ?_ _ | refine blk_drew ?_ | refine blk_alloc ?_ _)); refine blk_put (cs := #[.int .i64 ((rd_T55 l0 x7_1).f0), .slice A418_1 ((rd_T55 l0 x7_1).f1).length c418_1, .int .u64 ((rd_T55 l0 x7_1).f2), .int .u64 0, .string (⟨#[]⟩ : ByteArray), .string (⟨#[]⟩ : ByteArray)]) ?_ 3 _ rfl; (with_reducible repeat (first | refine blk_drewN ?_ _ | refine blk_drew ?_ | refine blk_alloc ?_ _)); refine blk_put (cs := #[.int .i64 ((rd_T55 l0 x7_1).f0), .slice A418_1 ((rd_T55 l0 x7_1).f1).length c418_1, .int .u64 0, .int .u64 0, .string (⟨#[]⟩ : ByteArray), .string (⟨#[]⟩ : ByteArray)]) ?_ 2 _ rfl; (with_reducible repeat (first | refine blk_drewN ?_ _ | refine blk_drew ?_ | refine blk_alloc ?_ _)); refine blk_put (cs := #[.int .i64 ((rd_T55 l0 x7_1).f0), .slice none 0 0, .int .u64 0, .int .u64 0, .string (⟨#[]⟩ : ByteArray), .string (⟨#[]⟩ : ByteArray)]) ?_ 1 _ rfl; (with_reducible repeat (first | refine blk_drewN ?_ _ | refine blk_drew ?_ | refine blk_alloc ?_ _)); refine blk_put (cs := #[.int .i64 0, .slice none 0 0, .int .u64 0, .int .u64 0, .string (⟨#[]⟩ : ByteArray), .string (⟨#[]⟩ : ByteArray)]) ?_ 0 _ rfl; (with_reducible repeat (first | refine blk_drewN ?_ _ | refine blk_drew ?_ | refine blk_alloc ?_ _)); exact BK419.out) hb); have n1_ := Aside0.mk (below_step (by repeat (first | (with_reducible first | exact HB.out | apply below_alloc | apply pw_below_drewN | apply below_drew1 | refine below_set ?_ GE419.out) | exact HB.out)) hb); clear BK419; clear HB; have BK419 := n0_; have HB := n1_; clear n0_ n1_; (try clear hb); (try clear hb2); (try clear hk); (try clear hi); have hcz16_0 : w15.cell? ⟨gb419, 0, none⟩ = some (.int .i64 ((rd_T55 l0 x7_1).f0)) := (blk_cell BK419.out 0).trans rfl; have hcz16_1 : w15.cell? ⟨gb419, 1, none⟩ = some (.slice A418_1 ((rd_T55 l0 x7_1).f1).length c418_1) := (blk_cell BK419.out 1).trans rfl; have hcz16_2 : w15.cell? ⟨gb419, 2, none⟩ = some (.int .u64 ((rd_T55 l0 x7_1).f2)) := (blk_cell BK419.out 2).trans rfl; have hcz16_3 : w15.cell? ⟨gb419, 3, none⟩ = some (.int .u64 ((rd_T55 l0 x7_1).f3)) := (blk_cell BK419.out 3).trans rfl; have hcz16_4 : w15.cell? ⟨gb419, 4, none⟩ = some (.string ((rd_T55 l0 x7_1).f4)) := (blk_cell BK419.out 4).trans rfl; have hcz16_5 : w15.cell? ⟨gb419, 5, none⟩ = some (.string ((rd_T55 l0 x7_1).f5)) := (blk_cell BK419.out 5).trans rfl; have hfz16_0 := blk_frozen BK419.out 0; have hfz16_1 := blk_frozen BK419.out 1; have hfz16_2 := blk_frozen BK419.out 2; have hfz16_3 := blk_frozen BK419.out 3; have hfz16_4 := blk_frozen BK419.out 4; have hfz16_5 := blk_frozen BK419.out 5))
         go_ret
         exact ⟨by first | rfl | (simp [errW_none, errW_some] <;> rfl) | (simp [*, errW_none, errW_some] <;> rfl), by repeat (first | (with_reducible first | exact HB.out | apply below_alloc | apply pw_below_drewN | apply below_drew1 | refine below_set ?_ GE419.out) | exact HB.out)⟩
        ·rw [if_neg c12] at H
         have c12b0 : decide (300 < (((rd_T55 l0 x7_1).f5).size : Int)) = false := decide_eq_false c12
         have c12b1 : decide (300 < ((rd_T55 l0 x7_1).f5).size) = false := decide_eq_false (by omega)
         clear c12
         have H' := Aside0.mk H
         clear H
         have p418 : 0 ≤ (x7_1 : Int) := of_decide_eq_true (by first | (with_reducible assumption) | assumption)
         have q418 : x7_1 < (l0.length : Int) := of_decide_eq_true (by first | (with_reducible assumption) | assumption)
         obtain ⟨ad418, A418_1, c418_1, e418, hx418_0, hx418_1, hx418_2, hx418_3, hx418_4, hx418_5, hl418_1, hi418_1⟩ := at_T55 HR0.out x7_1 p418 q418
         cases e418
         replace hx418_0 := (HB.out.cell (World.block_lt_of_cell? w _ hx418_0)).trans hx418_0
         replace hx418_1 := (HB.out.cell (World.block_lt_of_cell? w _ hx418_1)).trans hx418_1
         replace hx418_2 := (HB.out.cell (World.block_lt_of_cell? w _ hx418_2)).trans hx418_2
         replace hx418_3 := (HB.out.cell (World.block_lt_of_cell? w _ hx418_3)).trans hx418_3
         replace hx418_4 := (HB.out.cell (World.block_lt_of_cell? w _ hx418_4)).trans hx418_4
         replace hx418_5 := (HB.out.cell (World.block_lt_of_cell? w _ hx418_5)).trans hx418_5
         have HR418_1 := Aside0.mk hi418_1
         have HC418_1 := Aside0.mk hl418_1
         clear hi418_1 hl418_1
         replace p418 := eq_true p418
         replace q418 := eq_true q418
         go_wp2_with (first | ((with_reducible refine gate_dst (N := 4) rfl ?_); (try (refine gate_guard (by rfl) ?_; dsimp only)); refine box_event ?hg (N := 4) ?hd (cs := #[.int .i64 0, .slice none 0 0, .int .u64 0, .int .u64 0, .string (⟨#[]⟩ : ByteArray), .string (⟨#[]⟩ : ByteArray)]) (t := 55) ?hr ?_; (case hd => rfl); (case hg => rfl); (case hr => first | (go_simp; done) | (go_simp; rfl)); intro gb419 hg w17 hbox hb; have n0_ := Aside0.mk (below_step (by repeat (first | (with_reducible first | exact HB.out | apply below_alloc | apply pw_below_drewN | apply below_drew1) | exact HB.out)) hb); have n1_ := Aside0.mk (hbox); have n2_ := Aside0.mk ((by rw [hg]; exact (below_size (by repeat (first | (with_reducible first | exact HB.out | apply below_alloc | apply pw_below_drewN | apply below_drew1) | exact HB.out))) : w.heap.size ≤ gb419)); have n3_ := Aside0.mk ((by rw [hg]; exact (below_size (by repeat (first | (with_reducible first | exact HB.out | apply below_alloc | apply pw_below_drewN | apply below_drew1) | exact HB.out))) : w.heap.size ≤ gb419)); clear HB; have HB := n0_; have BK419 := n1_; have GW419 := n2_; have GE419 := n3_; clear n0_ n1_ n2_ n3_; clear hb hbox hg; have hcz18_0 : w17.cell? ⟨gb419, 0, none⟩ = some (.int .i64 0) := (blk_cell BK419.out 0).trans rfl; have hcz18_1 : w17.cell? ⟨gb419, 1, none⟩ = some (.slice none 0 0) := (blk_cell BK419.out 1).trans rfl; have hcz18_2 : w17.cell? ⟨gb419, 2, none⟩ = some (.int .u64 0) := (blk_cell BK419.out 2).trans rfl; have hcz18_3 : w17.cell? ⟨gb419, 3, none⟩ = some (.int .u64 0) := (blk_cell BK419.out 3).trans rfl; have hcz18_4 : w17.cell? ⟨gb419, 4, none⟩ = some (.string (⟨#[]⟩ : ByteArray)) := (blk_cell BK419.out 4).trans rfl; have hcz18_5 : w17.cell? ⟨gb419, 5, none⟩ = some (.string (⟨#[]⟩ : ByteArray)) := (blk_cell BK419.out 5).trans rfl; have hfz18_0 := blk_frozen BK419.out 0; have hfz18_1 := blk_frozen BK419.out 1; have hfz18_2 := blk_frozen BK419.out 2; have hfz18_3 := blk_frozen BK419.out 3; have hfz18_4 := blk_frozen BK419.out 4; have hfz18_5 := blk_frozen BK419.out 5) | ((with_reducible refine gate_callee (f := 69) rfl ?_); refine goesL_ (some 13) rfl rfl Try.func69 (by kernel_rfl) rfl #[.slice A418_1 ((rd_T55 l0 x7_1).f1).length c418_1] rfl (by (try simp only [List.map_toArray, List.map_cons, List.map_nil]); first | done | rfl | (simp only [List.length_drop, List.length_take]; rfl)) ?_; (with_reducible refine (conductorlaw08_writes.calls k1 _ _ ((rd_T55 l0 x7_1).f1) true _ ?side1 ?side2 A5.out).mono ?_); (case side1 => exact Kd.C_below HR418_1.out (by repeat (first | (with_reducible first | exact HB.out | apply below_alloc | apply pw_below_drewN | apply below_drew1 | refine below_set ?_ GE419.out) | exact HB.out))); (case side2 => exact HC418_1.out); rintro e w19 ⟨rfl, hb⟩; refine ⟨_, rfl, ?_⟩; have n0_ := Aside0.mk (blk_below (g := gb419) (o := .cells #[.int .i64 ((rd_T55 l0 x7_1).f0), .slice A418_1 ((rd_T55 l0 x7_1).f1).length c418_1, .int .u64 ((rd_T55 l0 x7_1).f2), .int .u64 ((rd_T55 l0 x7_1).f3), .string ((rd_T55 l0 x7_1).f4), .string ((rd_T55 l0 x7_1).f5)] 55 (0, 0)) (by (with_reducible repeat (first | refine blk_drewN ?_ _ | refine blk_drew ?_ | refine blk_alloc ?_ _)); refine blk_put (cs := #[.int .i64 ((rd_T55 l0 x7_1).f0), .slice A418_1 ((rd_T55 l0 x7_1).f1).length c418_1, .int .u64 ((rd_T55 l0 x7_1).f2), .int .u64 ((rd_T55 l0 x7_1).f3), .string ((rd_T55 l0 x7_1).f4), .string (⟨#[]⟩ : ByteArray)]) ?_ 5 _ rfl; (with_reducible repeat (first | refine blk_drewN ?_ _ | refine blk_drew ?_ | refine blk_alloc ?_ _)); refine blk_put (cs := #[.int .i64 ((rd_T55 l0 x7_1).f0), .slice A418_1 ((rd_T55 l0 x7_1).f1).length c418_1, .int .u64 ((rd_T55 l0 x7_1).f2), .int .u64 ((rd_T55 l0 x7_1).f3), .string (⟨#[]⟩ : ByteArray), .string (⟨#[]⟩ : ByteArray)]) ?_ 4 _ rfl; (with_reducible repeat (first | refine blk_drewN ?_ _ | refine blk_drew ?_ | refine blk_alloc ?_ _)); refine blk_put (cs := #[.int .i64 ((rd_T55 l0 x7_1).f0), .slice A418_1 ((rd_T55 l0 x7_1).f1).length c418_1, .int .u64 ((rd_T55 l0 x7_1).f2), .int .u64 0, .string (⟨#[]⟩ : ByteArray), .string (⟨#[]⟩ : ByteArray)]) ?_ 3 _ rfl; (with_reducible repeat (first | refine blk_drewN ?_ _ | refine blk_drew ?_ | refine blk_alloc ?_ _)); refine blk_put (cs := #[.int .i64 ((rd_T55 l0 x7_1).f0), .slice A418_1 ((rd_T55 l0 x7_1).f1).length c418_1, .int .u64 0, .int .u64 0, .string (⟨#[]⟩ : ByteArray), .string (⟨#[]⟩ : ByteArray)]) ?_ 2 _ rfl; (with_reducible repeat (first | refine blk_drewN ?_ _ | refine blk_drew ?_ | refine blk_alloc ?_ _)); refine blk_put (cs := #[.int .i64 ((rd_T55 l0 x7_1).f0), .slice none 0 0, .int .u64 0, .int .u64 0, .string (⟨#[]⟩ : ByteArray), .string (⟨#[]⟩ : ByteArray)]) ?_ 1 _ rfl; (with_reducible repeat (first | refine blk_drewN ?_ _ | refine blk_drew ?_ | refine blk_alloc ?_ _)); refine blk_put (cs := #[.int .i64 0, .slice none 0 0, .int .u64 0, .int .u64 0, .string (⟨#[]⟩ : ByteArray), .string (⟨#[]⟩ : ByteArray)]) ?_ 0 _ rfl; (with_reducible repeat (first | refine blk_drewN ?_ _ | refine blk_drew ?_ | refine blk_alloc ?_ _)); exact BK419.out) hb); have n1_ := Aside0.mk (below_step (by repeat (first | (with_reducible first | exact HB.out | apply below_alloc | apply pw_below_drewN | apply below_drew1 | refine below_set ?_ GE419.out) | exact HB.out)) hb); clear BK419; clear HB; have BK419 := n0_; have HB := n1_; clear n0_ n1_; (try clear hb); (try clear hb2); (try clear hk); (try clear hi); have hcz20_0 : w19.cell? ⟨gb419, 0, none⟩ = some (.int .i64 ((rd_T55 l0 x7_1).f0)) := (blk_cell BK419.out 0).trans rfl; have hcz20_1 : w19.cell? ⟨gb419, 1, none⟩ = some (.slice A418_1 ((rd_T55 l0 x7_1).f1).length c418_1) := (blk_cell BK419.out 1).trans rfl; have hcz20_2 : w19.cell? ⟨gb419, 2, none⟩ = some (.int .u64 ((rd_T55 l0 x7_1).f2)) := (blk_cell BK419.out 2).trans rfl; have hcz20_3 : w19.cell? ⟨gb419, 3, none⟩ = some (.int .u64 ((rd_T55 l0 x7_1).f3)) := (blk_cell BK419.out 3).trans rfl; have hcz20_4 : w19.cell? ⟨gb419, 4, none⟩ = some (.string ((rd_T55 l0 x7_1).f4)) := (blk_cell BK419.out 4).trans rfl; have hcz20_5 : w19.cell? ⟨gb419, 5, none⟩ = some (.string ((rd_T55 l0 x7_1).f5)) := (blk_cell BK419.out 5).trans rfl; have hfz20_0 := blk_frozen BK419.out 0; have hfz20_1 := blk_frozen BK419.out 1; have hfz20_2 := blk_frozen BK419.out 2; have hfz20_3 := blk_frozen BK419.out 3; have hfz20_4 := blk_frozen BK419.out 4; have hfz20_5 := blk_frozen BK419.out 5))
         go_roundg k1
         case measure => have := HK1.out; omega
         case rel => exact ⟨(wrap64 (x7_1 + 1)), (by first | rfl | (simp; done) | (simp [*]; done)), H', ⟨by have := HK1.out; omega⟩, ⟨by repeat (first | (with_reducible first | exact HB.out | apply below_alloc | apply pw_below_drewN | apply below_drew1 | refine below_set ?_ GE419.out) | exact HB.out)⟩⟩
      ·replace c6 := Bool.eq_false_iff.mpr c6
       subst c6
       have H1 : (some false) = some r := by rw [if_neg (show ¬ (false = true) by decide)] at H; exact H
       clear H
       have H := H1
       clear H1
       obtain rfl := Option.some.inj H
       have p418 : 0 ≤ (x7_1 : Int) := of_decide_eq_true (by first | (with_reducible assumption) | assumption)
       have q418 : x7_1 < (l0.length : Int) := of_decide_eq_true (by first | (with_reducible assumption) | assumption)
       obtain ⟨ad418, A418_1, c418_1, e418, hx418_0, hx418_1, hx418_2, hx418_3, hx418_4, hx418_5, hl418_1, hi418_1⟩ := at_T55 HR0.out x7_1 p418 q418
       cases e418
       replace hx418_0 := (HB.out.cell (World.block_lt_of_cell? w _ hx418_0)).trans hx418_0
       replace hx418_1 := (HB.out.cell (World.block_lt_of_cell? w _ hx418_1)).trans hx418_1
       replace hx418_2 := (HB.out.cell (World.block_lt_of_cell? w _ hx418_2)).trans hx418_2
       replace hx418_3 := (HB.out.cell (World.block_lt_of_cell? w _ hx418_3)).trans hx418_3
       replace hx418_4 := (HB.out.cell (World.block_lt_of_cell? w _ hx418_4)).trans hx418_4
       replace hx418_5 := (HB.out.cell (World.block_lt_of_cell? w _ hx418_5)).trans hx418_5
       have HR418_1 := Aside0.mk hi418_1
       have HC418_1 := Aside0.mk hl418_1
       clear hi418_1 hl418_1
       replace p418 := eq_true p418
       replace q418 := eq_true q418
       go_wp2_with (first | ((with_reducible refine gate_dst (N := 4) rfl ?_); (try (refine gate_guard (by rfl) ?_; dsimp only)); refine box_event ?hg (N := 4) ?hd (cs := #[.int .i64 0, .slice none 0 0, .int .u64 0, .int .u64 0, .string (⟨#[]⟩ : ByteArray), .string (⟨#[]⟩ : ByteArray)]) (t := 55) ?hr ?_; (case hd => rfl); (case hg => rfl); (case hr => first | (go_simp; done) | (go_simp; rfl)); intro gb419 hg w21 hbox hb; have n0_ := Aside0.mk (below_step (by repeat (first | (with_reducible first | exact HB.out | apply below_alloc | apply pw_below_drewN | apply below_drew1) | exact HB.out)) hb); have n1_ := Aside0.mk (hbox); have n2_ := Aside0.mk ((by rw [hg]; exact (below_size (by repeat (first | (with_reducible first | exact HB.out | apply below_alloc | apply pw_below_drewN | apply below_drew1) | exact HB.out))) : w.heap.size ≤ gb419)); have n3_ := Aside0.mk ((by rw [hg]; exact (below_size (by repeat (first | (with_reducible first | exact HB.out | apply below_alloc | apply pw_below_drewN | apply below_drew1) | exact HB.out))) : w.heap.size ≤ gb419)); clear HB; have HB := n0_; have BK419 := n1_; have GW419 := n2_; have GE419 := n3_; clear n0_ n1_ n2_ n3_; clear hb hbox hg; have hcz22_0 : w21.cell? ⟨gb419, 0, none⟩ = some (.int .i64 0) := (blk_cell BK419.out 0).trans rfl; have hcz22_1 : w21.cell? ⟨gb419, 1, none⟩ = some (.slice none 0 0) := (blk_cell BK419.out 1).trans rfl; have hcz22_2 : w21.cell? ⟨gb419, 2, none⟩ = some (.int .u64 0) := (blk_cell BK419.out 2).trans rfl; have hcz22_3 : w21.cell? ⟨gb419, 3, none⟩ = some (.int .u64 0) := (blk_cell BK419.out 3).trans rfl; have hcz22_4 : w21.cell? ⟨gb419, 4, none⟩ = some (.string (⟨#[]⟩ : ByteArray)) := (blk_cell BK419.out 4).trans rfl; have hcz22_5 : w21.cell? ⟨gb419, 5, none⟩ = some (.string (⟨#[]⟩ : ByteArray)) := (blk_cell BK419.out 5).trans rfl; have hfz22_0 := blk_frozen BK419.out 0; have hfz22_1 := blk_frozen BK419.out 1; have hfz22_2 := blk_frozen BK419.out 2; have hfz22_3 := blk_frozen BK419.out 3; have hfz22_4 := blk_frozen BK419.out 4; have hfz22_5 := blk_frozen BK419.out 5) | ((with_reducible refine gate_callee (f := 69) rfl ?_); refine goesL_ (some 13) rfl rfl Try.func69 (by kernel_rfl) rfl #[.slice A418_1 ((rd_T55 l0 x7_1).f1).length c418_1] rfl (by (try simp only [List.map_toArray, List.map_cons, List.map_nil]); first | done | rfl | (simp only [List.length_drop, List.length_take]; rfl)) ?_; (with_reducible refine (conductorlaw08_writes.calls k1 _ _ ((rd_T55 l0 x7_1).f1) false _ ?side1 ?side2 A5.out).mono ?_); (case side1 => exact Kd.C_below HR418_1.out (by repeat (first | (with_reducible first | exact HB.out | apply below_alloc | apply pw_below_drewN | apply below_drew1 | refine below_set ?_ GE419.out) | exact HB.out))); (case side2 => exact HC418_1.out); rintro e w23 ⟨rfl, hb⟩; refine ⟨_, rfl, ?_⟩; have n0_ := Aside0.mk (blk_below (g := gb419) (o := .cells #[.int .i64 ((rd_T55 l0 x7_1).f0), .slice A418_1 ((rd_T55 l0 x7_1).f1).length c418_1, .int .u64 ((rd_T55 l0 x7_1).f2), .int .u64 ((rd_T55 l0 x7_1).f3), .string ((rd_T55 l0 x7_1).f4), .string ((rd_T55 l0 x7_1).f5)] 55 (0, 0)) (by (with_reducible repeat (first | refine blk_drewN ?_ _ | refine blk_drew ?_ | refine blk_alloc ?_ _)); refine blk_put (cs := #[.int .i64 ((rd_T55 l0 x7_1).f0), .slice A418_1 ((rd_T55 l0 x7_1).f1).length c418_1, .int .u64 ((rd_T55 l0 x7_1).f2), .int .u64 ((rd_T55 l0 x7_1).f3), .string ((rd_T55 l0 x7_1).f4), .string (⟨#[]⟩ : ByteArray)]) ?_ 5 _ rfl; (with_reducible repeat (first | refine blk_drewN ?_ _ | refine blk_drew ?_ | refine blk_alloc ?_ _)); refine blk_put (cs := #[.int .i64 ((rd_T55 l0 x7_1).f0), .slice A418_1 ((rd_T55 l0 x7_1).f1).length c418_1, .int .u64 ((rd_T55 l0 x7_1).f2), .int .u64 ((rd_T55 l0 x7_1).f3), .string (⟨#[]⟩ : ByteArray), .string (⟨#[]⟩ : ByteArray)]) ?_ 4 _ rfl; (with_reducible repeat (first | refine blk_drewN ?_ _ | refine blk_drew ?_ | refine blk_alloc ?_ _)); refine blk_put (cs := #[.int .i64 ((rd_T55 l0 x7_1).f0), .slice A418_1 ((rd_T55 l0 x7_1).f1).length c418_1, .int .u64 ((rd_T55 l0 x7_1).f2), .int .u64 0, .string (⟨#[]⟩ : ByteArray), .string (⟨#[]⟩ : ByteArray)]) ?_ 3 _ rfl; (with_reducible repeat (first | refine blk_drewN ?_ _ | refine blk_drew ?_ | refine blk_alloc ?_ _)); refine blk_put (cs := #[.int .i64 ((rd_T55 l0 x7_1).f0), .slice A418_1 ((rd_T55 l0 x7_1).f1).length c418_1, .int .u64 0, .int .u64 0, .string (⟨#[]⟩ : ByteArray), .string (⟨#[]⟩ : ByteArray)]) ?_ 2 _ rfl; (with_reducible repeat (first | refine blk_drewN ?_ _ | refine blk_drew ?_ | refine blk_alloc ?_ _)); refine blk_put (cs := #[.int .i64 ((rd_T55 l0 x7_1).f0), .slice none 0 0, .int .u64 0, .int .u64 0, .string (⟨#[]⟩ : ByteArray), .string (⟨#[]⟩ : ByteArray)]) ?_ 1 _ rfl; (with_reducible repeat (first | refine blk_drewN ?_ _ | refine blk_drew ?_ | refine blk_alloc ?_ _)); refine blk_put (cs := #[.int .i64 0, .slice none 0 0, .int .u64 0, .int .u64 0, .string (⟨#[]⟩ : ByteArray), .string (⟨#[]⟩ : ByteArray)]) ?_ 0 _ rfl; (with_reducible repeat (first | refine blk_drewN ?_ _ | refine blk_drew ?_ | refine blk_alloc ?_ _)); exact BK419.out) hb); have n1_ := Aside0.mk (below_step (by repeat (first | (with_reducible first | exact HB.out | apply below_alloc | apply pw_below_drewN | apply below_drew1 | refine below_set ?_ GE419.out) | exact HB.out)) hb); clear BK419; clear HB; have BK419 := n0_; have HB := n1_; clear n0_ n1_; (try clear hb); (try clear hb2); (try clear hk); (try clear hi)))
       go_ret
       exact ⟨by first | rfl | (simp [errW_none, errW_some] <;> rfl) | (simp [*, errW_none, errW_some] <;> rfl), by repeat (first | (with_reducible first | exact HB.out | apply below_alloc | apply pw_below_drewN | apply below_drew1 | refine below_set ?_ GE419.out) | exact HB.out)⟩
     ·rw [if_neg c4] at H
      exact absurd H (by simp)
    ·rw [if_neg c3] at H
     exact absurd H (by simp)
   ·rw [if_neg c2] at H
    have c2b0 : decide (x7_1 < (l0.length : Int)) = false := decide_eq_false c2
    clear c2
    obtain rfl := Option.some.inj H
    go_wp2
    go_ret
    exact ⟨by first | rfl | (simp [errW_none, errW_some] <;> rfl) | (simp [*, errW_none, errW_some] <;> rfl), by repeat (first | (with_reducible first | exact HB.out | apply below_alloc | apply pw_below_drewN | apply below_drew1) | exact HB.out)⟩
end Go.Proofs.Yteofdgonpbmdlaa.C
namespace Go.Proofs.Yteofdgonpbmdlaa.St
open Go.RowKit Go.Proofs.YteofdgonpbmdlaaW.PrintWords Go.Proofs.Yteofdgonpbmdlaa.C Go.Proofs.Yteofdgonpbmdlaa.Pure
def wrB (l : List S102) : Bool := l.all (fun w => decide (w.f0.size ≤ 300) && decide (w.f2.length ≤ 5000)) && decide (l.length ≤ 20)
theorem wr_loop (l : List S102) (hl : l.length ≤ 9223372036854775807) : ∀ (d i k : Nat), i + d = l.length → d < k → conductorlaw08_writes.l0 k l l l.length i = some ((l.drop i).all (fun w => decide (w.f0.size ≤ 300) && decide (w.f2.length ≤ 5000)) && decide (l.length ≤ 20)) := by
  intro d
  induction d with
  | zero =>
    intro i k hd hk
    obtain ⟨k, rfl⟩ : ∃ m, k = m + 1 := ⟨k - 1, by omega⟩
    simp only [conductorlaw08_writes.l0]
    rw [if_neg (by omega), List.drop_eq_nil_of_le (by omega)]
    simp only [List.all_nil, Bool.true_and]
    congr 1
    exact decide_eq_decide.2 (by omega)
  | succ d ih =>
    intro i k hd hk
    obtain ⟨k, rfl⟩ : ∃ m, k = m + 1 := ⟨k - 1, by omega⟩
    have hi : i < l.length := by omega
    simp only [conductorlaw08_writes.l0]
    rw [if_pos (by omega), if_pos (by omega), if_pos (by omega), w1 hi hl, rd102 l i hi, List.drop_eq_getElem_cons hi, ih (i + 1) k (by omega) (by omega)]
    simp only [List.all_cons]
    by_cases h1 : ((l[i]).f0.size : Int) > 300
    · rw [if_pos h1, decide_eq_false (show ¬ (l[i]).f0.size ≤ 300 by omega)]; simp
    · rw [if_neg h1, decide_eq_true (show (l[i]).f0.size ≤ 300 by omega)]
      by_cases h2 : ((l[i]).f2.length : Int) > 5000
      · rw [if_pos h2, decide_eq_false (show ¬ (l[i]).f2.length ≤ 5000 by omega)]; simp
      · rw [if_neg h2, decide_eq_true (show (l[i]).f2.length ≤ 5000 by omega)]; simp
theorem wr_ev (l : List S102) (hl : l.length ≤ 9223372036854775807) : Ev (fun k => conductorlaw08_writes.f k l) (wrB l) := ⟨l.length + 1, fun k hk => wr_loop l hl l.length 0 k (by omega) (by omega)⟩
def opB (o : S55) : Bool := wrB o.f1 && (decide (o.f4.size ≤ 300) && decide (o.f5.size ≤ 300))
def fewB (l : List S55) : Bool := l.all opB && decide (l.length ≤ 40)
theorem rd55 (l : List S55) (i : Nat) (h : i < l.length) : rd_T55 l (i : Int) = l[i] := by
  simp [rd_T55, List.getD_eq_getElem?_getD, h]
theorem few_loop (l : List S55) (hl : l.length ≤ 9223372036854775807) (hw : ∀ o ∈ l, o.f1.length ≤ 9223372036854775807) : ∀ (d i : Nat), i + d = l.length → Ev (fun k => conductorlaw08_few.l0 k l l l.length i) ((l.drop i).all opB && decide (l.length ≤ 40)) := by
  intro d
  induction d with
  | zero =>
    intro i hd
    refine Ev.step (f := fun _ => _) (fun k => by simp only [conductorlaw08_few.l0]; rw [if_neg (by omega)]) ?_
    rw [List.drop_eq_nil_of_le (by omega)]
    simp only [List.all_nil, Bool.true_and]
    have : decide ((l.length : Int) ≤ 40) = decide (l.length ≤ 40) := decide_eq_decide.2 (by omega)
    rw [this]
    exact Ev.now _
  | succ d ih =>
    intro i hd
    have hi : i < l.length := by omega
    refine Ev.step (f := fun k => (conductorlaw08_writes.f k (l[i]).f1).bind fun t420 => (if t420 = true then (if ((l[i]).f4.size : Int) > 300 then (some false) else (if ((l[i]).f5.size : Int) > 300 then (some false) else (conductorlaw08_few.l0 k l l (l.length : Int) ((i + 1 : Nat) : Int)))) else (some false))) (fun k => by
      simp only [conductorlaw08_few.l0]
      rw [if_pos (by omega), if_pos (by omega), if_pos (by omega), rd55 l i hi, w1 hi hl]) ?_
    refine Ev.bind (wr_ev _ (hw _ (List.getElem_mem hi))) ?_
    rw [List.drop_eq_getElem_cons hi]
    simp only [List.all_cons, opB]
    by_cases h0 : wrB (l[i]).f1 = true
    · simp only [h0, if_true, Bool.true_and]
      by_cases h1 : ((l[i]).f4.size : Int) > 300
      · simp only [if_pos h1]; rw [decide_eq_false (show ¬ (l[i]).f4.size ≤ 300 by omega)]; simp only [Bool.false_and]; exact Ev.now _
      · simp only [if_neg h1]; rw [decide_eq_true (show (l[i]).f4.size ≤ 300 by omega)]
        by_cases h2 : ((l[i]).f5.size : Int) > 300
        · simp only [if_pos h2]; rw [decide_eq_false (show ¬ (l[i]).f5.size ≤ 300 by omega)]; simp only [Bool.and_false, Bool.false_and]; exact Ev.now _
        · simp only [if_neg h2]; rw [decide_eq_true (show (l[i]).f5.size ≤ 300 by omega)]
          simp only [Bool.and_true, Bool.true_and]
          exact ih (i + 1) (by omega)
    · have : wrB (l[i]).f1 = false := by simpa using h0
      simp only [this, Bool.false_and, Bool.false_eq_true, if_false]
      exact Ev.now _
theorem few_ev (l : List S55) (hl : l.length ≤ 9223372036854775807) (hw : ∀ o ∈ l, o.f1.length ≤ 9223372036854775807) : ∃ k, conductorlaw08_few.f k l = some (fewB l) := (few_loop l hl hw l.length 0 (by omega)).rounds
structure FewOp (o : S55) : Prop where
  len : o.f1.length ≤ 20
  key : ∀ x ∈ o.f1, x.f0.size ≤ 300
  dat : ∀ x ∈ o.f1, x.f2.length ≤ 5000
  lo : o.f4.size ≤ 300
  hi : o.f5.size ≤ 300
theorem opB_spec {o : S55} (h : opB o = true) : FewOp o := by
  simp only [opB, wrB, Bool.and_eq_true, decide_eq_true_eq, List.all_eq_true] at h
  exact ⟨h.1.2, fun x hx => (h.1.1 x hx).1, fun x hx => (h.1.1 x hx).2, h.2.1, h.2.2⟩
theorem fewB_spec {l : List S55} (h : fewB l = true) : l.length ≤ 40 ∧ ∀ o ∈ l, FewOp o := by
  simp only [fewB, Bool.and_eq_true, decide_eq_true_eq, List.all_eq_true] at h
  exact ⟨h.2, fun o ho => opB_spec (h.1 o ho)⟩
def scanP (s : SS) (lo hi : ByteArray) (a : Int) : List S62 := scanL (fun k => getF (s.ch k) a) hi (s.keys.drop (srchF s.keys lo))
/-- How many versions a collecting drops, as it is told. -/
def wentP (s : SS) (low : Int) : Int := wrap64 (s.n1 - (colN (tfP s low) (zfP s low) s.keys 0 0 0).2.1)
/-- What an operation tells, and the store behind it. -/
def opP (s : SS) (o : S55) : OpTold × SS :=
  if o.f0 = 0 then (⟨(comP s o.f1 o.f2).1, (comP s o.f1 o.f2).2.1, [], false, []⟩, (comP s o.f1 o.f2).2.2)
  else if o.f0 = 1 then (⟨IntKind.u64.wrap (wentP s o.f2), 0, [], false, []⟩, colP s o.f2)
  else if o.f0 = 2 then (⟨lastF (s.ch o.f4), 0, (getF (s.ch o.f4) o.f3).1, (getF (s.ch o.f4) o.f3).2, []⟩, s)
  else if o.f0 = 3 then (⟨0, 0, [], false, scanP s o.f4 o.f5 o.f3⟩, s)
  else (⟨0, 0, [], false, []⟩, s)
theorem Good.op {m : Nat} {s : SS} (h : Good m s) {o : S55} (ho : FewOp o) : Good (m + 1) (opP s o).2 := by
  unfold opP
  split
  · exact h.com ho.len _
  split
  · exact (h.col _).mono (by omega)
  split
  · exact h.mono (by omega)
  split <;> exact h.mono (by omega)
theorem does_op {W : World} {base p : Nat} {B : Nat → Prop} {s : SS} {kv : Value} {mb n : Nat} {D : DataW Value} (h : Aside0 (StoreAt W base B p s kv mb n D)) {m : Nat} (g : Aside0 (Good m s)) (hm : Aside0 (m ≤ 800)) (o : S55) (ho : Aside0 (FewOp o)) (okA : Nat → Prop) (hokA : Aside0 (∀ k, okA k → k < base)) (A : Option Addr) (c0 : Nat) (hF : Aside0 (Kd.F k102 W okA A o.f1.length o.f1)) (hlc : Aside0 (o.f1.length ≤ c0)) (hn : Aside0 (n + 20000 < maxLen)) :
    Calls Try.prog 41 #[.pointer (some ⟨p, 0, none⟩), .agg #[.int .i64 o.f0, .slice A o.f1.length c0, .int .u64 o.f2, .int .u64 o.f3, .string o.f4, .string o.f5]] W (DoPost W base B p kv mb n (opP s o).1 (opP s o).2 20000) := by
  obtain ⟨g⟩ := g
  obtain ⟨hm⟩ := hm
  obtain ⟨ho⟩ := ho
  have hkn := g.kn
  have mono : ∀ {R : OpTold} {s' : SS} {q : Nat} {e : Ending} {w' : World}, q ≤ 20000 → DoPost W base B p kv mb n R s' q e w' → DoPost W base B p kv mb n R s' 20000 e w' := by
    rintro R s' q e w' hq ⟨h1, kv', n', D', h2, h3, h4⟩
    exact ⟨h1, kv', n', D', h2, by omega, h4⟩
  have hlen := ho.len
  have hmax : maxLen = 9223372036854775807 := rfl
  have hn' := hn.out
  unfold opP
  by_cases h0 : o.f0 = 0
  · rw [if_pos h0, h0]
    exact (does_commit h A c0 o.f1 o.f2 o.f3 o.f4 o.f5 okA hokA hF hlc (chkL none o.f1) (tfP s o.f2) (zfP s o.f2) _ ⟨g.ask hm ho.len (fun x hx => by have := ho.key x hx; omega) o.f2⟩ ⟨by omega⟩ _ ⟨rfl⟩).mono (fun _ _ hq => mono (by omega) hq)
  rw [if_neg h0]
  by_cases h1 : o.f0 = 1
  · rw [if_pos h1, h1]
    exact (does_collect h A c0 o.f1 o.f2 o.f3 o.f4 o.f5 (tfP s o.f2) (zfP s o.f2) ⟨by omega⟩ ⟨fun key hk => size256 (g.ks key hk)⟩ ⟨g.so.nodup⟩ ⟨fun key _ => g.trim hm key o.f2⟩ ⟨fun key _ => g.size hm key o.f2⟩ ⟨by omega⟩).mono (fun _ _ hq => mono (by omega) hq)
  rw [if_neg h1]
  by_cases h2 : o.f0 = 2
  · rw [if_pos h2, h2]
    exact (does_read h A c0 o.f1 o.f2 o.f3 o.f4 o.f5 ⟨by have := ho.lo; omega⟩ _ _ ⟨g.get hm o.f4 o.f3⟩ _ ⟨g.lastEq hm o.f4⟩).mono (fun _ _ hq => mono (by omega) hq)
  rw [if_neg h2]
  by_cases h3 : o.f0 = 3
  · rw [if_pos h3, h3]
    exact (does_scan h A c0 o.f1 o.f2 o.f3 o.f4 o.f5 ⟨by omega⟩ ⟨fun key hk => size256 (g.ks key hk)⟩ _ ⟨fun key _ => g.get hm key o.f3⟩ _ ⟨rfl⟩).mono (fun _ _ hq => mono (by omega) hq)
  rw [if_neg h3]
  exact (does_other h A c0 o.f1 o.f2 o.f3 o.f4 o.f5 o.f0 h0 h1 h2 h3).mono (fun _ _ hq => mono (by omega) hq)
end Go.Proofs.Yteofdgonpbmdlaa.St
namespace Go.Proofs.Yteofdgonpbmdlaa.C
open Go.RowKit Go.Maps Go.Proofs.YteofdgonpbmdlaaW.PrintWords Go.Proofs.YteofdgonpbmdlaaW.PrintLast Go.Proofs.YteofdgonpbmdlaaW.PrintMore
attribute [local go_sem] max2_int min2_int max_two min_two max_three min_three max_four min_four
def Room (n : Int) : Prop := 1 ≤ n ∧ n ≤ 1048576
def noStore (l0 l1 l2 l3 l4 l5 last : Int) : SS := ⟨l0, l1, l2, l3, l4, l5, last, 0, [], fun _ => [], 0, 0, 0⟩
theorem storeAt_new (W : World) (base p mb : Nat) (l0 l1 l2 l3 l4 l5 last : Int) (hp : W.heap[p]? = some (.cells (cellsOf (noStore l0 l1 l2 l3 l4 l5 last) noCh mb) 91 (0, 0))) (hm : W.heap[mb]? = some (.map #[] 0)) (bp : base ≤ p) (bm : base ≤ mb) (hh : base ≤ W.heap.size) :
    StoreAt W base (fun k => base ≤ k) p (noStore l0 l1 l2 l3 l4 l5 last) noCh mb 0 (.map []) where
  cells := hp
  keys := .inl (Kd.R_nil _ _ _ _ _)
  map := by
    refine ⟨#[], 0, hm, ?_⟩
    obtain ⟨es, clock, h1, h2⟩ := World.ownsMap_made (H := Value) W Try.prog 9 tok
    have e : (W.alloc (.map #[] 0)).heap[W.heap.size]? = some (.map #[] 0) := heap_alloc_new _ _
    rw [e] at h1
    injection h1 with h1
    injection h1 with h1 h3
    subst h1 h3
    exact h2
  bb := fun _ hk => hk
  bn := fun _ hk => Nat.le_trans hh hk
  bp := bp
  bm := bm
  pm := fun e => by rw [e, hm] at hp; cases hp
  chains := fun key _ => ⟨none, 0, rfl, Nat.le_refl _, Kd.F_nil _ _ _⟩
def NewPost (w : World) (s : SS) (e : Ending) (w' : World) : Prop := (∃ p mb : Nat, e = .returned (.tuple #[.pointer (some ⟨p, 0, none⟩), .int .i64 0]) ∧ StoreAt w' w.heap.size (fun k => w.heap.size ≤ k) p s noCh mb 0 (.map [])) ∧ Below w.heap.size w w'
set_option maxRecDepth 100000 in
set_option maxHeartbeats 2000000 in
theorem store_New.good (l0 l1 l2 l3 l4 l5 last : Int) (w : World) (h0 : Room l0) (h1 : Room l1) (h2 : Room l2) (hl : last ≠ 0) :
    Calls Try.prog 52 #[.agg #[.int .i64 l0, .int .i64 l1, .int .i64 l2, .int .i64 l3, .int .i64 l4, .int .i64 l5, .int .u64 last]] w (NewPost w (noStore l0 l1 l2 l3 l4 l5 last)) := by
  have hmm := @run_makeMap Try.prog
  have i0 : ∀ w, (Instr.index 107 (.agg #[.int .i64 l0, .int .i64 l1, .int .i64 l2]) (.int .i64 0)).run Try.prog w = .ok (.int .i64 l0) w := fun _ => by kernel_rfl
  have i1 : ∀ w, (Instr.index 107 (.agg #[.int .i64 l0, .int .i64 l1, .int .i64 l2]) (.int .i64 1)).run Try.prog w = .ok (.int .i64 l1) w := fun _ => by kernel_rfl
  have i2 : ∀ w, (Instr.index 107 (.agg #[.int .i64 l0, .int .i64 l1, .int .i64 l2]) (.int .i64 2)).run Try.prog w = .ok (.int .i64 l2) w := fun _ => by kernel_rfl
  obtain ⟨a0, b0⟩ := h0
  obtain ⟨a1, b1⟩ := h1
  obtain ⟨a2, b2⟩ := h2
  have hlb : (last == 0) = false := by simpa using hl
  go_enter Try.func52, Try.ntmps52
  go_wp2
  go_loop [13] (fun i => ∃ k : Nat, k ≤ 3 ∧ i = .int .i64 k) (fun i => 3 - (intOf i).toNat)
  case atStart => exact ⟨0, by omega, rfl⟩
  case round =>
    obtain ⟨k, hk, rfl⟩ := hrel
    by_cases hlt : k < 3
    · obtain rfl | rfl | rfl : k = 0 ∨ k = 1 ∨ k = 2 := by omega
      all_goals
        go_wp2
        go_round
        case rel => first | exact ⟨1, by omega, by go_num⟩ | exact ⟨2, by omega, by go_num⟩ | exact ⟨3, by omega, by go_num⟩
        case measure => simp [intOf]
    · go_wp2
      go_ret2
      refine ⟨⟨w.heap.size + 1 + 1, w.heap.size + 1, by simp [World.alloc], ?_⟩, below_alloc (below_alloc (below_alloc (Below.refl _ _) _) _) _⟩
      have e1 : ∀ (w : World) (o : Obj), (w.alloc o).heap.size = w.heap.size + 1 := fun w o => by simp
      have e2 : ∀ (w : World) (o o' : Obj), ((w.alloc o).alloc o').heap[w.heap.size]? = some o := fun w o o' => (Below.heap_alloc _ _ _ (by simp)).trans (heap_alloc_new _ _)
      refine storeAt_new _ _ _ _ l0 l1 l2 l3 l4 l5 last ?_ ?_ (by omega) (by omega) (below_alloc (below_alloc (below_alloc (Below.refl _ _) _) _) _).size
      · rw [show w.heap.size + 1 + 1 = ((w.alloc (.cells #[.int .i64 l0, .int .i64 l1, .int .i64 l2, .int .i64 l3, .int .i64 l4, .int .i64 l5, .int .u64 last] 51)).alloc (.map #[] 0)).heap.size by rw [e1, e1]]
        exact heap_alloc_new _ _
      · rw [show w.heap.size + 1 = (w.alloc (.cells #[.int .i64 l0, .int .i64 l1, .int .i64 l2, .int .i64 l3, .int .i64 l4, .int .i64 l5, .int .u64 last] 51)).heap.size by rw [e1]]
        exact e2 _ _ _
set_option maxHeartbeats 1000000 in
theorem clone_strings (A0 : Option Addr) (c0 : Nat) (l0 : List ByteArray) (w : World) (hr0 : Kd.C Kd.string w A0 l0.length l0) (hc0 : l0.length ≤ c0) (hl : l0.length < 8796093022208) :
    Calls Try.prog 74 #[.slice A0 l0.length c0] w fun e w' => ∃ v0_ : Value, e = .returned (v0_) ∧ Kd.R Kd.string 9 w' w.heap.size (fun _ => True) v0_ l0 ∧ Below w.heap.size w w' := by
  have HL := Aside0.mk hl
  clear hl
  cases A0 with
  | none =>
    have hn : l0 = [] := by
      cases l0 with
      | nil => rfl
      | cons x t => have := hr0.2.2 (by simp); obtain ⟨ad, h1, _⟩ := this; cases h1
    subst hn
    have HR := Aside0.mk hr0
    clear hr0
    have heq := fun W => Lib.run_eql_slice_nil (P := Try.prog) W 75 9 (none : Option Addr) 0 c0 0 0 Try.underlying75
    go_enter Try.func74, Try.ntmps74
    go_wp2
    go_ret
    exact ⟨_, rfl, Kd.R_nil _ _ _ _ _, Below.refl _ _⟩
  | some ad =>
    have HR := Aside0.mk hr0
    have HC := Aside0.mk hc0
    have heq := fun W => Lib.run_eql_slice_nil (P := Try.prog) W 75 9 (some ad) l0.length c0 0 0 Try.underlying75
    clear hr0 hc0
    go_enter Try.func74, Try.ntmps74
    go_wp2_with (first
      | ((with_reducible refine gate_dst (N := 5) rfl ?_); refine Kd.R_lit Kd.string _ 9 ?hg (N := 5) ?hd (xs := ([] : List ByteArray)) (inner := []) (ok := fun _ => True) (okp := fun _ => True) ?hr ?hp (fun _ hk => hk) trivial (Below.refl w.heap.size w) (Nat.le_refl _) (by simp) ?_; (case hd => rfl); (case hg => rfl); (case hr => first | (go_simp; done) | (go_simp; rfl)); (case hp => exact Reps.none _ _); intro v1 w1 ho1 hb1 hg_ hnew_; clear hg_ hnew_; have HO1 := Aside0.mk ho1; have HB1 := Aside0.mk hb1; clear ho1 hb1)
      | ((with_reducible refine gate_builtin (b := .append) (xs := #[.tmp 5, .tmp 6]) rfl ?_); at_builtin; refine Kd.R_append_rows Kd.string (w0 := w) w.heap.size rfl (.tmp 5) (.tmp 6) 75 9 (.string ⟨#[]⟩) 16 rfl Try.underlying75 info9 rfl (by decide) (by omega) v1 [] l0 _ _ _ (fun _ => True) (fun _ => False) rfl rfl ?aO ?aR (fun _ _ h => h) (fun _ h => h.elim) ?aF ?aB ?aS ?aL ?_; (case aR => exact (Kd.C_below HR.out HB1.out)); (case aF => exact (fun _ _ => trivial)); (case aO => exact HO1.out); (case aB => exact HB1.out); (case aS => exact HB1.out.size); (case aL => have := HL.out; simp only [List.length_nil]; omega); intro v2 w2 ho2 hb2 hg_ hnew_; clear hg_ hnew_; have HO2 := Aside0.mk ho2; have HB2 := Aside0.mk hb2; clear ho2 hb2))
    go_ret
    exact ⟨_, rfl, HO2.out, HB2.out⟩
set_option maxHeartbeats 1000000 in
theorem store_Keys.calls {W : World} {base p : Nat} {B : Nat → Prop} {s : SS} {kv : Value} {mb n : Nat} {D : DataW Value} (h : Aside0 (StoreAt W base B p s kv mb n D)) (hl : Aside0 (s.keys.length < 8796093022208)) :
    Calls Try.prog 50 #[.pointer (some ⟨p, 0, none⟩)] W fun e w' => ∃ v0_ : Value, e = .returned (v0_) ∧ Kd.R Kd.string 9 w' W.heap.size (fun _ => True) v0_ s.keys ∧ Below W.heap.size W w' := by
  have h8 : W.cell? ⟨p, 8, none⟩ = some kv := (blk_cell h.out.cells 8).trans rfl
  obtain ⟨A, c, ekv, hl_, hc_⟩ := h.out.keys.row
  rw [ekv] at h8
  have HC := Aside0.mk hc_
  have HL := Aside0.mk hl_
  clear hl_ hc_ ekv
  go_enter Try.func50, Try.ntmps50
  go_wp2_with (first
    | (go_at_call 70; refine (store_is.calls h).mono ?_; rintro e w1 ⟨rfl, rfl⟩)
    | (go_at_call 74; refine (clone_strings A c s.keys _ HC.out HL.out hl.out).mono ?_; rintro e w2 ⟨v, rfl, ho, hb⟩; have HO := Aside0.mk ho; have HB := Aside0.mk hb; clear ho hb))
  go_ret
  exact ⟨_, rfl, HO.out, HB.out⟩
end Go.Proofs.Yteofdgonpbmdlaa.C
namespace Go.Proofs.Yteofdgonpbmdlaa.C
open Go.RowKit Go.Proofs.YteofdgonpbmdlaaW.PrintWords Go.Proofs.YteofdgonpbmdlaaW.PrintLast Go.Proofs.YteofdgonpbmdlaaW.PrintMore
attribute [local go_sem] max2_int min2_int max2_str min2_str str_leq str_gtr str_geq max_two min_two max_three min_three max_four min_four   -- for this text's walks alone
set_option linter.unusedVariables false
set_option linter.unusedSimpArgs false
def conductorlaw08_Big.f  : Option (Int × Int × Int × Int × Int × Int × Int) := some (1000, 10000, 1048576, 1000, 1000, 16, 1099511627776)
set_option maxHeartbeats 8000000 in
set_option maxRecDepth 100000 in
theorem conductorlaw08_Big.calls  (r1 : Int) (r2 : Int) (r3 : Int) (r4 : Int) (r5 : Int) (r6 : Int) (r7 : Int) (w : World) (h : conductorlaw08_Big.f  = some (r1, r2, r3, r4, r5, r6, r7)) :
  Calls Try.prog 40 #[] w fun e w' => e = .returned (.agg #[.int .i64 r1, .int .i64 r2, .int .i64 r3, .int .i64 r4, .int .i64 r5, .int .i64 r6, .int .u64 r7]) ∧ Below w.heap.size w w' := by
 have hu51 := Try.underlying51
 have HB := Aside0.mk (Below.refl w.heap.size w)
 have H : (some (1000, 10000, 1048576, 1000, 1000, 16, 1099511627776)) = some (r1, r2, r3, r4, r5, r6, r7) := h
 clear h
 simp only [Option.some.injEq, Prod.mk.injEq] at H
 obtain ⟨rfl, rfl, rfl, rfl, rfl, rfl, rfl⟩ := H
 go_enter Try.func40, Try.ntmps40
 go_wp2_with (first | ((with_reducible refine gate_dst (N := 0) rfl ?_); refine box_event ?hg (N := 0) ?hd (cs := #[.int .i64 0, .int .i64 0, .int .i64 0, .int .i64 0, .int .i64 0, .int .i64 0, .int .u64 0]) (t := 51) ?hr ?_; (case hd => rfl); (case hg => rfl); (case hr => first | (go_simp; done) | (go_simp; rfl)); intro gb390 hg w1 hbox hb; have n0_ := Aside0.mk (below_step (by repeat (first | (with_reducible first | exact HB.out | apply below_alloc | apply pw_below_drewN | apply below_drew1) | exact HB.out)) hb); have n1_ := Aside0.mk (hbox); have n2_ := Aside0.mk ((by rw [hg]; exact (below_size (by repeat (first | (with_reducible first | exact HB.out | apply below_alloc | apply pw_below_drewN | apply below_drew1) | exact HB.out))) : w.heap.size ≤ gb390)); have n3_ := Aside0.mk ((by rw [hg]; exact (below_size (by repeat (first | (with_reducible first | exact HB.out | apply below_alloc | apply pw_below_drewN | apply below_drew1) | exact HB.out))) : w.heap.size ≤ gb390)); clear HB; have HB := n0_; have BK390 := n1_; have GW390 := n2_; have GE390 := n3_; clear n0_ n1_ n2_ n3_; clear hb hbox hg; have hcz2_0 : w1.cell? ⟨gb390, 0, none⟩ = some (.int .i64 0) := (blk_cell BK390.out 0).trans rfl; have hcz2_1 : w1.cell? ⟨gb390, 1, none⟩ = some (.int .i64 0) := (blk_cell BK390.out 1).trans rfl; have hcz2_2 : w1.cell? ⟨gb390, 2, none⟩ = some (.int .i64 0) := (blk_cell BK390.out 2).trans rfl; have hcz2_3 : w1.cell? ⟨gb390, 3, none⟩ = some (.int .i64 0) := (blk_cell BK390.out 3).trans rfl; have hcz2_4 : w1.cell? ⟨gb390, 4, none⟩ = some (.int .i64 0) := (blk_cell BK390.out 4).trans rfl; have hcz2_5 : w1.cell? ⟨gb390, 5, none⟩ = some (.int .i64 0) := (blk_cell BK390.out 5).trans rfl; have hcz2_6 : w1.cell? ⟨gb390, 6, none⟩ = some (.int .u64 0) := (blk_cell BK390.out 6).trans rfl; have hfz2_0 := blk_frozen BK390.out 0; have hfz2_1 := blk_frozen BK390.out 1; have hfz2_2 := blk_frozen BK390.out 2; have hfz2_3 := blk_frozen BK390.out 3; have hfz2_4 := blk_frozen BK390.out 4; have hfz2_5 := blk_frozen BK390.out 5; have hfz2_6 := blk_frozen BK390.out 6))
 refine bodyPost_ret (results_cell_row rfl _ _ gb390 51 #[.int .i64 1000, .int .i64 10000, .int .i64 1048576, .int .i64 1000, .int .i64 1000, .int .i64 16, .int .u64 1099511627776] (0, 0) _ rfl (by (with_reducible repeat (first | refine blk_drewN ?_ _ | refine blk_drew ?_ | refine blk_alloc ?_ _)); refine blk_put (cs := #[.int .i64 1000, .int .i64 10000, .int .i64 1048576, .int .i64 1000, .int .i64 1000, .int .i64 16, .int .u64 0]) ?_ 6 _ rfl; (with_reducible repeat (first | refine blk_drewN ?_ _ | refine blk_drew ?_ | refine blk_alloc ?_ _)); refine blk_put (cs := #[.int .i64 1000, .int .i64 10000, .int .i64 1048576, .int .i64 1000, .int .i64 1000, .int .i64 0, .int .u64 0]) ?_ 5 _ rfl; (with_reducible repeat (first | refine blk_drewN ?_ _ | refine blk_drew ?_ | refine blk_alloc ?_ _)); refine blk_put (cs := #[.int .i64 1000, .int .i64 10000, .int .i64 1048576, .int .i64 1000, .int .i64 0, .int .i64 0, .int .u64 0]) ?_ 4 _ rfl; (with_reducible repeat (first | refine blk_drewN ?_ _ | refine blk_drew ?_ | refine blk_alloc ?_ _)); refine blk_put (cs := #[.int .i64 1000, .int .i64 10000, .int .i64 1048576, .int .i64 0, .int .i64 0, .int .i64 0, .int .u64 0]) ?_ 3 _ rfl; (with_reducible repeat (first | refine blk_drewN ?_ _ | refine blk_drew ?_ | refine blk_alloc ?_ _)); refine blk_put (cs := #[.int .i64 1000, .int .i64 10000, .int .i64 0, .int .i64 0, .int .i64 0, .int .i64 0, .int .u64 0]) ?_ 2 _ rfl; (with_reducible repeat (first | refine blk_drewN ?_ _ | refine blk_drew ?_ | refine blk_alloc ?_ _)); refine blk_put (cs := #[.int .i64 1000, .int .i64 0, .int .i64 0, .int .i64 0, .int .i64 0, .int .i64 0, .int .u64 0]) ?_ 1 _ rfl; (with_reducible repeat (first | refine blk_drewN ?_ _ | refine blk_drew ?_ | refine blk_alloc ?_ _)); refine blk_put (cs := #[.int .i64 0, .int .i64 0, .int .i64 0, .int .i64 0, .int .i64 0, .int .i64 0, .int .u64 0]) ?_ 0 _ rfl; (with_reducible repeat (first | refine blk_drewN ?_ _ | refine blk_drew ?_ | refine blk_alloc ?_ _)); exact BK390.out) Try.underlying51 rfl (by kernel_rfl)) rfl ?_
 exact ⟨by first | rfl | (simp [errW_none, errW_some] <;> rfl) | (simp [*, errW_none, errW_some] <;> rfl), by repeat (first | (with_reducible first | exact HB.out | apply below_alloc | apply pw_below_drewN | apply below_drew1 | refine below_set ?_ GE390.out) | exact HB.out)⟩
-- NOT PRINTED: function 70 (store_Store_is)
-- NOT PRINTED: function 72 (store_Store_chain)
-- NOT PRINTED: function 43 (store_Store_Read)
-- NOT PRINTED: function 49 (store_Store_Collect)
-- NOT PRINTED: function 74 (slices_Clone_string_string)
-- NOT PRINTED: function 50 (store_Store_Keys)
-- NOT PRINTED: function 52 (store_New)
-- NOT PRINTED: function 42 (store_Store_Scan)
-- NOT PRINTED: function 62 (store_Store_Latest)
-- NOT PRINTED: function 41 (conductorlaw08_does)
-- NOT PRINTED: function 44 (store_Store_Now)
def conductorref08_room.f (a0 : Int) : Option (Bool) := if a0 ≥ 1 then (some (decide (a0 ≤ 1048576))) else (some false)
set_option maxHeartbeats 8000000 in
set_option maxRecDepth 100000 in
theorem conductorref08_room.calls (a0 : Int) (r : Bool) (w : World) (h : conductorref08_room.f a0 = some r) :
  Calls Try.prog 73 #[.int .i64 a0] w fun e w' => e = .returned (.bool r) ∧ Drawn0 w w' := by
 have H : (if a0 ≥ 1 then (some (decide (a0 ≤ 1048576))) else (some false)) = some r := h
 clear h
 by_cases c2 : a0 ≥ 1
 ·rw [if_pos c2] at H
  have c2b0 : decide (1 ≤ a0) = true := decide_eq_true c2
  clear c2
  obtain rfl := Option.some.inj H
  go_enter Try.func73, Try.ntmps73
  go_wp2
  go_ret
  exact ⟨by first | rfl | (simp; done) | (simp [*]; done), by repeat (first | exact Drawn0.refl _ | apply Drawn0.step)⟩
 ·rw [if_neg c2] at H
  have c2b0 : decide (1 ≤ a0) = false := decide_eq_false c2
  clear c2
  obtain rfl := Option.some.inj H
  go_enter Try.func73, Try.ntmps73
  go_wp2
  go_ret
  exact ⟨by first | rfl | (simp; done) | (simp [*]; done), by repeat (first | exact Drawn0.refl _ | apply Drawn0.step)⟩
def conductorref08_May.f (a0_0 : Int) (a0_1 : Int) (a0_2 : Int) (a0_3 : Int) (a0_4 : Int) (a0_5 : Int) (a0_6 : Int) : Option (Bool) := (conductorref08_room.f a0_0).bind fun t422 => (if t422 = true then ((conductorref08_room.f a0_1).bind fun t423 => (if t423 = true then ((conductorref08_room.f a0_2).bind fun t424 => (if t424 = true then (some (decide (a0_6 ≥ 1))) else (some false))) else (some false))) else (some false))
set_option maxHeartbeats 8000000 in
set_option maxRecDepth 100000 in
theorem conductorref08_May.calls (a0_0 : Int) (a0_1 : Int) (a0_2 : Int) (a0_3 : Int) (a0_4 : Int) (a0_5 : Int) (a0_6 : Int) (r : Bool) (w : World) (h : conductorref08_May.f a0_0 a0_1 a0_2 a0_3 a0_4 a0_5 a0_6 = some r) :
  Calls Try.prog 46 #[.agg #[.int .i64 a0_0, .int .i64 a0_1, .int .i64 a0_2, .int .i64 a0_3, .int .i64 a0_4, .int .i64 a0_5, .int .u64 a0_6]] w fun e w' => e = .returned (.bool r) ∧ Below w.heap.size w w' := by
 have hu51 := Try.underlying51
 have HB := Aside0.mk (Below.refl w.heap.size w)
 have H : ((conductorref08_room.f a0_0).bind fun t422 => (if t422 = true then ((conductorref08_room.f a0_1).bind fun t423 => (if t423 = true then ((conductorref08_room.f a0_2).bind fun t424 => (if t424 = true then (some (decide (a0_6 ≥ 1))) else (some false))) else (some false))) else (some false))) = some r := h
 clear h
 replace H := Option.bind_eq_some_iff.mp H
 obtain ⟨t422, A20, H⟩ := H
 replace H : (if t422 = true then ((conductorref08_room.f a0_1).bind fun t423 => (if t423 = true then ((conductorref08_room.f a0_2).bind fun t424 => (if t424 = true then (some (decide (a0_6 ≥ 1))) else (some false))) else (some false))) else (some false)) = some r := H
 have A2 := Aside0.mk A20
 clear A20
 by_cases c3 : t422 = true
 ·subst c3
  have H1 : ((conductorref08_room.f a0_1).bind fun t423 => (if t423 = true then ((conductorref08_room.f a0_2).bind fun t424 => (if t424 = true then (some (decide (a0_6 ≥ 1))) else (some false))) else (some false))) = some r := by rw [if_pos rfl] at H; exact H
  clear H
  have H := H1
  clear H1
  replace H := Option.bind_eq_some_iff.mp H
  obtain ⟨t423, A40, H⟩ := H
  replace H : (if t423 = true then ((conductorref08_room.f a0_2).bind fun t424 => (if t424 = true then (some (decide (a0_6 ≥ 1))) else (some false))) else (some false)) = some r := H
  have A4 := Aside0.mk A40
  clear A40
  by_cases c5 : t423 = true
  ·subst c5
   have H1 : ((conductorref08_room.f a0_2).bind fun t424 => (if t424 = true then (some (decide (a0_6 ≥ 1))) else (some false))) = some r := by rw [if_pos rfl] at H; exact H
   clear H
   have H := H1
   clear H1
   replace H := Option.bind_eq_some_iff.mp H
   obtain ⟨t424, A60, H⟩ := H
   replace H : (if t424 = true then (some (decide (a0_6 ≥ 1))) else (some false)) = some r := H
   have A6 := Aside0.mk A60
   clear A60
   by_cases c7 : t424 = true
   ·subst c7
    have H1 : (some (decide (a0_6 ≥ 1))) = some r := by rw [if_pos rfl] at H; exact H
    clear H
    have H := H1
    clear H1
    obtain rfl := Option.some.inj H
    go_enter Try.func46, Try.ntmps46
    go_wp2_with (first | ((with_reducible refine gate_dst (N := 1) rfl ?_); refine box_event ?hg (N := 1) ?hd (cs := #[.int .i64 a0_0, .int .i64 a0_1, .int .i64 a0_2, .int .i64 a0_3, .int .i64 a0_4, .int .i64 a0_5, .int .u64 a0_6]) (t := 51) ?hr ?_; (case hd => rfl); (case hg => rfl); (case hr => first | (go_simp; done) | (go_simp; rfl)); intro gb421 hg w8 hbox hb; have n0_ := Aside0.mk (below_step (by repeat (first | (with_reducible first | exact HB.out | apply below_alloc | apply pw_below_drewN | apply below_drew1) | exact HB.out)) hb); have n1_ := Aside0.mk (hbox); have n2_ := Aside0.mk ((by rw [hg]; exact (below_size (by repeat (first | (with_reducible first | exact HB.out | apply below_alloc | apply pw_below_drewN | apply below_drew1) | exact HB.out))) : w.heap.size ≤ gb421)); have n3_ := Aside0.mk ((by rw [hg]; exact (below_size (by repeat (first | (with_reducible first | exact HB.out | apply below_alloc | apply pw_below_drewN | apply below_drew1) | exact HB.out))) : w.heap.size ≤ gb421)); clear HB; have HB := n0_; have BK421 := n1_; have GW421 := n2_; have GE421 := n3_; clear n0_ n1_ n2_ n3_; clear hb hbox hg; have hcz9_0 : w8.cell? ⟨gb421, 0, none⟩ = some (.int .i64 a0_0) := (blk_cell BK421.out 0).trans rfl; have hcz9_1 : w8.cell? ⟨gb421, 1, none⟩ = some (.int .i64 a0_1) := (blk_cell BK421.out 1).trans rfl; have hcz9_2 : w8.cell? ⟨gb421, 2, none⟩ = some (.int .i64 a0_2) := (blk_cell BK421.out 2).trans rfl; have hcz9_3 : w8.cell? ⟨gb421, 3, none⟩ = some (.int .i64 a0_3) := (blk_cell BK421.out 3).trans rfl; have hcz9_4 : w8.cell? ⟨gb421, 4, none⟩ = some (.int .i64 a0_4) := (blk_cell BK421.out 4).trans rfl; have hcz9_5 : w8.cell? ⟨gb421, 5, none⟩ = some (.int .i64 a0_5) := (blk_cell BK421.out 5).trans rfl; have hcz9_6 : w8.cell? ⟨gb421, 6, none⟩ = some (.int .u64 a0_6) := (blk_cell BK421.out 6).trans rfl; have hfz9_0 := blk_frozen BK421.out 0; have hfz9_1 := blk_frozen BK421.out 1; have hfz9_2 := blk_frozen BK421.out 2; have hfz9_3 := blk_frozen BK421.out 3; have hfz9_4 := blk_frozen BK421.out 4; have hfz9_5 := blk_frozen BK421.out 5; have hfz9_6 := blk_frozen BK421.out 6) | ((with_reducible refine gate_callee (f := 73) rfl ?_); refine goesL_ (some 5) rfl rfl Try.func73 (by kernel_rfl) rfl #[.int .i64 a0_0] rfl (by (try simp only [List.map_toArray, List.map_cons, List.map_nil]); first | done | rfl | (simp only [List.length_drop, List.length_take]; rfl)) ?_; (with_reducible refine (conductorref08_room.calls a0_0 true _ A2.out).mono ?_); rintro e w' ⟨rfl, ⟨nd, rfl⟩⟩; refine ⟨_, rfl, ?_⟩) | (go_at_call 73; (with_reducible refine (conductorref08_room.calls a0_1 true _ A4.out).mono ?_); rintro e w' ⟨rfl, ⟨nd, rfl⟩⟩) | (go_at_call 73; (with_reducible refine (conductorref08_room.calls a0_2 true _ A6.out).mono ?_); rintro e w' ⟨rfl, ⟨nd, rfl⟩⟩))
    go_ret
    exact ⟨by first | rfl | (simp [errW_none, errW_some] <;> rfl) | (simp [*, errW_none, errW_some] <;> rfl), by repeat (first | (with_reducible first | exact HB.out | apply below_alloc | apply pw_below_drewN | apply below_drew1 | refine below_set ?_ GE421.out) | exact HB.out)⟩
   ·replace c7 := Bool.eq_false_iff.mpr c7
    subst c7
    have H1 : (some false) = some r := by rw [if_neg (show ¬ (false = true) by decide)] at H; exact H
    clear H
    have H := H1
    clear H1
    obtain rfl := Option.some.inj H
    go_enter Try.func46, Try.ntmps46
    go_wp2_with (first | ((with_reducible refine gate_dst (N := 1) rfl ?_); refine box_event ?hg (N := 1) ?hd (cs := #[.int .i64 a0_0, .int .i64 a0_1, .int .i64 a0_2, .int .i64 a0_3, .int .i64 a0_4, .int .i64 a0_5, .int .u64 a0_6]) (t := 51) ?hr ?_; (case hd => rfl); (case hg => rfl); (case hr => first | (go_simp; done) | (go_simp; rfl)); intro gb421 hg w10 hbox hb; have n0_ := Aside0.mk (below_step (by repeat (first | (with_reducible first | exact HB.out | apply below_alloc | apply pw_below_drewN | apply below_drew1) | exact HB.out)) hb); have n1_ := Aside0.mk (hbox); have n2_ := Aside0.mk ((by rw [hg]; exact (below_size (by repeat (first | (with_reducible first | exact HB.out | apply below_alloc | apply pw_below_drewN | apply below_drew1) | exact HB.out))) : w.heap.size ≤ gb421)); have n3_ := Aside0.mk ((by rw [hg]; exact (below_size (by repeat (first | (with_reducible first | exact HB.out | apply below_alloc | apply pw_below_drewN | apply below_drew1) | exact HB.out))) : w.heap.size ≤ gb421)); clear HB; have HB := n0_; have BK421 := n1_; have GW421 := n2_; have GE421 := n3_; clear n0_ n1_ n2_ n3_; clear hb hbox hg; have hcz11_0 : w10.cell? ⟨gb421, 0, none⟩ = some (.int .i64 a0_0) := (blk_cell BK421.out 0).trans rfl; have hcz11_1 : w10.cell? ⟨gb421, 1, none⟩ = some (.int .i64 a0_1) := (blk_cell BK421.out 1).trans rfl; have hcz11_2 : w10.cell? ⟨gb421, 2, none⟩ = some (.int .i64 a0_2) := (blk_cell BK421.out 2).trans rfl; have hcz11_3 : w10.cell? ⟨gb421, 3, none⟩ = some (.int .i64 a0_3) := (blk_cell BK421.out 3).trans rfl; have hcz11_4 : w10.cell? ⟨gb421, 4, none⟩ = some (.int .i64 a0_4) := (blk_cell BK421.out 4).trans rfl; have hcz11_5 : w10.cell? ⟨gb421, 5, none⟩ = some (.int .i64 a0_5) := (blk_cell BK421.out 5).trans rfl; have hcz11_6 : w10.cell? ⟨gb421, 6, none⟩ = some (.int .u64 a0_6) := (blk_cell BK421.out 6).trans rfl; have hfz11_0 := blk_frozen BK421.out 0; have hfz11_1 := blk_frozen BK421.out 1; have hfz11_2 := blk_frozen BK421.out 2; have hfz11_3 := blk_frozen BK421.out 3; have hfz11_4 := blk_frozen BK421.out 4; have hfz11_5 := blk_frozen BK421.out 5; have hfz11_6 := blk_frozen BK421.out 6) | ((with_reducible refine gate_callee (f := 73) rfl ?_); refine goesL_ (some 5) rfl rfl Try.func73 (by kernel_rfl) rfl #[.int .i64 a0_0] rfl (by (try simp only [List.map_toArray, List.map_cons, List.map_nil]); first | done | rfl | (simp only [List.length_drop, List.length_take]; rfl)) ?_; (with_reducible refine (conductorref08_room.calls a0_0 true _ A2.out).mono ?_); rintro e w' ⟨rfl, ⟨nd, rfl⟩⟩; refine ⟨_, rfl, ?_⟩) | (go_at_call 73; (with_reducible refine (conductorref08_room.calls a0_1 true _ A4.out).mono ?_); rintro e w' ⟨rfl, ⟨nd, rfl⟩⟩) | (go_at_call 73; (with_reducible refine (conductorref08_room.calls a0_2 false _ A6.out).mono ?_); rintro e w' ⟨rfl, ⟨nd, rfl⟩⟩))
    go_ret
    exact ⟨by first | rfl | (simp [errW_none, errW_some] <;> rfl) | (simp [*, errW_none, errW_some] <;> rfl), by repeat (first | (with_reducible first | exact HB.out | apply below_alloc | apply pw_below_drewN | apply below_drew1 | refine below_set ?_ GE421.out) | exact HB.out)⟩
  ·replace c5 := Bool.eq_false_iff.mpr c5
   subst c5
   have H1 : (some false) = some r := by rw [if_neg (show ¬ (false = true) by decide)] at H; exact H
   clear H
   have H := H1
   clear H1
   obtain rfl := Option.some.inj H
   go_enter Try.func46, Try.ntmps46
   go_wp2_with (first | ((with_reducible refine gate_dst (N := 1) rfl ?_); refine box_event ?hg (N := 1) ?hd (cs := #[.int .i64 a0_0, .int .i64 a0_1, .int .i64 a0_2, .int .i64 a0_3, .int .i64 a0_4, .int .i64 a0_5, .int .u64 a0_6]) (t := 51) ?hr ?_; (case hd => rfl); (case hg => rfl); (case hr => first | (go_simp; done) | (go_simp; rfl)); intro gb421 hg w12 hbox hb; have n0_ := Aside0.mk (below_step (by repeat (first | (with_reducible first | exact HB.out | apply below_alloc | apply pw_below_drewN | apply below_drew1) | exact HB.out)) hb); have n1_ := Aside0.mk (hbox); have n2_ := Aside0.mk ((by rw [hg]; exact (below_size (by repeat (first | (with_reducible first | exact HB.out | apply below_alloc | apply pw_below_drewN | apply below_drew1) | exact HB.out))) : w.heap.size ≤ gb421)); have n3_ := Aside0.mk ((by rw [hg]; exact (below_size (by repeat (first | (with_reducible first | exact HB.out | apply below_alloc | apply pw_below_drewN | apply below_drew1) | exact HB.out))) : w.heap.size ≤ gb421)); clear HB; have HB := n0_; have BK421 := n1_; have GW421 := n2_; have GE421 := n3_; clear n0_ n1_ n2_ n3_; clear hb hbox hg; have hcz13_0 : w12.cell? ⟨gb421, 0, none⟩ = some (.int .i64 a0_0) := (blk_cell BK421.out 0).trans rfl; have hcz13_1 : w12.cell? ⟨gb421, 1, none⟩ = some (.int .i64 a0_1) := (blk_cell BK421.out 1).trans rfl; have hcz13_2 : w12.cell? ⟨gb421, 2, none⟩ = some (.int .i64 a0_2) := (blk_cell BK421.out 2).trans rfl; have hcz13_3 : w12.cell? ⟨gb421, 3, none⟩ = some (.int .i64 a0_3) := (blk_cell BK421.out 3).trans rfl; have hcz13_4 : w12.cell? ⟨gb421, 4, none⟩ = some (.int .i64 a0_4) := (blk_cell BK421.out 4).trans rfl; have hcz13_5 : w12.cell? ⟨gb421, 5, none⟩ = some (.int .i64 a0_5) := (blk_cell BK421.out 5).trans rfl; have hcz13_6 : w12.cell? ⟨gb421, 6, none⟩ = some (.int .u64 a0_6) := (blk_cell BK421.out 6).trans rfl; have hfz13_0 := blk_frozen BK421.out 0; have hfz13_1 := blk_frozen BK421.out 1; have hfz13_2 := blk_frozen BK421.out 2; have hfz13_3 := blk_frozen BK421.out 3; have hfz13_4 := blk_frozen BK421.out 4; have hfz13_5 := blk_frozen BK421.out 5; have hfz13_6 := blk_frozen BK421.out 6) | ((with_reducible refine gate_callee (f := 73) rfl ?_); refine goesL_ (some 5) rfl rfl Try.func73 (by kernel_rfl) rfl #[.int .i64 a0_0] rfl (by (try simp only [List.map_toArray, List.map_cons, List.map_nil]); first | done | rfl | (simp only [List.length_drop, List.length_take]; rfl)) ?_; (with_reducible refine (conductorref08_room.calls a0_0 true _ A2.out).mono ?_); rintro e w' ⟨rfl, ⟨nd, rfl⟩⟩; refine ⟨_, rfl, ?_⟩) | (go_at_call 73; (with_reducible refine (conductorref08_room.calls a0_1 false _ A4.out).mono ?_); rintro e w' ⟨rfl, ⟨nd, rfl⟩⟩))
   go_ret
   exact ⟨by first | rfl | (simp [errW_none, errW_some] <;> rfl) | (simp [*, errW_none, errW_some] <;> rfl), by repeat (first | (with_reducible first | exact HB.out | apply below_alloc | apply pw_below_drewN | apply below_drew1 | refine below_set ?_ GE421.out) | exact HB.out)⟩
 ·replace c3 := Bool.eq_false_iff.mpr c3
  subst c3
  have H1 : (some false) = some r := by rw [if_neg (show ¬ (false = true) by decide)] at H; exact H
  clear H
  have H := H1
  clear H1
  obtain rfl := Option.some.inj H
  go_enter Try.func46, Try.ntmps46
  go_wp2_with (first | ((with_reducible refine gate_dst (N := 1) rfl ?_); refine box_event ?hg (N := 1) ?hd (cs := #[.int .i64 a0_0, .int .i64 a0_1, .int .i64 a0_2, .int .i64 a0_3, .int .i64 a0_4, .int .i64 a0_5, .int .u64 a0_6]) (t := 51) ?hr ?_; (case hd => rfl); (case hg => rfl); (case hr => first | (go_simp; done) | (go_simp; rfl)); intro gb421 hg w14 hbox hb; have n0_ := Aside0.mk (below_step (by repeat (first | (with_reducible first | exact HB.out | apply below_alloc | apply pw_below_drewN | apply below_drew1) | exact HB.out)) hb); have n1_ := Aside0.mk (hbox); have n2_ := Aside0.mk ((by rw [hg]; exact (below_size (by repeat (first | (with_reducible first | exact HB.out | apply below_alloc | apply pw_below_drewN | apply below_drew1) | exact HB.out))) : w.heap.size ≤ gb421)); have n3_ := Aside0.mk ((by rw [hg]; exact (below_size (by repeat (first | (with_reducible first | exact HB.out | apply below_alloc | apply pw_below_drewN | apply below_drew1) | exact HB.out))) : w.heap.size ≤ gb421)); clear HB; have HB := n0_; have BK421 := n1_; have GW421 := n2_; have GE421 := n3_; clear n0_ n1_ n2_ n3_; clear hb hbox hg; have hcz15_0 : w14.cell? ⟨gb421, 0, none⟩ = some (.int .i64 a0_0) := (blk_cell BK421.out 0).trans rfl; have hcz15_1 : w14.cell? ⟨gb421, 1, none⟩ = some (.int .i64 a0_1) := (blk_cell BK421.out 1).trans rfl; have hcz15_2 : w14.cell? ⟨gb421, 2, none⟩ = some (.int .i64 a0_2) := (blk_cell BK421.out 2).trans rfl; have hcz15_3 : w14.cell? ⟨gb421, 3, none⟩ = some (.int .i64 a0_3) := (blk_cell BK421.out 3).trans rfl; have hcz15_4 : w14.cell? ⟨gb421, 4, none⟩ = some (.int .i64 a0_4) := (blk_cell BK421.out 4).trans rfl; have hcz15_5 : w14.cell? ⟨gb421, 5, none⟩ = some (.int .i64 a0_5) := (blk_cell BK421.out 5).trans rfl; have hcz15_6 : w14.cell? ⟨gb421, 6, none⟩ = some (.int .u64 a0_6) := (blk_cell BK421.out 6).trans rfl; have hfz15_0 := blk_frozen BK421.out 0; have hfz15_1 := blk_frozen BK421.out 1; have hfz15_2 := blk_frozen BK421.out 2; have hfz15_3 := blk_frozen BK421.out 3; have hfz15_4 := blk_frozen BK421.out 4; have hfz15_5 := blk_frozen BK421.out 5; have hfz15_6 := blk_frozen BK421.out 6) | ((with_reducible refine gate_callee (f := 73) rfl ?_); refine goesL_ (some 5) rfl rfl Try.func73 (by kernel_rfl) rfl #[.int .i64 a0_0] rfl (by (try simp only [List.map_toArray, List.map_cons, List.map_nil]); first | done | rfl | (simp only [List.length_drop, List.length_take]; rfl)) ?_; (with_reducible refine (conductorref08_room.calls a0_0 false _ A2.out).mono ?_); rintro e w' ⟨rfl, ⟨nd, rfl⟩⟩; refine ⟨_, rfl, ?_⟩))
  go_ret
  exact ⟨by first | rfl | (simp [errW_none, errW_some] <;> rfl) | (simp [*, errW_none, errW_some] <;> rfl), by repeat (first | (with_reducible first | exact HB.out | apply below_alloc | apply pw_below_drewN | apply below_drew1 | refine below_set ?_ GE421.out) | exact HB.out)⟩
end Go.Proofs.Yteofdgonpbmdlaa.C
namespace Go.Proofs.Yteofdgonpbmdlaa.St
open Go.RowKit Go.Maps Go.Proofs.YteofdgonpbmdlaaW.PrintWords Go.Proofs.YteofdgonpbmdlaaW.PrintLast Go.Proofs.YteofdgonpbmdlaaW.PrintMore Go.Proofs.Yteofdgonpbmdlaa.C Go.Proofs.Yteofdgonpbmdlaa.Pure
attribute [local go_sem] max2_int min2_int max2_str min2_str str_leq str_gtr str_geq max_two min_two max_three min_three max_four min_four
theorem good_new (l0 l1 l2 l3 l4 l5 last : Int) (h1 : 0 ≤ last) (h2 : last ≤ 18446744073709551615) : Good 0 (noStore l0 l1 l2 l3 l4 l5 last) where
  rg := fun _ => rfl
  ln := fun _ => Nat.le_refl _
  dl := fun _ v hv => by cases hv
  tm := fun _ v hv => by cases hv
  so := List.Pairwise.nil
  me := fun key => by simp [noStore]
  ks := fun key hk => by cases hk
  kn := Nat.le_refl _
  n0 := Int.le_refl _
  n1 := h1
  la := h2
section
variable {W : World} {base p : Nat} {B : Nat → Prop} {s : SS} {kv : Value} {mb n : Nat} {D : DataW Value}
theorem commit_P (h : Aside0 (StoreAt W base B p s kv mb n D)) {m : Nat} (g : Aside0 (Good m s)) (hm : Aside0 (m ≤ 800)) (l : List S102) (hl : Aside0 (l.length ≤ 20)) (hk : Aside0 (∀ x ∈ l, x.f0.size ≤ maxLen)) (low : Int) (okA : Nat → Prop) (hokA : Aside0 (∀ k, okA k → k < W.heap.size ∧ ¬ Own p mb kv k)) (A : Option Addr) (c0 : Nat) (hF : Aside0 (Kd.F k102 W okA A l.length l)) (hlc : Aside0 (l.length ≤ c0)) (hn : Aside0 (n + 20000 < maxLen)) :
    Calls Try.prog 61 #[.pointer (some ⟨p, 0, none⟩), .slice A l.length c0, .int .u64 low] W (ComPost W base B p kv mb n (comP s l low) 20000) := by
  refine (commit_calls h okA hokA A c0 l hF hlc low _ _ _ _ ⟨g.out.ask hm.out hl.out hk.out low⟩ ⟨by have := g.out.kn; have := hm.out; have := hl.out; have := hn.out; omega⟩).mono ?_
  rintro e w' ⟨h1, kv', n', D', h2, h3, h4⟩
  exact ⟨h1, kv', n', D', h2, by have := g.out.kn; have := hm.out; have := hl.out; omega, h4⟩
theorem collect_P (h : Aside0 (StoreAt W base B p s kv mb n D)) {m : Nat} (g : Aside0 (Good m s)) (hm : Aside0 (m ≤ 800)) (low : Int) (hn : Aside0 (n + 20000 < maxLen)) :
    Calls Try.prog 49 #[.pointer (some ⟨p, 0, none⟩), .int .u64 low] W fun e w' => e = .returned (.int .i64 (wentP s low)) ∧ ∃ kv' n' D', StoreAt w' base B p (colP s low) kv' mb n' D' ∧ n' ≤ n + 20000 ∧ Turn base (Own p mb kv) W w' ∧ (∀ k, kv'.ownBlock = some k → kv.ownBlock = some k ∨ W.heap.size ≤ k) := by
  have hkn := g.out.kn
  have hm' := hm.out
  have hn' := hn.out
  refine (store_Collect.calls h low (tfP s low) (zfP s low) ⟨by omega⟩ ⟨fun key hk => size256 (g.out.ks key hk)⟩ ⟨g.out.so.nodup⟩ ⟨fun key _ => g.out.trim hm.out key low⟩ ⟨fun key _ => g.out.size hm.out key low⟩ ⟨by omega⟩).mono ?_
  rintro e w' ⟨rfl, kv', n', D', h1, h2, h3, h4⟩
  exact ⟨rfl, kv', n', D', h1, by omega, h3.mono (fun k hk => hk.elim .inl (fun e => .inr (.inl e))), h4⟩
theorem read_P (h : Aside0 (StoreAt W base B p s kv mb n D)) {m : Nat} (g : Aside0 (Good m s)) (hm : Aside0 (m ≤ 800)) (key : ByteArray) (hk : Aside0 (key.size ≤ maxLen)) (a : Int) :
    Calls Try.prog 43 #[.pointer (some ⟨p, 0, none⟩), .string key, .int .u64 a] W fun e w' => (∃ A c, e = .returned (.tuple #[.slice A (getF (s.ch key) a).1.length c, .bool (getF (s.ch key) a).2]) ∧ (getF (s.ch key) a).1.length ≤ c ∧ Kd.F (Kd.int .u8) w' (fun k => W.heap.size ≤ k) A (getF (s.ch key) a).1.length (getF (s.ch key) a).1) ∧ Below W.heap.size W w' := by
  refine (store_Read.calls h key hk a _ _ ⟨g.out.get hm.out key a⟩).mono ?_
  rintro e w' ⟨v, rfl, ho, hb⟩
  obtain ⟨A, c, rfl⟩ := Kd.R_slice ho
  exact ⟨⟨A, c, rfl, (Kd.R_reads' ho).2.1, Kd.R_F (Kd.R_mono (Kd.R_bound ho) (fun k hk_ => hk_.2.1))⟩, hb⟩
theorem scan_P (h : Aside0 (StoreAt W base B p s kv mb n D)) {m : Nat} (g : Aside0 (Good m s)) (hm : Aside0 (m ≤ 800)) (lo hi : ByteArray) (a : Int) :
    Calls Try.prog 42 #[.pointer (some ⟨p, 0, none⟩), .string lo, .string hi, .int .u64 a] W fun e w' => (∃ A c, e = .returned (.slice A (scanP s lo hi a).length c) ∧ (scanP s lo hi a).length ≤ c ∧ Kd.F k62 w' (fun k => W.heap.size ≤ k) A (scanP s lo hi a).length (scanP s lo hi a)) ∧ Below W.heap.size W w' := by
  have hkn := g.out.kn
  have hm' := hm.out
  refine (store_Scan.calls h ⟨by omega⟩ ⟨fun key hk => size256 (g.out.ks key hk)⟩ lo hi a (fun k => getF (s.ch k) a) ⟨fun key _ => g.out.get hm.out key a⟩).mono ?_
  rintro e w' ⟨v, rfl, ho, hb⟩
  obtain ⟨A, c, rfl⟩ := Kd.N_slice ho
  exact ⟨⟨A, c, rfl, (Kd.N_reads' ho).2.1, Kd.N_F ho⟩, hb⟩
end
def sBig : SS := noStore 1000 10000 1048576 1000 1000 16 1099511627776
def kA : ByteArray := ⟨#[97]⟩
def wA : List S102 := [⟨kA, false, [120]⟩]
def wB : List S102 := [⟨kA, true, []⟩]
def sA : SS := (comP sBig wA 0).2.2
def sB : SS := (comP sA wB 0).2.2
theorem big_good : Good 0 sBig := good_new _ _ _ _ _ _ _ (by decide) (by decide)
theorem exA : (comP sBig wA 0).1 = 1 ∧ (comP sBig wA 0).2.1 = 0 := by decide +kernel
theorem exB : (comP sA wB 0).1 = 2 ∧ (comP sA wB 0).2.1 = 0 := by decide +kernel
theorem exR1 : getF (sB.ch kA) 1 = ([120], true) := by decide +kernel
theorem exR2 : getF (sB.ch kA) 2 = ([], false) := by decide +kernel
theorem exC : wentP sB 2 = 2 := by decide +kernel
theorem exK : (colP sB 2).keys = [] := by decide +kernel
theorem sA_good : Good 1 sA := big_good.com (by decide) 0
theorem sB_good : Good 2 sB := sA_good.com (by decide) 0
theorem big_f : conductorlaw08_Big.f = some (1000, 10000, 1048576, 1000, 1000, 16, 1099511627776) := by kernel_rfl
theorem conv_x (w : World) : ∃ g cap w1, (convert 9 26 (.string ⟨#[120]⟩)).run Try.prog w = .ok (.slice (some ⟨g, 0, none⟩) 1 cap) w1 ∧ 1 ≤ cap ∧ w.heap.size ≤ g ∧ Below w.heap.size w w1 ∧ Kd.F (Kd.int .u8) w1 (fun k => k = g) (some ⟨g, 0, none⟩) 1 [120] := by
  have hr := run_bytes_of_string (P := Try.prog) w 9 26 5 ⟨#[120]⟩ Try.underlying9 Try.underlying26 Try.underlying5
  refine ⟨_, _, _, hr, grownCap_ge w 1 0 5, Nat.le_refl _, ((Below.refl _ w).drew).alloc (Nat.le_refl _) _, fun W' hW => ⟨rfl, by decide, fun _ => ⟨_, rfl, fun j q hj => ?_⟩⟩⟩
  have hb := hW w.heap.size rfl (by simp)
  have hn := heap_alloc_new w.drew (.cells (bytesRow ⟨#[120]⟩ (grownCap w 1 0 5)) 5 ((bytesRow ⟨#[120]⟩ (grownCap w 1 0 5)).size, (bytesRow ⟨#[120]⟩ (grownCap w 1 0 5)).size + 1))
  cases j with
  | succ j => simp at hj
  | zero =>
    simp only [List.getElem?_cons_zero, Option.some.injEq] at hj
    subst hj
    refine ⟨[.int .u8 120], rfl, rfl, fun i u hi => ?_⟩
    cases i with
    | succ i => simp at hi
    | zero =>
      simp only [List.getElem?_cons_zero, Option.some.injEq] at hi
      subst hi
      have := cell_of_row W' w.heap.size 0 _ _ _ (hb.trans hn)
      simp only [Nat.zero_mul, Nat.add_zero]
      rw [show (Addr.add ⟨w.heap.size, 0, none⟩ 0) = ⟨w.heap.size, 0, none⟩ from by simp [Addr.add]]
      rw [this]
      simp only [bytesRow]
      rw [Array.getElem?_append_left (by simp)]
      simp
set_option maxRecDepth 100000 in
set_option maxHeartbeats 4000000 in
theorem put_ax (w : World) : Calls Try.prog 68 #[.string ⟨#[97]⟩, .string ⟨#[120]⟩] w fun e w' => (∃ A c, e = .returned (.slice A wA.length c) ∧ wA.length ≤ c ∧ Kd.F k102 w' (fun k => w.heap.size ≤ k) A wA.length wA) ∧ Below w.heap.size w w' := by
  obtain ⟨g, cap, w1, hrun, hc, hg, hb, hF⟩ := conv_x w
  have HB := Aside0.mk hb
  have HF := Aside0.mk hF
  have HG := Aside0.mk hg
  have HC := Aside0.mk hc
  clear hb hF hg hc
  go_enter Try.func68, Try.ntmps68
  go_wp2_with ((with_reducible refine gate_dst (N := 9) rfl ?_); refine Kd.N_lit k102 (w0 := w) w.heap.size 102 ?hg (N' := 9) ?hd (xs := wA) (inner := [.string ⟨#[97]⟩, .bool false, .slice (some ⟨g, 0, none⟩) 1 cap]) (ok := fun k => w.heap.size ≤ k) (okp := fun k => w.heap.size ≤ k) ?hr ?hp (fun _ hk => hk) HB.out.size HB.out HB.out.size (by decide) ?_; (case hd => rfl); (case hg => rfl); (case hr => first | (go_simp; done) | (go_simp; rfl)); (case hp => exact (Reps.c3 (show Kd.FK k102 _ _ (⟨kA, false, [120]⟩ : S102) [.string ⟨#[97]⟩, .bool false, .slice (some ⟨g, 0, none⟩) 1 cap] from k102_mkF _ _ (⟨kA, false, [120]⟩ : S102) HC.out (Kd.F_mono HF.out (fun k hk => by rw [hk]; exact HG.out))) (Reps.none _ _))); intro v2 w2 ho hb2 hg2 hat2; obtain ⟨A, c, ev⟩ := Kd.N_slice ho; subst ev; have HO := Aside0.mk (Kd.N_F ho); have HL := Aside0.mk (Kd.N_reads' ho).2.1; have HB2 := Aside0.mk hb2; clear ho hb2 hg2 hat2)
  go_ret
  exact ⟨⟨A, c, rfl, HL.out, HO.out⟩, HB2.out⟩
theorem _root_.Go.Proofs.Yteofdgonpbmdlaa.C.StoreAt.lowerB {W : World} {base base' p : Nat} {s : SS} {kv : Value} {mb n : Nat} {D : DataW Value} (h : StoreAt W base (fun k => base ≤ k) p s kv mb n D) (hb : base' ≤ base) (_ : base' ≤ base') : StoreAt W base' (fun k => base' ≤ k) p s kv mb n D where
  cells := h.cells
  keys := h.keys.imp (fun q => Kd.R_lower (Kd.R_mono q (fun k hk => ⟨Nat.le_trans hb hk.1, hk.2⟩)) hb) (fun ⟨e, a, h1, h2, h3⟩ => ⟨e, a, h1, ⟨Nat.le_trans hb h2.1, h2.2⟩, h3⟩)
  map := h.map
  bb := fun _ hk => hk
  bn := fun k hk => Nat.le_trans hb (h.bn k hk)
  bp := Nat.le_trans hb h.bp
  bm := Nat.le_trans hb h.bm
  pm := h.pm
  chains := fun key hk => by
    obtain ⟨A, c, h1, h2, h3⟩ := h.chains key hk
    exact ⟨A, c, h1, h2, Kd.F_mono h3 (fun k hk => ⟨Nat.le_trans hb hk.1, hk.2⟩)⟩
theorem new_big (w : World) : Calls Try.prog 52 #[.agg #[.int .i64 1000, .int .i64 10000, .int .i64 1048576, .int .i64 1000, .int .i64 1000, .int .i64 16, .int .u64 1099511627776]] w fun e w' => (∃ p mb : Nat, e = .returned (.tuple #[.pointer (some ⟨p, 0, none⟩), .int .i64 0]) ∧ StoreAt w' w.heap.size (fun k => w.heap.size ≤ k) p sBig noCh mb 0 (.map [])) ∧ Below w.heap.size w w' :=
  store_New.good 1000 10000 1048576 1000 1000 16 1099511627776 w ⟨by decide, by decide⟩ ⟨by decide, by decide⟩ ⟨by decide, by decide⟩ (by decide)
theorem commit_ax {W : World} {base p : Nat} {B : Nat → Prop} {kv : Value} {mb n : Nat} {D : DataW Value} (h : Aside0 (StoreAt W base B p sBig kv mb n D)) (okA : Nat → Prop) (hokA : Aside0 (∀ k, okA k → k < W.heap.size ∧ ¬ Own p mb kv k)) (A : Option Addr) (c0 : Nat) (hF : Aside0 (Kd.F k102 W okA A wA.length wA)) (hlc : Aside0 (wA.length ≤ c0)) (hn : Aside0 (n ≤ 100)) :
    Calls Try.prog 61 #[.pointer (some ⟨p, 0, none⟩), .slice A wA.length c0, .int .u64 0] W fun e w' => e = .returned (.tuple #[.int .u64 1, .int .i64 0]) ∧ ∃ kv' n' D', StoreAt w' base B p sA kv' mb n' D' ∧ n' ≤ n + 20000 ∧ Turn base (Own p mb kv) W w' ∧ (∀ k, kv'.ownBlock = some k → kv.ownBlock = some k ∨ W.heap.size ≤ k) := by
  refine (commit_P h ⟨big_good⟩ ⟨by decide⟩ wA ⟨by decide⟩ ⟨fun x hx => by rw [List.mem_singleton.1 hx]; decide⟩ 0 okA hokA A c0 hF hlc ⟨by have := hn.out; simp only [maxLen]; omega⟩).mono ?_
  rintro e w' ⟨rfl, rest⟩
  exact ⟨by rw [exA.1, exA.2], rest⟩
theorem commit_bx {W : World} {base p : Nat} {B : Nat → Prop} {kv : Value} {mb n : Nat} {D : DataW Value} (h : Aside0 (StoreAt W base B p sA kv mb n D)) (okA : Nat → Prop) (hokA : Aside0 (∀ k, okA k → k < W.heap.size ∧ ¬ Own p mb kv k)) (A : Option Addr) (c0 : Nat) (hF : Aside0 (Kd.F k102 W okA A wB.length wB)) (hlc : Aside0 (wB.length ≤ c0)) (hn : Aside0 (n ≤ 100000)) :
    Calls Try.prog 61 #[.pointer (some ⟨p, 0, none⟩), .slice A wB.length c0, .int .u64 0] W fun e w' => e = .returned (.tuple #[.int .u64 2, .int .i64 0]) ∧ ∃ kv' n' D', StoreAt w' base B p sB kv' mb n' D' ∧ n' ≤ n + 20000 ∧ Turn base (Own p mb kv) W w' ∧ (∀ k, kv'.ownBlock = some k → kv.ownBlock = some k ∨ W.heap.size ≤ k) := by
  refine (commit_P h ⟨sA_good⟩ ⟨by decide⟩ wB ⟨by decide⟩ ⟨fun x hx => by rw [List.mem_singleton.1 hx]; decide⟩ 0 okA hokA A c0 hF hlc ⟨by have := hn.out; simp only [maxLen]; omega⟩).mono ?_
  rintro e w' ⟨rfl, rest⟩
  exact ⟨by rw [exB.1, exB.2], rest⟩
theorem read_1 {W : World} {base p : Nat} {B : Nat → Prop} {kv : Value} {mb n : Nat} {D : DataW Value} (h : Aside0 (StoreAt W base B p sB kv mb n D)) :
    Calls Try.prog 43 #[.pointer (some ⟨p, 0, none⟩), .string ⟨#[97]⟩, .int .u64 1] W fun e w' => (∃ A c, e = .returned (.tuple #[.slice A 1 c, .bool true]) ∧ 1 ≤ c ∧ Kd.F (Kd.int .u8) w' (fun k => W.heap.size ≤ k) A 1 [120]) ∧ Below W.heap.size W w' := by
  refine (read_P h ⟨sB_good⟩ ⟨by decide⟩ kA ⟨by decide⟩ 1).mono ?_
  rintro e w' ⟨⟨A, c, rfl, h1, h2⟩, hb⟩
  rw [exR1] at h1 h2 ⊢
  exact ⟨⟨A, c, rfl, h1, h2⟩, hb⟩
theorem read_2 {W : World} {base p : Nat} {B : Nat → Prop} {kv : Value} {mb n : Nat} {D : DataW Value} (h : Aside0 (StoreAt W base B p sB kv mb n D)) :
    Calls Try.prog 43 #[.pointer (some ⟨p, 0, none⟩), .string ⟨#[97]⟩, .int .u64 2] W fun e w' => (∃ A c, e = .returned (.tuple #[.slice A 0 c, .bool false])) ∧ Below W.heap.size W w' := by
  refine (read_P h ⟨sB_good⟩ ⟨by decide⟩ kA ⟨by decide⟩ 2).mono ?_
  rintro e w' ⟨⟨A, c, rfl, h1, h2⟩, hb⟩
  rw [exR2]
  exact ⟨⟨A, c, rfl⟩, hb⟩
theorem collect_x {W : World} {base p : Nat} {B : Nat → Prop} {kv : Value} {mb n : Nat} {D : DataW Value} (h : Aside0 (StoreAt W base B p sB kv mb n D)) (hn : Aside0 (n ≤ 1000000)) :
    Calls Try.prog 49 #[.pointer (some ⟨p, 0, none⟩), .int .u64 2] W fun e w' => e = .returned (.int .i64 2) ∧ ∃ kv' n' D', StoreAt w' base B p (colP sB 2) kv' mb n' D' ∧ n' ≤ n + 20000 ∧ Turn base (Own p mb kv) W w' := by
  refine (collect_P h ⟨sB_good⟩ ⟨by decide⟩ 2 ⟨by have := hn.out; simp only [maxLen]; omega⟩).mono ?_
  rintro e w' ⟨rfl, kv', n', D', h1, h2, h3, _⟩
  exact ⟨by rw [exC], kv', n', D', h1, h2, h3⟩
theorem keys_x {W : World} {base p : Nat} {B : Nat → Prop} {kv : Value} {mb n : Nat} {D : DataW Value} (h : Aside0 (StoreAt W base B p (colP sB 2) kv mb n D)) :
    Calls Try.prog 50 #[.pointer (some ⟨p, 0, none⟩)] W fun e w' => (∃ A c, e = .returned (.slice A 0 c)) ∧ Below W.heap.size W w' := by
  refine (store_Keys.calls h ⟨by rw [exK]; decide⟩).mono ?_
  rintro e w' ⟨v, rfl, ho, hb⟩
  obtain ⟨A, c, rfl⟩ := Kd.R_slice ho
  rw [exK]
  exact ⟨⟨A, c, rfl⟩, hb⟩
set_option maxRecDepth 100000 in
set_option maxHeartbeats 8000000 in
theorem live_calls (W : World) : Calls Try.prog 37 #[] W fun e w' => e = .returned (.bool true) ∧ Below W.heap.size W w' := by
  have hsn : strOfNums [120] = (⟨#[120]⟩ : ByteArray) := by decide +kernel
  go_enter Try.func37, Try.ntmps37
  go_wp2_with (first
    | (go_at_call 40; (with_reducible refine (conductorlaw08_Big.calls _ _ _ _ _ _ _ _ big_f).mono ?_); rintro e w1 ⟨rfl, hb⟩; have HB1 := Aside0.mk hb; clear hb)
    | (go_at_call 52; (with_reducible refine (new_big _).mono ?_); rintro e w2 ⟨⟨p, mb, rfl, hS⟩, hb⟩; have HS2 := Aside0.mk (show StoreAt w2 w1.heap.size _ p sBig noCh mb 0 (.map []) from hS); have HB2 := Aside0.mk (below_step HB1.out hb); have h12 := Aside0.mk HB1.out.size; clear hS hb)
    | (go_at_call 68; (refine (put_ax _).mono ?_); rintro e w3 ⟨⟨A1, c1, rfl, hl1, hF1⟩, hb⟩; have HF3 := Aside0.mk hF1; have HL3 := Aside0.mk hl1; have HB3 := Aside0.mk (below_step HB2.out hb); have HS3 := Aside0.mk (HS2.out.below hb); clear hF1 hl1 hb)
    | (go_at_call 61; (with_reducible refine (commit_ax HS3 (fun k => w2.heap.size ≤ k ∧ k < w3.heap.size) ?s0 A1 c1 ?s1 HL3 ⟨by decide⟩).mono ?_); (case s0 => exact ⟨fun k hk_ => ⟨hk_.2, fun ho => by have := (HS2.out.own ho).2.2; omega⟩⟩); (case s1 => exact ⟨Kd.F_bound HF3.out⟩); rintro e w4 ⟨rfl, kv4, n4, D4, hS, hn, hT, hK⟩; have HS4 := Aside0.mk hS; have hn4 := Aside0.mk hn; have HB4 := Aside0.mk ((Below.mono HB3.out (Nat.le_refl _)).trans (hT.below.mono h12.out)); clear hS hn hT hK HS3 HF3)
    | ((with_reducible refine gate_dst (N := 31) rfl ?_); refine Kd.N_lit k102 (w0 := w4) w4.heap.size 102 ?hg (N' := 31) ?hd (xs := wB) (inner := [.string ⟨#[97]⟩, .bool true, .slice none 0 0]) (ok := fun k => w4.heap.size ≤ k) (okp := fun k => w4.heap.size ≤ k) ?hr ?hp (fun _ hk => hk) (Nat.le_refl _) (Below.refl _ _) (Nat.le_refl _) (by decide) ?_; (case hd => rfl); (case hg => rfl); (case hr => first | (go_simp; done) | (go_simp; rfl)); (case hp => exact (Reps.c3 (show Kd.FK k102 _ _ (⟨kA, true, []⟩ : S102) [.string ⟨#[97]⟩, .bool true, .slice none 0 0] from k102_mkF _ _ (⟨kA, true, []⟩ : S102) (Nat.le_refl _) (Kd.F_nil _ _ _)) (Reps.none _ _))); intro v5 w5 ho hb2 hg2 hat2; obtain ⟨A5, c5, ev⟩ := Kd.N_slice ho; subst ev; have HF5 := Aside0.mk (Kd.N_F ho); have HL5 := Aside0.mk (Kd.N_reads' ho).2.1; have HS5 := Aside0.mk (HS4.out.below hb2); have HB5 := Aside0.mk (below_step HB4.out hb2); clear ho hb2 hg2 hat2)
    | (go_at_call 61; (with_reducible refine (commit_bx HS5 (fun k => w4.heap.size ≤ k ∧ k < w5.heap.size) ?s0 A5 c5 ?s1 HL5 ?s2).mono ?_); (case s0 => exact ⟨fun k hk_ => ⟨hk_.2, fun ho => by have := (HS4.out.own ho).2.2; omega⟩⟩); (case s1 => exact ⟨Kd.F_bound HF5.out⟩); (case s2 => exact ⟨by have := hn4.out; omega⟩); rintro e w6 ⟨rfl, kv6, n6, D6, hS, hn, hT, hK⟩; have HS6 := Aside0.mk hS; have hn6 := Aside0.mk hn; have HB6 := Aside0.mk (HB5.out.trans (hT.below.mono h12.out)); clear hS hn hT hK HS5 HF5 HS4)
    | (go_at_call 43; (with_reducible refine (read_1 HS6).mono ?_); rintro e w7 ⟨⟨A7, c7, rfl, hl7, hF7⟩, hb⟩; have HS7 := Aside0.mk (HS6.out.below hb); have HF7 := Aside0.mk hF7; have HB7 := Aside0.mk (below_step HB6.out hb); clear hb hF7 hl7)
    | (go_at_call 43; (with_reducible refine (read_2 HS7).mono ?_); rintro e w8 ⟨⟨A8, c8, rfl⟩, hb⟩; have HS8 := Aside0.mk (HS7.out.below hb); have hcv := Kd.C_string (P := Try.prog) (A := A7) (n := 1) (c := c7) Try.underlying26 Try.underlying5 Try.underlying9 (Kd.F_now (Kd.F_below HF7.out hb)); have HB8 := Aside0.mk (below_step HB7.out hb); clear hb)
    | (go_at_call 49; (with_reducible refine (collect_x HS8 ?s0).mono ?_); (case s0 => exact ⟨by have := hn4.out; have := hn6.out; omega⟩); rintro e w9 ⟨rfl, kv9, n9, D9, hS, hn, hT⟩; have HS9 := Aside0.mk hS; have HB9 := Aside0.mk (HB8.out.trans (hT.below.mono h12.out)); clear hS hn hT)
    | (go_at_call 50; (with_reducible refine (keys_x HS9).mono ?_); rintro e w10 ⟨⟨A10, c10, rfl⟩, hb⟩; have HB10 := Aside0.mk (below_step HB9.out hb); clear hb))
  go_ret
  exact ⟨rfl, HB10.out⟩
set_option maxRecDepth 100000 in
set_option maxHeartbeats 4000000 in
theorem new_bad (l0 l1 l2 l3 l4 l5 last : Int) (w : World) (h : ¬ (Room l0 ∧ Room l1 ∧ Room l2 ∧ last ≠ 0)) :
    Calls Try.prog 52 #[.agg #[.int .i64 l0, .int .i64 l1, .int .i64 l2, .int .i64 l3, .int .i64 l4, .int .i64 l5, .int .u64 last]] w fun e w' => e = .returned (.tuple #[.pointer none, .int .i64 1]) ∧ Below w.heap.size w w' := by
  have H := Aside0.mk h
  clear h
  have i0 : ∀ w, (Instr.index 107 (.agg #[.int .i64 l0, .int .i64 l1, .int .i64 l2]) (.int .i64 0)).run Try.prog w = .ok (.int .i64 l0) w := fun _ => by kernel_rfl
  have i1 : ∀ w, (Instr.index 107 (.agg #[.int .i64 l0, .int .i64 l1, .int .i64 l2]) (.int .i64 1)).run Try.prog w = .ok (.int .i64 l1) w := fun _ => by kernel_rfl
  have i2 : ∀ w, (Instr.index 107 (.agg #[.int .i64 l0, .int .i64 l1, .int .i64 l2]) (.int .i64 2)).run Try.prog w = .ok (.int .i64 l2) w := fun _ => by kernel_rfl
  go_enter Try.func52, Try.ntmps52
  go_wp2_with ((with_reducible refine gate_dst (N := 1) rfl ?_); refine box_event ?hg (N := 1) ?hd (cs := #[.int .i64 l0, .int .i64 l1, .int .i64 l2, .int .i64 l3, .int .i64 l4, .int .i64 l5, .int .u64 last]) (t := 51) ?hr ?_; (case hd => rfl); (case hg => rfl); (case hr => first | (go_simp; done) | (go_simp; rfl)); intro g1 hg w1 hbox hb; have HB1 := Aside0.mk hb; have j0 := (blk_cell hbox 0).trans (show _ = some (Value.int .i64 l0) from rfl); have j1 := (blk_cell hbox 1).trans (show _ = some (Value.int .i64 l1) from rfl); have j2 := (blk_cell hbox 2).trans (show _ = some (Value.int .i64 l2) from rfl); have j6 := (blk_cell hbox 6).trans (show _ = some (Value.int .u64 last) from rfl); clear hbox hb hg)
  go_loop [13] (fun i => ∃ k : Nat, k ≤ 3 ∧ i = .int .i64 k ∧ Aside0 ((0 < k → Room l0) ∧ (1 < k → Room l1) ∧ (2 < k → Room l2))) (fun i => 3 - (intOf i).toNat)
  case atStart => exact ⟨0, by omega, rfl, ⟨⟨fun h => absurd h (by omega), fun h => absurd h (by omega), fun h => absurd h (by omega)⟩⟩⟩
  case round =>
    obtain ⟨k, hk, rfl, HK⟩ := hrel
    by_cases hlt : k < 3
    · obtain rfl | rfl | rfl : k = 0 ∨ k = 1 ∨ k = 2 := by omega
      · by_cases hr : 1 ≤ l0 ∧ l0 ≤ 1048576
        · obtain ⟨a0, b0⟩ := hr
          go_wp2
          go_round
          case rel => exact ⟨1, by omega, by go_num, ⟨fun _ => ⟨a0, b0⟩, fun h => absurd h (by omega), fun h => absurd h (by omega)⟩⟩
          case measure => simp [intOf]
        · by_cases h1 : 1 ≤ l0
          · have h2 : ¬ l0 ≤ 1048576 := fun h2 => hr ⟨h1, h2⟩
            go_wp2
            go_ret2
            exact ⟨rfl, HB1.out⟩
          · go_wp2
            go_ret2
            exact ⟨rfl, HB1.out⟩
      · by_cases hr : 1 ≤ l1 ∧ l1 ≤ 1048576
        · obtain ⟨a0, b0⟩ := hr
          go_wp2
          go_round
          case rel => exact ⟨2, by omega, by go_num, ⟨fun _ => HK.out.1 (by omega), fun _ => ⟨a0, b0⟩, fun h => absurd h (by omega)⟩⟩
          case measure => simp [intOf]
        · by_cases h1 : 1 ≤ l1
          · have h2 : ¬ l1 ≤ 1048576 := fun h2 => hr ⟨h1, h2⟩
            go_wp2
            go_ret2
            exact ⟨rfl, HB1.out⟩
          · go_wp2
            go_ret2
            exact ⟨rfl, HB1.out⟩
      · by_cases hr : 1 ≤ l2 ∧ l2 ≤ 1048576
        · obtain ⟨a0, b0⟩ := hr
          go_wp2
          go_round
          case rel => exact ⟨3, by omega, by go_num, ⟨fun _ => HK.out.1 (by omega), fun _ => HK.out.2.1 (by omega), fun _ => ⟨a0, b0⟩⟩⟩
          case measure => simp [intOf]
        · by_cases h1 : 1 ≤ l2
          · have h2 : ¬ l2 ≤ 1048576 := fun h2 => hr ⟨h1, h2⟩
            go_wp2
            go_ret2
            exact ⟨rfl, HB1.out⟩
          · go_wp2
            go_ret2
            exact ⟨rfl, HB1.out⟩
    · have hk3 : k = 3 := by omega
      have hl : last = 0 := Classical.not_not.1 (fun hne => H.out ⟨HK.out.1 (by omega), HK.out.2.1 (by omega), HK.out.2.2 (by omega), hne⟩)
      have hlb : (last == 0) = true := by rw [hl]; rfl
      clear hl HK
      go_wp2
      go_ret2
      exact ⟨rfl, HB1.out⟩
set_option maxRecDepth 100000 in
set_option maxHeartbeats 4000000 in
theorem made_good (l0 l1 l2 l3 l4 l5 last : Int) (w : World) (h0 : Room l0) (h1 : Room l1) (h2 : Room l2) (hl : last ≠ 0) :
    Calls Try.prog 39 #[.agg #[.int .i64 l0, .int .i64 l1, .int .i64 l2, .int .i64 l3, .int .i64 l4, .int .i64 l5, .int .u64 last]] w fun e w' => (∃ p mb : Nat, e = .returned (.pointer (some ⟨p, 0, none⟩)) ∧ StoreAt w' w.heap.size (fun k => w.heap.size ≤ k) p (noStore l0 l1 l2 l3 l4 l5 last) noCh mb 0 (.map [])) ∧ Below w.heap.size w w' := by
  have hN := Aside0.mk (fun w' => store_New.good l0 l1 l2 l3 l4 l5 last w' h0 h1 h2 hl)
  clear h0 h1 h2 hl
  go_enter Try.func39, Try.ntmps39
  go_wp2_with (first
    | ((with_reducible refine gate_dst (N := 1) rfl ?_); refine box_event ?hg (N := 1) ?hd (cs := #[.int .i64 l0, .int .i64 l1, .int .i64 l2, .int .i64 l3, .int .i64 l4, .int .i64 l5, .int .u64 last]) (t := 51) ?hr ?_; (case hd => rfl); (case hg => rfl); (case hr => first | (go_simp; done) | (go_simp; rfl)); intro g1 hg w1 hbox hb; have HB1 := Aside0.mk hb; have j0 := (blk_cell hbox 0).trans (show _ = some (Value.int .i64 l0) from rfl); have j1 := (blk_cell hbox 1).trans (show _ = some (Value.int .i64 l1) from rfl); have j2 := (blk_cell hbox 2).trans (show _ = some (Value.int .i64 l2) from rfl); have j3 := (blk_cell hbox 3).trans (show _ = some (Value.int .i64 l3) from rfl); have j4 := (blk_cell hbox 4).trans (show _ = some (Value.int .i64 l4) from rfl); have j5 := (blk_cell hbox 5).trans (show _ = some (Value.int .i64 l5) from rfl); have j6 := (blk_cell hbox 6).trans (show _ = some (Value.int .u64 last) from rfl); clear hbox hb hg)
    | (go_at_call 52; (with_reducible refine (hN.out _).mono ?_); rintro e w2 ⟨⟨p, mb, rfl, hS⟩, hb⟩; have HS2 := Aside0.mk (hS.lowerB HB1.out.size (Nat.le_refl _)); have HB2 := Aside0.mk (below_step HB1.out hb); clear hS hb j0 j1 j2 j3 j4 j5 j6))
  go_ret
  exact ⟨⟨p, mb, rfl, HS2.out⟩, HB2.out⟩
set_option maxRecDepth 100000 in
set_option maxHeartbeats 4000000 in
theorem made_bad (l0 l1 l2 l3 l4 l5 last : Int) (w : World) (h : ¬ (Room l0 ∧ Room l1 ∧ Room l2 ∧ last ≠ 0)) :
    Calls Try.prog 39 #[.agg #[.int .i64 l0, .int .i64 l1, .int .i64 l2, .int .i64 l3, .int .i64 l4, .int .i64 l5, .int .u64 last]] w fun e w' => e = .returned (.pointer none) ∧ Below w.heap.size w w' := by
  have hN := Aside0.mk (fun w' => new_bad l0 l1 l2 l3 l4 l5 last w' h)
  clear h
  go_enter Try.func39, Try.ntmps39
  go_wp2_with (first
    | ((with_reducible refine gate_dst (N := 1) rfl ?_); refine box_event ?hg (N := 1) ?hd (cs := #[.int .i64 l0, .int .i64 l1, .int .i64 l2, .int .i64 l3, .int .i64 l4, .int .i64 l5, .int .u64 last]) (t := 51) ?hr ?_; (case hd => rfl); (case hg => rfl); (case hr => first | (go_simp; done) | (go_simp; rfl)); intro g1 hg w1 hbox hb; have HB1 := Aside0.mk hb; have j0 := (blk_cell hbox 0).trans (show _ = some (Value.int .i64 l0) from rfl); have j1 := (blk_cell hbox 1).trans (show _ = some (Value.int .i64 l1) from rfl); have j2 := (blk_cell hbox 2).trans (show _ = some (Value.int .i64 l2) from rfl); have j3 := (blk_cell hbox 3).trans (show _ = some (Value.int .i64 l3) from rfl); have j4 := (blk_cell hbox 4).trans (show _ = some (Value.int .i64 l4) from rfl); have j5 := (blk_cell hbox 5).trans (show _ = some (Value.int .i64 l5) from rfl); have j6 := (blk_cell hbox 6).trans (show _ = some (Value.int .u64 last) from rfl); clear hbox hb hg)
    | (go_at_call 52; (with_reducible refine (hN.out _).mono ?_); rintro e w2 ⟨rfl, hb⟩; have HB2 := Aside0.mk (below_step HB1.out hb); clear hb j0 j1 j2 j3 j4 j5 j6))
  go_ret
  exact ⟨rfl, HB2.out⟩
end Go.Proofs.Yteofdgonpbmdlaa.St
