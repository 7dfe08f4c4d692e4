/- Printed by a program of this session (pp.py) over the print of the kit: functions of the translation as plain functions, and the contracts of their calls. No condition. -/
import Derived.Test.YtjefihcbhdennaaS0
import Derived.Test.YtjefihcbhdennaaS27
import Derived.Test.YtjefihcbhdennaaS32
import Derived.Test.YtjefihcbhdennaaS34
import Derived.Test.YtjefihcbhdennaaS35
namespace Go.Proofs.Ytjefihcbhdennaa.S
open Go.RowKit Go.Proofs.YtjefihcbhdennaaW.PrintWords Go.Proofs.YtjefihcbhdennaaW.PrintLast Go.Proofs.YtjefihcbhdennaaW.PrintMore
attribute [local go_sem] max2_int min2_int max2_str min2_str str_leq str_gtr str_geq max_two min_two max_three min_three max_four min_four   -- for this text's walks alone
set_option linter.unusedVariables false
set_option linter.unusedSimpArgs false

/-! ### conductorlaw10_SsiAlone: function 4 -/
mutual
def conductorlaw10_SsiAlone.j0 : Nat → List (S26) → Bool → Int → Int → Int → Int → List (S41) → List (S41) → Option (Bool)
  | 0, _, _, _, _, _, _, _, _ => none
  | k + 1, x0, x22, x368000, x368001, x368002, x368003, x368004, x368005 => if x22 = true then ((conductorlaw10_live.f k).bind fun t374 => (some t374)) else ((ssi_Judge.f k x0 x368000 x368001 x368002 x368003 x368004 x368005).bind fun bt375 => (conductorlaw10_SsiAlone.l0 k bt375.1 bt375.2 false x0 (x0.length : Int) 0 x368000 x368001 x368002 x368003 x368004 x368005))
def conductorlaw10_SsiAlone.l0 : Nat → Int → Int → Bool → List (S26) → Int → Int → Int → Int → Int → Int → List (S41) → List (S41) → Option (Bool)
  | 0, _, _, _, _, _, _, _, _, _, _, _, _ => none
  | k + 1, x5, x6, x7, x30, x31, x32, x368000, x368001, x368002, x368003, x368004, x368005 => if x32 < x31 then (if 0 ≤ x32 then (if x32 < (x30.length : Int) then (if x7 = true then (conductorlaw10_SsiAlone.l0 k x5 x6 true x30 x31 (wrap64 (x32 + 1)) x368000 x368001 x368002 x368003 x368004 x368005) else (if ((rd_T26 x30 x32).f1) > x368002 then ((conductorref09_Meet.f k x368004 ((rd_T26 x30 x32).f5)).bind fun t379 => (conductorlaw10_SsiAlone.l0 k x5 x6 t379 x30 x31 (wrap64 (x32 + 1)) x368000 x368001 x368002 x368003 x368004 x368005)) else (conductorlaw10_SsiAlone.l0 k x5 x6 false x30 x31 (wrap64 (x32 + 1)) x368000 x368001 x368002 x368003 x368004 x368005))) else (none)) else (none)) else (if x7 = true then (if x6 = 0 then (some true) else (if x6 = 101 then (some (x5 == 0)) else (some false))) else (if x5 = 0 then (some (x6 == 0)) else (some false)))
end
def conductorlaw10_SsiAlone.f (k : Nat) (l0 : List (S26)) (a1_0 : Int) (a1_1 : Int) (a1_2 : Int) (a1_3 : Int) (l1_4 : List (S41)) (l1_5 : List (S41)) : Option (Bool) := (conductorlaw10_live.f k).bind fun t368 => (if t368 = true then ((conductorlaw10_few.f k l0).bind fun t369 => (if t369 = true then ((conductorlaw10_few.f k (([(⟨a1_0, a1_1, a1_2, a1_3, l1_4, l1_5⟩ : S26)] : List (S26)))).bind fun t373 => (conductorlaw10_SsiAlone.j0 k l0 (!t373) a1_0 a1_1 a1_2 a1_3 l1_4 l1_5)) else (conductorlaw10_SsiAlone.j0 k l0 true a1_0 a1_1 a1_2 a1_3 l1_4 l1_5))) else (conductorlaw10_SsiAlone.j0 k l0 true a1_0 a1_1 a1_2 a1_3 l1_4 l1_5))
theorem conductorlaw10_SsiAlone.mono_l : ∀ k, (∀ y0 y1 y2 y3 y4 y5 y6 y7, LeO (conductorlaw10_SsiAlone.j0 k y0 y1 y2 y3 y4 y5 y6 y7) (conductorlaw10_SsiAlone.j0 (k + 1) y0 y1 y2 y3 y4 y5 y6 y7)) ∧ (∀ y0 y1 y2 y3 y4 y5 y6 y7 y8 y9 y10 y11, LeO (conductorlaw10_SsiAlone.l0 k y0 y1 y2 y3 y4 y5 y6 y7 y8 y9 y10 y11) (conductorlaw10_SsiAlone.l0 (k + 1) y0 y1 y2 y3 y4 y5 y6 y7 y8 y9 y10 y11))
  | 0 => ⟨fun _ _ _ _ _ _ _ _ r h => by simp [conductorlaw10_SsiAlone.j0] at h, fun _ _ _ _ _ _ _ _ _ _ _ _ r h => by simp [conductorlaw10_SsiAlone.l0] at h⟩
  | k + 1 => by
    obtain ⟨ih0, ih1⟩ := conductorlaw10_SsiAlone.mono_l k
    refine ⟨?_, ?_⟩
    · intro y0 y1 y2 y3 y4 y5 y6 y7
      unfold conductorlaw10_SsiAlone.j0
      repeat' first
      | (with_reducible exact ih0 _ _ _ _ _ _ _ _)
      | (with_reducible exact ih1 _ _ _ _ _ _ _ _ _ _ _ _)
      | (with_reducible exact conductorlaw10_few.mono _ _)
      | (with_reducible exact conductorlaw10_live.mono _)
      | (with_reducible exact conductorref09_Meet.mono _ _ _)
      | (with_reducible exact ssi_Judge.mono _ _ _ _ _ _ _ _)
      | (with_reducible exact LeO.refl _)
      | (with_reducible exact LeO.none _)
      | (with_reducible refine LeO.ite ?_ ?_)
      | (with_reducible refine LeO.bind ?_ (fun _ => ?_))
      | exact ih0 _ _ _ _ _ _ _ _
      | exact ih1 _ _ _ _ _ _ _ _ _ _ _ _
      | exact conductorlaw10_few.mono _ _
      | exact conductorlaw10_live.mono _
      | exact conductorref09_Meet.mono _ _ _
      | exact ssi_Judge.mono _ _ _ _ _ _ _ _
      | exact LeO.none _
      | refine LeO.ite ?_ ?_
      | refine LeO.bind ?_ (fun _ => ?_)
    · intro y0 y1 y2 y3 y4 y5 y6 y7 y8 y9 y10 y11
      unfold conductorlaw10_SsiAlone.l0
      repeat' first
      | (with_reducible exact ih0 _ _ _ _ _ _ _ _)
      | (with_reducible exact ih1 _ _ _ _ _ _ _ _ _ _ _ _)
      | (with_reducible exact conductorlaw10_few.mono _ _)
      | (with_reducible exact conductorlaw10_live.mono _)
      | (with_reducible exact conductorref09_Meet.mono _ _ _)
      | (with_reducible exact ssi_Judge.mono _ _ _ _ _ _ _ _)
      | (with_reducible exact LeO.refl _)
      | (with_reducible exact LeO.none _)
      | (with_reducible refine LeO.ite ?_ ?_)
      | (with_reducible refine LeO.bind ?_ (fun _ => ?_))
      | exact ih0 _ _ _ _ _ _ _ _
      | exact ih1 _ _ _ _ _ _ _ _ _ _ _ _
      | exact conductorlaw10_few.mono _ _
      | exact conductorlaw10_live.mono _
      | exact conductorref09_Meet.mono _ _ _
      | exact ssi_Judge.mono _ _ _ _ _ _ _ _
      | exact LeO.none _
      | refine LeO.ite ?_ ?_
      | refine LeO.bind ?_ (fun _ => ?_)
theorem conductorlaw10_SsiAlone.mono : ∀ a0 a1 a2 a3 a4 a5 a6 k, LeO (conductorlaw10_SsiAlone.f k a0 a1 a2 a3 a4 a5 a6) (conductorlaw10_SsiAlone.f (k + 1) a0 a1 a2 a3 a4 a5 a6) := by
  intro a0 a1 a2 a3 a4 a5 a6 k
  obtain ⟨ih0, ih1⟩ := conductorlaw10_SsiAlone.mono_l k
  unfold conductorlaw10_SsiAlone.f
  repeat' first
      | (with_reducible exact ih0 _ _ _ _ _ _ _ _)
      | (with_reducible exact ih1 _ _ _ _ _ _ _ _ _ _ _ _)
      | (with_reducible exact conductorlaw10_few.mono _ _)
      | (with_reducible exact conductorlaw10_live.mono _)
      | (with_reducible exact conductorref09_Meet.mono _ _ _)
      | (with_reducible exact ssi_Judge.mono _ _ _ _ _ _ _ _)
      | (with_reducible exact LeO.refl _)
      | (with_reducible exact LeO.none _)
      | (with_reducible refine LeO.ite ?_ ?_)
      | (with_reducible refine LeO.bind ?_ (fun _ => ?_))
      | exact ih0 _ _ _ _ _ _ _ _
      | exact ih1 _ _ _ _ _ _ _ _ _ _ _ _
      | exact conductorlaw10_few.mono _ _
      | exact conductorlaw10_live.mono _
      | exact conductorref09_Meet.mono _ _ _
      | exact ssi_Judge.mono _ _ _ _ _ _ _ _
      | exact LeO.none _
      | refine LeO.ite ?_ ?_
      | refine LeO.bind ?_ (fun _ => ?_)
set_option maxHeartbeats 8000000 in
set_option maxRecDepth 100000 in
theorem conductorlaw10_SsiAlone.calls (k : Nat) (A0 : Option Addr) (c0 : Nat) (l0 : List (S26)) (a1_0 : Int) (a1_1 : Int) (a1_2 : Int) (a1_3 : Int) (P1_4_ : Nat → Prop) (A1_4 : Option Addr) (c1_4 : Nat) (l1_4 : List (S41)) (P1_5_ : Nat → Prop) (A1_5 : Option Addr) (c1_5 : Nat) (l1_5 : List (S41)) (r : Bool) (w : World) (hr0 : Kd.C k26 w A0 l0.length l0) (hc0 : l0.length ≤ c0) (hs1_4 : Kd.V k41 41 w w.heap.size (fun k_ => P1_4_ k_) (.slice A1_4 l1_4.length c1_4) l1_4) (hs1_5 : Kd.V k41 41 w w.heap.size (fun k_ => P1_5_ k_) (.slice A1_5 l1_5.length c1_5) l1_5) (h : conductorlaw10_SsiAlone.f k l0 a1_0 a1_1 a1_2 a1_3 l1_4 l1_5 = some r) :
    Calls Try.prog 4 #[.slice A0 l0.length c0, .agg #[.int .u64 a1_0, .int .u64 a1_1, .int .u64 a1_2, .int .u64 a1_3, .slice A1_4 l1_4.length c1_4, .slice A1_5 l1_5.length c1_5]] w fun e w' => e = .returned (.bool r) ∧ Below w.heap.size w w' := by
  have hu26 := Try.underlying26
  have HR0 := Aside0.mk hr0
  have HC0 := Aside0.mk hc0
  clear hr0 hc0
  have HO1_4 := Aside0.mk (show Kd.V k41 41 w w.heap.size (fun k_ => ((P1_4_ k_ ∨ P1_5_ k_) ∨ w.heap.size ≤ k_)) (.slice A1_4 l1_4.length c1_4) l1_4 from Kd.V_mono hs1_4 (fun k_ hk => .inl (.inl hk)))
  have HO1_5 := Aside0.mk (show Kd.V k41 41 w w.heap.size (fun k_ => ((P1_4_ k_ ∨ P1_5_ k_) ∨ w.heap.size ≤ k_)) (.slice A1_5 l1_5.length c1_5) l1_5 from Kd.V_mono hs1_5 (fun k_ hk => .inl (.inr hk)))
  have HB := Aside0.mk (Below.refl w.heap.size w)
  have H : ((conductorlaw10_live.f k).bind fun t368 => (if t368 = true then ((conductorlaw10_few.f k l0).bind fun t369 => (if t369 = true then ((conductorlaw10_few.f k (([(⟨a1_0, a1_1, a1_2, a1_3, l1_4, l1_5⟩ : S26)] : List (S26)))).bind fun t373 => (conductorlaw10_SsiAlone.j0 k l0 (!t373) a1_0 a1_1 a1_2 a1_3 l1_4 l1_5)) else (conductorlaw10_SsiAlone.j0 k l0 true a1_0 a1_1 a1_2 a1_3 l1_4 l1_5))) else (conductorlaw10_SsiAlone.j0 k l0 true a1_0 a1_1 a1_2 a1_3 l1_4 l1_5))) = some r := h
  clear h
  have HC3 := Aside0.mk H
  clear H
  go_enter Try.func4, Try.ntmps4
  go_upto_region 1 with (first | ((with_reducible refine gate_dst (N := 3) rfl ?_); (try (refine gate_guard (by rfl) ?_; dsimp only)); refine box_event ?hg (N := 3) ?hd (cs := #[.int .u64 a1_0, .int .u64 a1_1, .int .u64 a1_2, .int .u64 a1_3, .slice A1_4 l1_4.length c1_4, .slice A1_5 l1_5.length c1_5]) (t := 26) ?hr ?_; (case hd => rfl); (case hg => rfl); (case hr => first | (go_simp; done) | (go_simp; rfl)); intro gb367 hg w4 hbox hb; have n0_ := Aside0.mk (Kd.V_below (Kd.V_elderB (by (with_reducible repeat (first | apply Kd.V_alloc | apply Kd.V_drewN | apply Kd.V_drew)); exact HO1_4.out) gb367 (Nat.le_of_eq hg.symm)) hb); have n1_ := Aside0.mk (Kd.V_below (Kd.V_elderB (by (with_reducible repeat (first | apply Kd.V_alloc | apply Kd.V_drewN | apply Kd.V_drew)); exact HO1_5.out) gb367 (Nat.le_of_eq hg.symm)) hb); have n2_ := Aside0.mk (below_step (by repeat (first | (with_reducible first | exact HB.out | apply below_alloc | apply pw_below_drewN | apply below_drew1) | exact HB.out)) hb); have n3_ := Aside0.mk (hbox); have n4_ := Aside0.mk ((by rw [hg]; exact (below_size (by repeat (first | (with_reducible first | exact HB.out | apply below_alloc | apply pw_below_drewN | apply below_drew1) | exact HB.out))) : w.heap.size ≤ gb367)); have n5_ := Aside0.mk ((by rw [hg]; exact (below_size (by repeat (first | (with_reducible first | exact HB.out | apply below_alloc | apply pw_below_drewN | apply below_drew1) | exact HB.out))) : w.heap.size ≤ gb367)); clear HO1_4; clear HO1_5; clear HB; have HO1_4 := n0_; have HO1_5 := n1_; have HB := n2_; have BK367 := n3_; have GW367 := n4_; have GE367 := n5_; clear n0_ n1_ n2_ n3_ n4_ n5_; clear hb hbox hg))
  (try simp only [Act.put, List.setIfInBounds_toArray, List.set_cons_zero, List.set_cons_succ])
  go_cut [22] (fun v22 wc => ∃ (kq : Nat) (x22_2 : Bool), v22 = .bool x22_2 ∧ Aside0 (conductorlaw10_SsiAlone.j0 kq l0 x22_2 a1_0 a1_1 a1_2 a1_3 l1_4 l1_5 = some r) ∧ Aside0 (kq ≤ k) ∧ Aside0 (Kd.V k41 41 wc w.heap.size (fun k_ => ((P1_4_ k_ ∨ P1_5_ k_) ∨ w.heap.size ≤ k_) ∧ k_ ≠ gb367) (.slice A1_4 l1_4.length c1_4) l1_4) ∧ Aside0 (Kd.V k41 41 wc w.heap.size (fun k_ => ((P1_4_ k_ ∨ P1_5_ k_) ∨ w.heap.size ≤ k_) ∧ k_ ≠ gb367) (.slice A1_5 l1_5.length c1_5) l1_5) ∧ Aside0 (wc.heap[gb367]? = some (.cells #[.int .u64 a1_0, .int .u64 a1_1, .int .u64 a1_2, .int .u64 a1_3, (.slice A1_4 l1_4.length c1_4), (.slice A1_5 l1_5.length c1_5)] 26 (0, 0))) ∧ Aside0 (Below w.heap.size w wc))
  case first =>
    have H := HC3.out
    clear HC3
    replace H := Option.bind_eq_some_iff.mp H
    obtain ⟨t368, A50, H⟩ := H
    replace H : (if t368 = true then ((conductorlaw10_few.f k l0).bind fun t369 => (if t369 = true then ((conductorlaw10_few.f k (([(⟨a1_0, a1_1, a1_2, a1_3, l1_4, l1_5⟩ : S26)] : List (S26)))).bind fun t373 => (conductorlaw10_SsiAlone.j0 k l0 (!t373) a1_0 a1_1 a1_2 a1_3 l1_4 l1_5)) else (conductorlaw10_SsiAlone.j0 k l0 true a1_0 a1_1 a1_2 a1_3 l1_4 l1_5))) else (conductorlaw10_SsiAlone.j0 k l0 true a1_0 a1_1 a1_2 a1_3 l1_4 l1_5)) = some r := H
    have A5 := Aside0.mk A50
    clear A50
    by_cases c6 : t368 = true
    · subst c6
      have H1 : ((conductorlaw10_few.f k l0).bind fun t369 => (if t369 = true then ((conductorlaw10_few.f k (([(⟨a1_0, a1_1, a1_2, a1_3, l1_4, l1_5⟩ : S26)] : List (S26)))).bind fun t373 => (conductorlaw10_SsiAlone.j0 k l0 (!t373) a1_0 a1_1 a1_2 a1_3 l1_4 l1_5)) else (conductorlaw10_SsiAlone.j0 k l0 true a1_0 a1_1 a1_2 a1_3 l1_4 l1_5))) = some r := by rw [if_pos rfl] at H; exact H
      clear H
      have H := H1
      clear H1
      replace H := Option.bind_eq_some_iff.mp H
      obtain ⟨t369, A70, H⟩ := H
      replace H : (if t369 = true then ((conductorlaw10_few.f k (([(⟨a1_0, a1_1, a1_2, a1_3, l1_4, l1_5⟩ : S26)] : List (S26)))).bind fun t373 => (conductorlaw10_SsiAlone.j0 k l0 (!t373) a1_0 a1_1 a1_2 a1_3 l1_4 l1_5)) else (conductorlaw10_SsiAlone.j0 k l0 true a1_0 a1_1 a1_2 a1_3 l1_4 l1_5)) = some r := H
      have A7 := Aside0.mk A70
      clear A70
      by_cases c8 : t369 = true
      · subst c8
        have H1 : ((conductorlaw10_few.f k (([(⟨a1_0, a1_1, a1_2, a1_3, l1_4, l1_5⟩ : S26)] : List (S26)))).bind fun t373 => (conductorlaw10_SsiAlone.j0 k l0 (!t373) a1_0 a1_1 a1_2 a1_3 l1_4 l1_5)) = some r := by rw [if_pos rfl] at H; exact H
        clear H
        have H := H1
        clear H1
        obtain ⟨y370, hy370⟩ : ∃ y_ : List (S26), y_ = (([(⟨a1_0, a1_1, a1_2, a1_3, l1_4, l1_5⟩ : S26)] : List (S26))) := ⟨_, rfl⟩
        replace H : ((conductorlaw10_few.f k y370).bind fun t373 => (conductorlaw10_SsiAlone.j0 k l0 (!t373) a1_0 a1_1 a1_2 a1_3 l1_4 l1_5)) = some r := by first | (rw [hy370]; with_reducible exact H) | (have H2_ := (Option.bind_some _ _).symm.trans H; rw [hy370]; with_reducible exact H2_) | (have H2_ := (Option.bind_some _ _).symm.trans H; with_reducible exact H2_) | with_reducible exact H | (rw [hy370]; exact H) | exact H
        have Ny370 := Aside0.mk hy370
        clear hy370
        replace H := Option.bind_eq_some_iff.mp H
        obtain ⟨t373, A90, H⟩ := H
        replace H : (conductorlaw10_SsiAlone.j0 k l0 (!t373) a1_0 a1_1 a1_2 a1_3 l1_4 l1_5) = some r := H
        have A9 := Aside0.mk A90
        clear A90
        have H' := Aside0.mk H
        clear H
        go_wp2_with (first | ((with_reducible refine gate_callee (f := 15) rfl ?_); refine goesL_ (some 10) rfl rfl Try.func15 (by kernel_rfl) rfl #[] rfl (by (try simp only [List.map_toArray, List.map_cons, List.map_nil]); first | done | rfl | (simp only [List.length_drop, List.length_take]; rfl)) ?_; (with_reducible refine (conductorlaw10_live.calls k  true _ A5.out).mono ?_); rintro e w10 ⟨rfl, hb⟩; refine ⟨_, rfl, ?_⟩; have n0_ := Aside0.mk (Kd.V_below (by (with_reducible repeat (first | apply Kd.V_alloc | apply Kd.V_drewN | apply Kd.V_drew)); exact HO1_4.out) hb); have n1_ := Aside0.mk (Kd.V_below (by (with_reducible repeat (first | apply Kd.V_alloc | apply Kd.V_drewN | apply Kd.V_drew)); exact HO1_5.out) hb); have n2_ := Aside0.mk (blk_below (g := gb367) (o := .cells #[.int .u64 a1_0, .int .u64 a1_1, .int .u64 a1_2, .int .u64 a1_3, .slice A1_4 l1_4.length c1_4, .slice A1_5 l1_5.length c1_5] 26 (0, 0)) (by (with_reducible repeat (first | refine blk_drewN ?_ _ | refine blk_drew ?_ | refine blk_alloc ?_ _)); exact BK367.out) hb); have n3_ := Aside0.mk (below_step (by repeat (first | (with_reducible first | exact HB.out | apply below_alloc | apply pw_below_drewN | apply below_drew1 | refine below_set ?_ GE367.out) | exact HB.out)) hb); clear HO1_4; clear HO1_5; clear BK367; clear HB; have HO1_4 := n0_; have HO1_5 := n1_; have BK367 := n2_; have HB := n3_; clear n0_ n1_ n2_ n3_; (try clear hb); (try clear hb2); (try clear hk); (try clear hi)) | (go_at_call 16; (with_reducible refine (conductorlaw10_few.calls k _ _ l0 true _ ?side1 ?side2 A7.out).mono ?_); (case side1 => repeat (first | exact (Kd.C_below HR0.out HB.out) | (with_reducible refine Kd.C_alloc ?_ _) | (with_reducible refine Kd.C_drewN ?_ _) | (with_reducible refine Kd.C_drew ?_))); (case side2 => exact HC0.out); rintro e w11 ⟨rfl, hb⟩; have n0_ := Aside0.mk (Kd.V_below (by (with_reducible repeat (first | apply Kd.V_alloc | apply Kd.V_drewN | apply Kd.V_drew)); exact HO1_4.out) hb); have n1_ := Aside0.mk (Kd.V_below (by (with_reducible repeat (first | apply Kd.V_alloc | apply Kd.V_drewN | apply Kd.V_drew)); exact HO1_5.out) hb); have n2_ := Aside0.mk (blk_below (g := gb367) (o := .cells #[.int .u64 a1_0, .int .u64 a1_1, .int .u64 a1_2, .int .u64 a1_3, .slice A1_4 l1_4.length c1_4, .slice A1_5 l1_5.length c1_5] 26 (0, 0)) (by (with_reducible repeat (first | refine blk_drewN ?_ _ | refine blk_drew ?_ | refine blk_alloc ?_ _)); exact BK367.out) hb); have n3_ := Aside0.mk (below_step (by repeat (first | (with_reducible first | exact HB.out | apply below_alloc | apply pw_below_drewN | apply below_drew1 | refine below_set ?_ GE367.out) | exact HB.out)) hb); clear HO1_4; clear HO1_5; clear BK367; clear HB; have HO1_4 := n0_; have HO1_5 := n1_; have BK367 := n2_; have HB := n3_; clear n0_ n1_ n2_ n3_; (try clear hb); (try clear hb2); (try clear hk); (try clear hi); have hcz12_0 : w11.cell? ⟨gb367, 0, none⟩ = some (.int .u64 a1_0) := (blk_cell BK367.out 0).trans rfl; have hcz12_1 : w11.cell? ⟨gb367, 1, none⟩ = some (.int .u64 a1_1) := (blk_cell BK367.out 1).trans rfl; have hcz12_2 : w11.cell? ⟨gb367, 2, none⟩ = some (.int .u64 a1_2) := (blk_cell BK367.out 2).trans rfl; have hcz12_3 : w11.cell? ⟨gb367, 3, none⟩ = some (.int .u64 a1_3) := (blk_cell BK367.out 3).trans rfl; have hcz12_4 : w11.cell? ⟨gb367, 4, none⟩ = some (.slice A1_4 l1_4.length c1_4) := (blk_cell BK367.out 4).trans rfl; have hcz12_5 : w11.cell? ⟨gb367, 5, none⟩ = some (.slice A1_5 l1_5.length c1_5) := (blk_cell BK367.out 5).trans rfl; have hfz12_0 := blk_frozen BK367.out 0; have hfz12_1 := blk_frozen BK367.out 1; have hfz12_2 := blk_frozen BK367.out 2; have hfz12_3 := blk_frozen BK367.out 3; have hfz12_4 := blk_frozen BK367.out 4; have hfz12_5 := blk_frozen BK367.out 5) | ((with_reducible refine gate_dst (N := 19) rfl ?_); (try (refine gate_guard (by rfl) ?_; dsimp only)); refine Kd.N_lit k26 _ 26 ?hg (N' := 19) ?hd (xs := ([(⟨a1_0, a1_1, a1_2, a1_3, l1_4, l1_5⟩ : S26)] : List (S26))) (inner := [.int .u64 a1_0, .int .u64 a1_1, .int .u64 a1_2, .int .u64 a1_3, .slice A1_4 l1_4.length c1_4, .slice A1_5 l1_5.length c1_5]) (ok := (fun k_ => ((P1_4_ k_ ∨ P1_5_ k_) ∨ w.heap.size ≤ k_) ∧ k_ ≠ gb367)) (okp := (fun k_ => ((P1_4_ k_ ∨ P1_5_ k_) ∨ w.heap.size ≤ k_) ∧ k_ ≠ gb367)) ?hr ?hp (fun _ hk => hk) ((show ∀ k_, w11.heap.size ≤ k_ → (fun k_ => ((P1_4_ k_ ∨ P1_5_ k_) ∨ w.heap.size ≤ k_) ∧ k_ ≠ gb367) k_ from fun k_ hk => ⟨(.inr (Nat.le_trans (below_size (by repeat (first | (with_reducible first | exact HB.out | apply below_alloc | apply pw_below_drewN | apply below_drew1 | refine below_set ?_ GE367.out) | exact HB.out))) hk)), Kd.freshB (g := gb367) (o := .cells #[.int .u64 a1_0, .int .u64 a1_1, .int .u64 a1_2, .int .u64 a1_3, .slice A1_4 l1_4.length c1_4, .slice A1_5 l1_5.length c1_5] 26 (0, 0)) (by (with_reducible repeat (first | refine blk_drewN ?_ _ | refine blk_drew ?_ | refine blk_alloc ?_ _)); exact BK367.out) k_ hk⟩) _ (Nat.le_refl _)) (Below.refl _ _) (Nat.le_refl _) (by simp) ?_; (case hd => rfl); (case hg => rfl); (case hr => first | (go_simp; done) | (go_simp; rfl)); (case hp => exact (Reps.c6 (show Kd.FK k26 _ _ (⟨a1_0, a1_1, a1_2, a1_3, l1_4, l1_5⟩ : S26) [.int .u64 a1_0, .int .u64 a1_1, .int .u64 a1_2, .int .u64 a1_3, .slice A1_4 l1_4.length c1_4, .slice A1_5 l1_5.length c1_5] from (k26_mkF _ _ (⟨a1_0, a1_1, a1_2, a1_3, l1_4, l1_5⟩ : S26) (Kd.V_reads' (Kd.V_mono (ok' := (fun k_ => ((P1_4_ k_ ∨ P1_5_ k_) ∨ w.heap.size ≤ k_) ∧ k_ ≠ gb367)) (HO1_4.out) (fun k_ hk => ⟨hk.1, hk.2⟩))).2.1 (Kd.V_F (Kd.V_mono (ok' := (fun k_ => ((P1_4_ k_ ∨ P1_5_ k_) ∨ w.heap.size ≤ k_) ∧ k_ ≠ gb367)) (HO1_4.out) (fun k_ hk => ⟨hk.1, hk.2⟩))) (Kd.V_reads' (Kd.V_mono (ok' := (fun k_ => ((P1_4_ k_ ∨ P1_5_ k_) ∨ w.heap.size ≤ k_) ∧ k_ ≠ gb367)) (HO1_5.out) (fun k_ hk => ⟨hk.1, hk.2⟩))).2.1 (Kd.V_F (Kd.V_mono (ok' := (fun k_ => ((P1_4_ k_ ∨ P1_5_ k_) ∨ w.heap.size ≤ k_) ∧ k_ ≠ gb367)) (HO1_5.out) (fun k_ hk => ⟨hk.1, hk.2⟩))))) (Reps.none _ _))); intro v371 w13 ho14 hb hg_ hnew_; clear hg_ hnew_; (first | rw [← Ny370.out] at ho14 | (simp only [Int.reduceToNat] at ho14; rw [← Ny370.out] at ho14)); have n0_ := Aside0.mk (Kd.V_elder' (by (with_reducible repeat (first | apply Kd.V_alloc | apply Kd.V_drewN | apply Kd.V_drew)); exact HO1_4.out) (Kd.N_base ho14) hb); have n1_ := Aside0.mk (Kd.V_elder' (by (with_reducible repeat (first | apply Kd.V_alloc | apply Kd.V_drewN | apply Kd.V_drew)); exact HO1_5.out) (Kd.N_base ho14) hb); have n2_ := Aside0.mk (Kd.N_lower ho14 (below_size (by repeat (first | (with_reducible first | exact HB.out | apply below_alloc | apply pw_below_drewN | apply below_drew1 | refine below_set ?_ GE367.out) | exact HB.out)))); have n3_ := Aside0.mk (blk_below (g := gb367) (o := .cells #[.int .u64 a1_0, .int .u64 a1_1, .int .u64 a1_2, .int .u64 a1_3, .slice A1_4 l1_4.length c1_4, .slice A1_5 l1_5.length c1_5] 26 (0, 0)) (by (with_reducible repeat (first | refine blk_drewN ?_ _ | refine blk_drew ?_ | refine blk_alloc ?_ _)); exact BK367.out) hb); have n4_ := Aside0.mk (below_step (by repeat (first | (with_reducible first | exact HB.out | apply below_alloc | apply pw_below_drewN | apply below_drew1 | refine below_set ?_ GE367.out) | exact HB.out)) hb); clear HO1_4; clear HO1_5; clear BK367; clear HB; have HO1_4 := n0_; have HO1_5 := n1_; have HO372 := n2_; have BK367 := n3_; have HB := n4_; clear n0_ n1_ n2_ n3_ n4_; clear hb ho14; obtain ⟨Ao15, co15, eo15⟩ := Kd.N_slice HO372.out; subst eo15) | (go_at_call 16; (with_reducible refine (conductorlaw10_few.calls k _ _ y370 t373 _ ?side1 ?side2 A9.out).mono ?_); (case side1 => repeat (first | exact (Kd.N_reads' HO372.out).2.2 | (with_reducible refine Kd.C_alloc ?_ _) | (with_reducible refine Kd.C_drewN ?_ _) | (with_reducible refine Kd.C_drew ?_))); (case side2 => exact (Kd.N_reads' HO372.out).2.1); rintro e w16 ⟨rfl, hb⟩; have n0_ := Aside0.mk (Kd.V_below (by (with_reducible repeat (first | apply Kd.V_alloc | apply Kd.V_drewN | apply Kd.V_drew)); exact HO1_4.out) hb); have n1_ := Aside0.mk (Kd.V_below (by (with_reducible repeat (first | apply Kd.V_alloc | apply Kd.V_drewN | apply Kd.V_drew)); exact HO1_5.out) hb); have n2_ := Aside0.mk (Kd.N_below (by (with_reducible repeat (first | apply Kd.N_alloc | apply Kd.N_drewN | apply Kd.N_drew)); exact HO372.out) hb); have n3_ := Aside0.mk (blk_below (g := gb367) (o := .cells #[.int .u64 a1_0, .int .u64 a1_1, .int .u64 a1_2, .int .u64 a1_3, .slice A1_4 l1_4.length c1_4, .slice A1_5 l1_5.length c1_5] 26 (0, 0)) (by (with_reducible repeat (first | refine blk_drewN ?_ _ | refine blk_drew ?_ | refine blk_alloc ?_ _)); exact BK367.out) hb); have n4_ := Aside0.mk (below_step (by repeat (first | (with_reducible first | exact HB.out | apply below_alloc | apply pw_below_drewN | apply below_drew1 | refine below_set ?_ GE367.out) | exact HB.out)) hb); clear HO1_4; clear HO1_5; clear HO372; clear BK367; clear HB; have HO1_4 := n0_; have HO1_5 := n1_; have HO372 := n2_; have BK367 := n3_; have HB := n4_; clear n0_ n1_ n2_ n3_ n4_; (try clear hb); (try clear hb2); (try clear hk); (try clear hi)))
        go_meet
        case rel => exact ⟨_, (!t373), (by first | rfl | (simp; done) | (simp [*]; done)), H', ⟨by first | omega | exact Nat.le_refl _⟩, ⟨by (with_reducible repeat (first | apply Kd.V_alloc | apply Kd.V_drewN | apply Kd.V_drew)); exact Kd.V_mono HO1_4.out (fun _ hk => ⟨hk.1.1, hk.1.2⟩)⟩, ⟨by (with_reducible repeat (first | apply Kd.V_alloc | apply Kd.V_drewN | apply Kd.V_drew)); exact Kd.V_mono HO1_5.out (fun _ hk => ⟨hk.1.1, hk.1.2⟩)⟩, ⟨by (with_reducible repeat (first | refine blk_drewN ?_ _ | refine blk_drew ?_ | refine blk_alloc ?_ _)); exact BK367.out⟩, ⟨by repeat (first | (with_reducible first | exact HB.out | apply below_alloc | apply pw_below_drewN | apply below_drew1 | refine below_set ?_ GE367.out) | exact HB.out)⟩⟩
      · replace c8 := Bool.eq_false_iff.mpr c8
        subst c8
        have H1 : (conductorlaw10_SsiAlone.j0 k l0 true a1_0 a1_1 a1_2 a1_3 l1_4 l1_5) = some r := by rw [if_neg (show ¬ (false = true) by decide)] at H; exact H
        clear H
        have H := H1
        clear H1
        have H' := Aside0.mk H
        clear H
        go_wp2_with (first | ((with_reducible refine gate_callee (f := 15) rfl ?_); refine goesL_ (some 10) rfl rfl Try.func15 (by kernel_rfl) rfl #[] rfl (by (try simp only [List.map_toArray, List.map_cons, List.map_nil]); first | done | rfl | (simp only [List.length_drop, List.length_take]; rfl)) ?_; (with_reducible refine (conductorlaw10_live.calls k  true _ A5.out).mono ?_); rintro e w17 ⟨rfl, hb⟩; refine ⟨_, rfl, ?_⟩; have n0_ := Aside0.mk (Kd.V_below (by (with_reducible repeat (first | apply Kd.V_alloc | apply Kd.V_drewN | apply Kd.V_drew)); exact HO1_4.out) hb); have n1_ := Aside0.mk (Kd.V_below (by (with_reducible repeat (first | apply Kd.V_alloc | apply Kd.V_drewN | apply Kd.V_drew)); exact HO1_5.out) hb); have n2_ := Aside0.mk (blk_below (g := gb367) (o := .cells #[.int .u64 a1_0, .int .u64 a1_1, .int .u64 a1_2, .int .u64 a1_3, .slice A1_4 l1_4.length c1_4, .slice A1_5 l1_5.length c1_5] 26 (0, 0)) (by (with_reducible repeat (first | refine blk_drewN ?_ _ | refine blk_drew ?_ | refine blk_alloc ?_ _)); exact BK367.out) hb); have n3_ := Aside0.mk (below_step (by repeat (first | (with_reducible first | exact HB.out | apply below_alloc | apply pw_below_drewN | apply below_drew1 | refine below_set ?_ GE367.out) | exact HB.out)) hb); clear HO1_4; clear HO1_5; clear BK367; clear HB; have HO1_4 := n0_; have HO1_5 := n1_; have BK367 := n2_; have HB := n3_; clear n0_ n1_ n2_ n3_; (try clear hb); (try clear hb2); (try clear hk); (try clear hi)) | (go_at_call 16; (with_reducible refine (conductorlaw10_few.calls k _ _ l0 false _ ?side1 ?side2 A7.out).mono ?_); (case side1 => repeat (first | exact (Kd.C_below HR0.out HB.out) | (with_reducible refine Kd.C_alloc ?_ _) | (with_reducible refine Kd.C_drewN ?_ _) | (with_reducible refine Kd.C_drew ?_))); (case side2 => exact HC0.out); rintro e w18 ⟨rfl, hb⟩; have n0_ := Aside0.mk (Kd.V_below (by (with_reducible repeat (first | apply Kd.V_alloc | apply Kd.V_drewN | apply Kd.V_drew)); exact HO1_4.out) hb); have n1_ := Aside0.mk (Kd.V_below (by (with_reducible repeat (first | apply Kd.V_alloc | apply Kd.V_drewN | apply Kd.V_drew)); exact HO1_5.out) hb); have n2_ := Aside0.mk (blk_below (g := gb367) (o := .cells #[.int .u64 a1_0, .int .u64 a1_1, .int .u64 a1_2, .int .u64 a1_3, .slice A1_4 l1_4.length c1_4, .slice A1_5 l1_5.length c1_5] 26 (0, 0)) (by (with_reducible repeat (first | refine blk_drewN ?_ _ | refine blk_drew ?_ | refine blk_alloc ?_ _)); exact BK367.out) hb); have n3_ := Aside0.mk (below_step (by repeat (first | (with_reducible first | exact HB.out | apply below_alloc | apply pw_below_drewN | apply below_drew1 | refine below_set ?_ GE367.out) | exact HB.out)) hb); clear HO1_4; clear HO1_5; clear BK367; clear HB; have HO1_4 := n0_; have HO1_5 := n1_; have BK367 := n2_; have HB := n3_; clear n0_ n1_ n2_ n3_; (try clear hb); (try clear hb2); (try clear hk); (try clear hi)))
        go_meet
        case rel => exact ⟨_, (true), (by first | rfl | (simp; done) | (simp [*]; done)), H', ⟨by first | omega | exact Nat.le_refl _⟩, ⟨by (with_reducible repeat (first | apply Kd.V_alloc | apply Kd.V_drewN | apply Kd.V_drew)); exact HO1_4.out⟩, ⟨by (with_reducible repeat (first | apply Kd.V_alloc | apply Kd.V_drewN | apply Kd.V_drew)); exact HO1_5.out⟩, ⟨by (with_reducible repeat (first | refine blk_drewN ?_ _ | refine blk_drew ?_ | refine blk_alloc ?_ _)); exact BK367.out⟩, ⟨by repeat (first | (with_reducible first | exact HB.out | apply below_alloc | apply pw_below_drewN | apply below_drew1 | refine below_set ?_ GE367.out) | exact HB.out)⟩⟩
    · replace c6 := Bool.eq_false_iff.mpr c6
      subst c6
      have H1 : (conductorlaw10_SsiAlone.j0 k l0 true a1_0 a1_1 a1_2 a1_3 l1_4 l1_5) = some r := by rw [if_neg (show ¬ (false = true) by decide)] at H; exact H
      clear H
      have H := H1
      clear H1
      have H' := Aside0.mk H
      clear H
      go_wp2_with (first | ((with_reducible refine gate_callee (f := 15) rfl ?_); refine goesL_ (some 10) rfl rfl Try.func15 (by kernel_rfl) rfl #[] rfl (by (try simp only [List.map_toArray, List.map_cons, List.map_nil]); first | done | rfl | (simp only [List.length_drop, List.length_take]; rfl)) ?_; (with_reducible refine (conductorlaw10_live.calls k  false _ A5.out).mono ?_); rintro e w19 ⟨rfl, hb⟩; refine ⟨_, rfl, ?_⟩; have n0_ := Aside0.mk (Kd.V_below (by (with_reducible repeat (first | apply Kd.V_alloc | apply Kd.V_drewN | apply Kd.V_drew)); exact HO1_4.out) hb); have n1_ := Aside0.mk (Kd.V_below (by (with_reducible repeat (first | apply Kd.V_alloc | apply Kd.V_drewN | apply Kd.V_drew)); exact HO1_5.out) hb); have n2_ := Aside0.mk (blk_below (g := gb367) (o := .cells #[.int .u64 a1_0, .int .u64 a1_1, .int .u64 a1_2, .int .u64 a1_3, .slice A1_4 l1_4.length c1_4, .slice A1_5 l1_5.length c1_5] 26 (0, 0)) (by (with_reducible repeat (first | refine blk_drewN ?_ _ | refine blk_drew ?_ | refine blk_alloc ?_ _)); exact BK367.out) hb); have n3_ := Aside0.mk (below_step (by repeat (first | (with_reducible first | exact HB.out | apply below_alloc | apply pw_below_drewN | apply below_drew1 | refine below_set ?_ GE367.out) | exact HB.out)) hb); clear HO1_4; clear HO1_5; clear BK367; clear HB; have HO1_4 := n0_; have HO1_5 := n1_; have BK367 := n2_; have HB := n3_; clear n0_ n1_ n2_ n3_; (try clear hb); (try clear hb2); (try clear hk); (try clear hi)))
      go_meet
      case rel => exact ⟨_, (true), (by first | rfl | (simp; done) | (simp [*]; done)), H', ⟨by first | omega | exact Nat.le_refl _⟩, ⟨by (with_reducible repeat (first | apply Kd.V_alloc | apply Kd.V_drewN | apply Kd.V_drew)); exact HO1_4.out⟩, ⟨by (with_reducible repeat (first | apply Kd.V_alloc | apply Kd.V_drewN | apply Kd.V_drew)); exact HO1_5.out⟩, ⟨by (with_reducible repeat (first | refine blk_drewN ?_ _ | refine blk_drew ?_ | refine blk_alloc ?_ _)); exact BK367.out⟩, ⟨by repeat (first | (with_reducible first | exact HB.out | apply below_alloc | apply pw_below_drewN | apply below_drew1 | refine below_set ?_ GE367.out) | exact HB.out)⟩⟩
  case rest =>
    clear HC3
    try clear c1
    try clear p2
    try clear c4
    try clear c6
    try clear c8
    try clear c15
    try clear hcz12_0
    try clear hcz12_1
    try clear hcz12_2
    try clear hcz12_3
    try clear hcz12_4
    try clear hcz12_5
    try clear hfz12_0
    try clear hfz12_1
    try clear hfz12_2
    try clear hfz12_3
    try clear hfz12_4
    try clear hfz12_5
    obtain ⟨kq, x22_2, rfl, HA, HJ2, HO_368004, HO_368005, BK367, HB⟩ := hcut
    cases kq with
    | zero => exact absurd HA.out (by simp [conductorlaw10_SsiAlone.j0])
    | succ kj2 =>
      have H := HA.out
      clear HA
      simp only [conductorlaw10_SsiAlone.j0] at H
      by_cases c20 : x22_2 = true
      · subst c20
        have H1 : ((conductorlaw10_live.f kj2).bind fun t374 => (some t374)) = some r := by rw [if_pos rfl] at H; exact H
        clear H
        have H := H1
        clear H1
        replace H := Option.bind_eq_some_iff.mp H
        obtain ⟨t374, A210, H⟩ := H
        replace H : (some t374) = some r := H
        have A21 := Aside0.mk A210
        clear A210
        obtain rfl := Option.some.inj H
        go_wp2_with (first | ((with_reducible refine gate_callee (f := 15) rfl ?_); refine goesL_ (some 23) rfl rfl Try.func15 (by kernel_rfl) rfl #[] rfl (by (try simp only [List.map_toArray, List.map_cons, List.map_nil]); first | done | rfl | (simp only [List.length_drop, List.length_take]; rfl)) ?_; (with_reducible refine (conductorlaw10_live.calls kj2  t374 _ A21.out).mono ?_); rintro e w22 ⟨rfl, hb⟩; refine ⟨_, rfl, ?_⟩; have n0_ := Aside0.mk (Kd.V_below (by (with_reducible repeat (first | apply Kd.V_alloc | apply Kd.V_drewN | apply Kd.V_drew)); exact HO_368004.out) hb); have n1_ := Aside0.mk (Kd.V_below (by (with_reducible repeat (first | apply Kd.V_alloc | apply Kd.V_drewN | apply Kd.V_drew)); exact HO_368005.out) hb); have n2_ := Aside0.mk (blk_below (g := gb367) (o := .cells #[.int .u64 a1_0, .int .u64 a1_1, .int .u64 a1_2, .int .u64 a1_3, .slice A1_4 l1_4.length c1_4, .slice A1_5 l1_5.length c1_5] 26 (0, 0)) (by (with_reducible repeat (first | refine blk_drewN ?_ _ | refine blk_drew ?_ | refine blk_alloc ?_ _)); exact BK367.out) hb); have n3_ := Aside0.mk (below_step (by repeat (first | (with_reducible first | exact HB.out | apply below_alloc | apply pw_below_drewN | apply below_drew1 | refine below_set ?_ GE367.out) | exact HB.out)) hb); clear HO_368004; clear HO_368005; clear BK367; clear HB; have HO_368004 := n0_; have HO_368005 := n1_; have BK367 := n2_; have HB := n3_; clear n0_ n1_ n2_ n3_; (try clear hb); (try clear hb2); (try clear hk); (try clear hi)))
        go_ret
        exact ⟨by first | rfl | (simp [errW_none, errW_some] <;> rfl) | (simp [*, errW_none, errW_some] <;> rfl), by repeat (first | (with_reducible first | exact HB.out | apply below_alloc | apply pw_below_drewN | apply below_drew1 | refine below_set ?_ GE367.out) | exact HB.out)⟩
      · replace c20 := Bool.eq_false_iff.mpr c20
        subst c20
        have H1 : ((ssi_Judge.f kj2 l0 a1_0 a1_1 a1_2 a1_3 l1_4 l1_5).bind fun bt375 => (conductorlaw10_SsiAlone.l0 kj2 bt375.1 bt375.2 false l0 (l0.length : Int) 0 a1_0 a1_1 a1_2 a1_3 l1_4 l1_5)) = some r := by rw [if_neg (show ¬ (false = true) by decide)] at H; exact H
        clear H
        have H := H1
        clear H1
        replace H := Option.bind_eq_some_iff.mp H
        obtain ⟨⟨t375, t376⟩, A230, H⟩ := H
        replace H : (conductorlaw10_SsiAlone.l0 kj2 t375 t376 false l0 (l0.length : Int) 0 a1_0 a1_1 a1_2 a1_3 l1_4 l1_5) = some r := H
        have A23 := Aside0.mk A230
        clear A230
        have H' := Aside0.mk H
        clear H
        have hcz24_0 : wc.cell? ⟨gb367, 0, none⟩ = some (.int .u64 a1_0) := (blk_cell BK367.out 0).trans rfl
        have hcz24_1 : wc.cell? ⟨gb367, 1, none⟩ = some (.int .u64 a1_1) := (blk_cell BK367.out 1).trans rfl
        have hcz24_2 : wc.cell? ⟨gb367, 2, none⟩ = some (.int .u64 a1_2) := (blk_cell BK367.out 2).trans rfl
        have hcz24_3 : wc.cell? ⟨gb367, 3, none⟩ = some (.int .u64 a1_3) := (blk_cell BK367.out 3).trans rfl
        have hcz24_4 : wc.cell? ⟨gb367, 4, none⟩ = some (.slice A1_4 l1_4.length c1_4) := (blk_cell BK367.out 4).trans rfl
        have hcz24_5 : wc.cell? ⟨gb367, 5, none⟩ = some (.slice A1_5 l1_5.length c1_5) := (blk_cell BK367.out 5).trans rfl
        have hfz24_0 := blk_frozen BK367.out 0
        have hfz24_1 := blk_frozen BK367.out 1
        have hfz24_2 := blk_frozen BK367.out 2
        have hfz24_3 := blk_frozen BK367.out 3
        have hfz24_4 := blk_frozen BK367.out 4
        have hfz24_5 := blk_frozen BK367.out 5
        go_wp2_with (first | ((with_reducible refine gate_callee (f := 18) rfl ?_); refine goesL_ (some 27) rfl rfl Try.func18 (by kernel_rfl) rfl #[.slice A0 l0.length c0, .agg #[.int .u64 a1_0, .int .u64 a1_1, .int .u64 a1_2, .int .u64 a1_3, .slice A1_4 l1_4.length c1_4, .slice A1_5 l1_5.length c1_5]] rfl (by (try simp only [List.map_toArray, List.map_cons, List.map_nil]); first | done | rfl | (simp only [List.length_drop, List.length_take]; rfl)) ?_; (with_reducible refine (ssi_Judge.calls kj2 _ _ l0 a1_0 a1_1 a1_2 a1_3 _ _ l1_4 _ _ l1_5 t375 t376 _ ?side1 ?side2 ?side3 ?side4 ?side5 ?side6 A23.out).mono ?_); (case side1 => repeat (first | exact (Kd.C_below HR0.out HB.out) | (with_reducible refine Kd.C_alloc ?_ _) | (with_reducible refine Kd.C_drewN ?_ _) | (with_reducible refine Kd.C_drew ?_))); (case side2 => exact HC0.out); (case side3 => repeat (first | exact (Kd.V_reads' HO_368004.out).2.2 | (with_reducible refine Kd.C_alloc ?_ _) | (with_reducible refine Kd.C_drewN ?_ _) | (with_reducible refine Kd.C_drew ?_))); (case side4 => exact (Kd.V_reads' HO_368004.out).2.1); (case side5 => repeat (first | exact (Kd.V_reads' HO_368005.out).2.2 | (with_reducible refine Kd.C_alloc ?_ _) | (with_reducible refine Kd.C_drewN ?_ _) | (with_reducible refine Kd.C_drew ?_))); (case side6 => exact (Kd.V_reads' HO_368005.out).2.1); rintro e w25 ⟨rfl, hb⟩; refine ⟨_, rfl, ?_⟩; have n0_ := Aside0.mk (Kd.V_below (by (with_reducible repeat (first | apply Kd.V_alloc | apply Kd.V_drewN | apply Kd.V_drew)); exact HO_368004.out) hb); have n1_ := Aside0.mk (Kd.V_below (by (with_reducible repeat (first | apply Kd.V_alloc | apply Kd.V_drewN | apply Kd.V_drew)); exact HO_368005.out) hb); have n2_ := Aside0.mk (blk_below (g := gb367) (o := .cells #[.int .u64 a1_0, .int .u64 a1_1, .int .u64 a1_2, .int .u64 a1_3, .slice A1_4 l1_4.length c1_4, .slice A1_5 l1_5.length c1_5] 26 (0, 0)) (by (with_reducible repeat (first | refine blk_drewN ?_ _ | refine blk_drew ?_ | refine blk_alloc ?_ _)); exact BK367.out) hb); have n3_ := Aside0.mk (below_step (by repeat (first | (with_reducible first | exact HB.out | apply below_alloc | apply pw_below_drewN | apply below_drew1 | refine below_set ?_ GE367.out) | exact HB.out)) hb); clear HO_368004; clear HO_368005; clear BK367; clear HB; have HO_368004 := n0_; have HO_368005 := n1_; have BK367 := n2_; have HB := n3_; clear n0_ n1_ n2_ n3_; (try clear hb); (try clear hb2); (try clear hk); (try clear hi)))
        go_loopg [7, 32] kj2 (fun kq v7 v32 w' => ∃ (x7_2 : Bool) (x32_2 : Int), v7 = .bool x7_2 ∧ v32 = .int .i64 x32_2 ∧ Aside0 (conductorlaw10_SsiAlone.l0 kq t375 t376 x7_2 l0 (l0.length : Int) x32_2 a1_0 a1_1 a1_2 a1_3 l1_4 l1_5 = some r) ∧ Aside0 (kq ≤ kj2) ∧ Aside0 (Kd.V k41 41 w' w.heap.size (fun k_ => ((P1_4_ k_ ∨ P1_5_ k_) ∨ w.heap.size ≤ k_) ∧ k_ ≠ gb367) (.slice A1_4 l1_4.length c1_4) l1_4) ∧ Aside0 (Kd.V k41 41 w' w.heap.size (fun k_ => ((P1_4_ k_ ∨ P1_5_ k_) ∨ w.heap.size ≤ k_) ∧ k_ ≠ gb367) (.slice A1_5 l1_5.length c1_5) l1_5) ∧ Aside0 (w'.heap[gb367]? = some (.cells #[.int .u64 a1_0, .int .u64 a1_1, .int .u64 a1_2, .int .u64 a1_3, (.slice A1_4 l1_4.length c1_4), (.slice A1_5 l1_5.length c1_5)] 26 (0, 0))) ∧ Aside0 (Below w.heap.size w w'))
        case atStart => exact ⟨(false), (0), (by first | rfl | (simp; done) | (simp [*]; done)), (by first | rfl | (simp; done) | (simp [*]; done)), H', ⟨Nat.le_refl _⟩, ⟨by (with_reducible repeat (first | apply Kd.V_alloc | apply Kd.V_drewN | apply Kd.V_drew)); exact HO_368004.out⟩, ⟨by (with_reducible repeat (first | apply Kd.V_alloc | apply Kd.V_drewN | apply Kd.V_drew)); exact HO_368005.out⟩, ⟨by (with_reducible repeat (first | refine blk_drewN ?_ _ | refine blk_drew ?_ | refine blk_alloc ?_ _)); exact BK367.out⟩, ⟨by repeat (first | (with_reducible first | exact HB.out | apply below_alloc | apply pw_below_drewN | apply below_drew1 | refine below_set ?_ GE367.out) | exact HB.out)⟩⟩
        case round =>
          clear H'
          try clear c1
          try clear c2
          try clear p2
          try clear c4
          try clear c6
          try clear c8
          try clear c15
          try clear c18
          try clear c20
          try clear hcz12_0
          try clear hcz12_1
          try clear hcz12_2
          try clear hcz12_3
          try clear hcz12_4
          try clear hcz12_5
          try clear hcz24_0
          try clear hcz24_1
          try clear hcz24_2
          try clear hcz24_3
          try clear hcz24_4
          try clear hcz24_5
          try clear hfz12_0
          try clear hfz12_1
          try clear hfz12_2
          try clear hfz12_3
          try clear hfz12_4
          try clear hfz12_5
          try clear hfz24_0
          try clear hfz24_1
          try clear hfz24_2
          try clear hfz24_3
          try clear hfz24_4
          try clear hfz24_5
          try clear p2
          obtain ⟨x7_2, x32_2, rfl, rfl, HA, HK2, HO_368004, HO_368005, BK367, HB⟩ := hrel
          cases gk with
          | zero => exact absurd HA.out (by simp [conductorlaw10_SsiAlone.l0])
          | succ k2 =>
            have H := HA.out
            clear HA
            simp only [conductorlaw10_SsiAlone.l0] at H
            by_cases c26 : x32_2 < (l0.length : Int)
            · rw [if_pos c26] at H
              have c26b0 : decide (x32_2 < (l0.length : Int)) = true := decide_eq_true c26
              clear c26
              by_cases c27 : 0 ≤ x32_2
              · rw [if_pos c27] at H
                have c27b0 : decide (0 ≤ x32_2) = true := decide_eq_true c27
                clear c27
                by_cases c28 : x32_2 < (l0.length : Int)
                · rw [if_pos c28] at H
                  have c28b0 : decide (x32_2 < (l0.length : Int)) = true := decide_eq_true c28
                  clear c28
                  by_cases c29 : x7_2 = true
                  · subst c29
                    have H1 : (conductorlaw10_SsiAlone.l0 k2 t375 t376 true l0 (l0.length : Int) (wrap64 (x32_2 + 1)) a1_0 a1_1 a1_2 a1_3 l1_4 l1_5) = some r := by rw [if_pos rfl] at H; exact H
                    clear H
                    have H := H1
                    clear H1
                    have H' := Aside0.mk H
                    clear H
                    have p377 : 0 ≤ (x32_2 : Int) := of_decide_eq_true (by first | (with_reducible assumption) | assumption)
                    have q377 : x32_2 < (l0.length : Int) := of_decide_eq_true (by first | (with_reducible assumption) | assumption)
                    obtain ⟨ad377, A377_4, c377_4, A377_5, c377_5, e377, hx377_0, hx377_1, hx377_2, hx377_3, hx377_4, hx377_5, hl377_4, hi377_4, hl377_5, hi377_5⟩ := at_T26 HR0.out x32_2 p377 q377
                    cases e377
                    replace hx377_0 := (HB.out.cell (World.block_lt_of_cell? w _ hx377_0)).trans hx377_0
                    replace hx377_1 := (HB.out.cell (World.block_lt_of_cell? w _ hx377_1)).trans hx377_1
                    replace hx377_2 := (HB.out.cell (World.block_lt_of_cell? w _ hx377_2)).trans hx377_2
                    replace hx377_3 := (HB.out.cell (World.block_lt_of_cell? w _ hx377_3)).trans hx377_3
                    replace hx377_4 := (HB.out.cell (World.block_lt_of_cell? w _ hx377_4)).trans hx377_4
                    replace hx377_5 := (HB.out.cell (World.block_lt_of_cell? w _ hx377_5)).trans hx377_5
                    have HR377_4 := Aside0.mk hi377_4
                    have HC377_4 := Aside0.mk hl377_4
                    clear hi377_4 hl377_4
                    have HR377_5 := Aside0.mk hi377_5
                    have HC377_5 := Aside0.mk hl377_5
                    clear hi377_5 hl377_5
                    replace p377 := eq_true p377
                    replace q377 := eq_true q377
                    go_wp2_with (first | ((with_reducible refine gate_dst (N := 9) rfl ?_); (try (refine gate_guard (by rfl) ?_; dsimp only)); refine box_event ?hg (N := 9) ?hd (cs := #[.int .u64 0, .int .u64 0, .int .u64 0, .int .u64 0, .slice none 0 0, .slice none 0 0]) (t := 26) ?hr ?_; (case hd => rfl); (case hg => rfl); (case hr => first | (go_simp; done) | (go_simp; rfl)); intro gb378 hg w30 hbox hb; have n0_ := Aside0.mk (Kd.V_below (Kd.V_elderB (by (with_reducible repeat (first | apply Kd.V_alloc | apply Kd.V_drewN | apply Kd.V_drew)); exact HO_368004.out) gb378 (Nat.le_of_eq hg.symm)) hb); have n1_ := Aside0.mk (Kd.V_below (Kd.V_elderB (by (with_reducible repeat (first | apply Kd.V_alloc | apply Kd.V_drewN | apply Kd.V_drew)); exact HO_368005.out) gb378 (Nat.le_of_eq hg.symm)) hb); have n2_ := Aside0.mk (blk_below (g := gb367) (o := .cells #[.int .u64 a1_0, .int .u64 a1_1, .int .u64 a1_2, .int .u64 a1_3, .slice A1_4 l1_4.length c1_4, .slice A1_5 l1_5.length c1_5] 26 (0, 0)) (by (with_reducible repeat (first | refine blk_drewN ?_ _ | refine blk_drew ?_ | refine blk_alloc ?_ _)); exact BK367.out) hb); have n3_ := Aside0.mk (below_step (by repeat (first | (with_reducible first | exact HB.out | apply below_alloc | apply pw_below_drewN | apply below_drew1 | refine below_set ?_ GE367.out) | exact HB.out)) hb); have n4_ := Aside0.mk (hbox); have n5_ := Aside0.mk ((by rw [hg]; exact (below_size (by repeat (first | (with_reducible first | exact HB.out | apply below_alloc | apply pw_below_drewN | apply below_drew1 | refine below_set ?_ GE367.out) | exact HB.out))) : w.heap.size ≤ gb378)); have n6_ := Aside0.mk ((by rw [hg]; exact (below_size (by repeat (first | (with_reducible first | exact HB.out | apply below_alloc | apply pw_below_drewN | apply below_drew1 | refine below_set ?_ GE367.out) | exact HB.out))) : w.heap.size ≤ gb378)); have n7_ := Aside0.mk ((by rw [hg]; exact Nat.ne_of_lt (blk_lt (g := gb367) (o := .cells #[.int .u64 a1_0, .int .u64 a1_1, .int .u64 a1_2, .int .u64 a1_3, .slice A1_4 l1_4.length c1_4, .slice A1_5 l1_5.length c1_5] 26 (0, 0)) (by (with_reducible repeat (first | refine blk_drewN ?_ _ | refine blk_drew ?_ | refine blk_alloc ?_ _)); exact BK367.out)) : gb367 ≠ gb378)); have n8_ := Aside0.mk ((by rw [hg]; exact Nat.ne_of_gt (blk_lt (g := gb367) (o := .cells #[.int .u64 a1_0, .int .u64 a1_1, .int .u64 a1_2, .int .u64 a1_3, .slice A1_4 l1_4.length c1_4, .slice A1_5 l1_5.length c1_5] 26 (0, 0)) (by (with_reducible repeat (first | refine blk_drewN ?_ _ | refine blk_drew ?_ | refine blk_alloc ?_ _)); exact BK367.out)) : gb378 ≠ gb367)); clear HO_368004; clear HO_368005; clear BK367; clear HB; have HO_368004 := n0_; have HO_368005 := n1_; have BK367 := n2_; have HB := n3_; have BK378 := n4_; have GW378 := n5_; have GE378 := n6_; have NB367_378 := n7_; have NB378_367 := n8_; clear n0_ n1_ n2_ n3_ n4_ n5_ n6_ n7_ n8_; clear hb hbox hg; have hnb31 := NB378_367.out; have hnc31 := NB367_378.out; have hcz32_0 : w30.cell? ⟨gb378, 0, none⟩ = some (.int .u64 0) := (blk_cell BK378.out 0).trans rfl; have hcz32_1 : w30.cell? ⟨gb378, 1, none⟩ = some (.int .u64 0) := (blk_cell BK378.out 1).trans rfl; have hcz32_2 : w30.cell? ⟨gb378, 2, none⟩ = some (.int .u64 0) := (blk_cell BK378.out 2).trans rfl; have hcz32_3 : w30.cell? ⟨gb378, 3, none⟩ = some (.int .u64 0) := (blk_cell BK378.out 3).trans rfl; have hcz32_4 : w30.cell? ⟨gb378, 4, none⟩ = some (.slice none 0 0) := (blk_cell BK378.out 4).trans rfl; have hcz32_5 : w30.cell? ⟨gb378, 5, none⟩ = some (.slice none 0 0) := (blk_cell BK378.out 5).trans rfl; have hfz32_0 := blk_frozen BK378.out 0; have hfz32_1 := blk_frozen BK378.out 1; have hfz32_2 := blk_frozen BK378.out 2; have hfz32_3 := blk_frozen BK378.out 3; have hfz32_4 := blk_frozen BK378.out 4; have hfz32_5 := blk_frozen BK378.out 5))
                    go_roundg k2
                    case measure => have := HJ2.out; have := HK2.out; omega
                    case rel => exact ⟨(true), (wrap64 (x32_2 + 1)), (by first | rfl | (simp; done) | (simp [*]; done)), (by first | rfl | (simp; done) | (simp [*]; done)), H', ⟨by have := HJ2.out; have := HK2.out; omega⟩, ⟨by (with_reducible repeat (first | apply Kd.V_alloc | apply Kd.V_drewN | apply Kd.V_drew)); exact Kd.V_mono (Kd.V_far (p := ⟨gb378, 5, none⟩) (Kd.V_far (p := ⟨gb378, 4, none⟩) (Kd.V_far (p := ⟨gb378, 3, none⟩) (Kd.V_far (p := ⟨gb378, 2, none⟩) (Kd.V_far (p := ⟨gb378, 1, none⟩) (Kd.V_far (p := ⟨gb378, 0, none⟩) (Kd.V_mono HO_368004.out (fun k_ hk => (⟨hk, hk.2⟩ : _ ∧ k_ ≠ gb378))) (fun _ hk => hk.2) (.int .u64 ((rd_T26 l0 x32_2).f0))) (fun _ hk => hk.2) (.int .u64 ((rd_T26 l0 x32_2).f1))) (fun _ hk => hk.2) (.int .u64 ((rd_T26 l0 x32_2).f2))) (fun _ hk => hk.2) (.int .u64 ((rd_T26 l0 x32_2).f3))) (fun _ hk => hk.2) (.slice A377_4 ((rd_T26 l0 x32_2).f4).length c377_4)) (fun _ hk => hk.2) (.slice A377_5 ((rd_T26 l0 x32_2).f5).length c377_5)) (fun _ hk => ⟨hk.1.1.1, hk.1.1.2⟩)⟩, ⟨by (with_reducible repeat (first | apply Kd.V_alloc | apply Kd.V_drewN | apply Kd.V_drew)); exact Kd.V_mono (Kd.V_far (p := ⟨gb378, 5, none⟩) (Kd.V_far (p := ⟨gb378, 4, none⟩) (Kd.V_far (p := ⟨gb378, 3, none⟩) (Kd.V_far (p := ⟨gb378, 2, none⟩) (Kd.V_far (p := ⟨gb378, 1, none⟩) (Kd.V_far (p := ⟨gb378, 0, none⟩) (Kd.V_mono HO_368005.out (fun k_ hk => (⟨hk, hk.2⟩ : _ ∧ k_ ≠ gb378))) (fun _ hk => hk.2) (.int .u64 ((rd_T26 l0 x32_2).f0))) (fun _ hk => hk.2) (.int .u64 ((rd_T26 l0 x32_2).f1))) (fun _ hk => hk.2) (.int .u64 ((rd_T26 l0 x32_2).f2))) (fun _ hk => hk.2) (.int .u64 ((rd_T26 l0 x32_2).f3))) (fun _ hk => hk.2) (.slice A377_4 ((rd_T26 l0 x32_2).f4).length c377_4)) (fun _ hk => hk.2) (.slice A377_5 ((rd_T26 l0 x32_2).f5).length c377_5)) (fun _ hk => ⟨hk.1.1.1, hk.1.1.2⟩)⟩, ⟨by (with_reducible repeat (first | refine blk_drewN ?_ _ | refine blk_drew ?_ | refine blk_alloc ?_ _)); refine blk_far ?_ NB367_378.out _; (with_reducible repeat (first | refine blk_drewN ?_ _ | refine blk_drew ?_ | refine blk_alloc ?_ _)); refine blk_far ?_ NB367_378.out _; (with_reducible repeat (first | refine blk_drewN ?_ _ | refine blk_drew ?_ | refine blk_alloc ?_ _)); refine blk_far ?_ NB367_378.out _; (with_reducible repeat (first | refine blk_drewN ?_ _ | refine blk_drew ?_ | refine blk_alloc ?_ _)); refine blk_far ?_ NB367_378.out _; (with_reducible repeat (first | refine blk_drewN ?_ _ | refine blk_drew ?_ | refine blk_alloc ?_ _)); refine blk_far ?_ NB367_378.out _; (with_reducible repeat (first | refine blk_drewN ?_ _ | refine blk_drew ?_ | refine blk_alloc ?_ _)); refine blk_far ?_ NB367_378.out _; (with_reducible repeat (first | refine blk_drewN ?_ _ | refine blk_drew ?_ | refine blk_alloc ?_ _)); exact BK367.out⟩, ⟨by repeat (first | (with_reducible first | exact HB.out | apply below_alloc | apply pw_below_drewN | apply below_drew1 | refine below_set ?_ GE367.out | refine below_set ?_ GE378.out) | exact HB.out)⟩⟩
                  · replace c29 := Bool.eq_false_iff.mpr c29
                    subst c29
                    have H1 : (if ((rd_T26 l0 x32_2).f1) > a1_2 then ((conductorref09_Meet.f k2 l1_4 ((rd_T26 l0 x32_2).f5)).bind fun t379 => (conductorlaw10_SsiAlone.l0 k2 t375 t376 t379 l0 (l0.length : Int) (wrap64 (x32_2 + 1)) a1_0 a1_1 a1_2 a1_3 l1_4 l1_5)) else (conductorlaw10_SsiAlone.l0 k2 t375 t376 false l0 (l0.length : Int) (wrap64 (x32_2 + 1)) a1_0 a1_1 a1_2 a1_3 l1_4 l1_5)) = some r := by rw [if_neg (show ¬ (false = true) by decide)] at H; exact H
                    clear H
                    have H := H1
                    clear H1
                    by_cases c33 : ((rd_T26 l0 x32_2).f1) > a1_2
                    · rw [if_pos c33] at H
                      have c33b0 : decide (a1_2 < ((rd_T26 l0 x32_2).f1)) = true := decide_eq_true c33
                      clear c33
                      replace H := Option.bind_eq_some_iff.mp H
                      obtain ⟨t379, A340, H⟩ := H
                      replace H : (conductorlaw10_SsiAlone.l0 k2 t375 t376 t379 l0 (l0.length : Int) (wrap64 (x32_2 + 1)) a1_0 a1_1 a1_2 a1_3 l1_4 l1_5) = some r := H
                      have A34 := Aside0.mk A340
                      clear A340
                      have H' := Aside0.mk H
                      clear H
                      have p377 : 0 ≤ (x32_2 : Int) := of_decide_eq_true (by first | (with_reducible assumption) | assumption)
                      have q377 : x32_2 < (l0.length : Int) := of_decide_eq_true (by first | (with_reducible assumption) | assumption)
                      obtain ⟨ad377, A377_4, c377_4, A377_5, c377_5, e377, hx377_0, hx377_1, hx377_2, hx377_3, hx377_4, hx377_5, hl377_4, hi377_4, hl377_5, hi377_5⟩ := at_T26 HR0.out x32_2 p377 q377
                      cases e377
                      replace hx377_0 := (HB.out.cell (World.block_lt_of_cell? w _ hx377_0)).trans hx377_0
                      replace hx377_1 := (HB.out.cell (World.block_lt_of_cell? w _ hx377_1)).trans hx377_1
                      replace hx377_2 := (HB.out.cell (World.block_lt_of_cell? w _ hx377_2)).trans hx377_2
                      replace hx377_3 := (HB.out.cell (World.block_lt_of_cell? w _ hx377_3)).trans hx377_3
                      replace hx377_4 := (HB.out.cell (World.block_lt_of_cell? w _ hx377_4)).trans hx377_4
                      replace hx377_5 := (HB.out.cell (World.block_lt_of_cell? w _ hx377_5)).trans hx377_5
                      have HR377_4 := Aside0.mk hi377_4
                      have HC377_4 := Aside0.mk hl377_4
                      clear hi377_4 hl377_4
                      have HR377_5 := Aside0.mk hi377_5
                      have HC377_5 := Aside0.mk hl377_5
                      clear hi377_5 hl377_5
                      replace p377 := eq_true p377
                      replace q377 := eq_true q377
                      go_wp2_with (first | ((with_reducible refine gate_dst (N := 9) rfl ?_); (try (refine gate_guard (by rfl) ?_; dsimp only)); refine box_event ?hg (N := 9) ?hd (cs := #[.int .u64 0, .int .u64 0, .int .u64 0, .int .u64 0, .slice none 0 0, .slice none 0 0]) (t := 26) ?hr ?_; (case hd => rfl); (case hg => rfl); (case hr => first | (go_simp; done) | (go_simp; rfl)); intro gb378 hg w35 hbox hb; have n0_ := Aside0.mk (Kd.V_below (Kd.V_elderB (by (with_reducible repeat (first | apply Kd.V_alloc | apply Kd.V_drewN | apply Kd.V_drew)); exact HO_368004.out) gb378 (Nat.le_of_eq hg.symm)) hb); have n1_ := Aside0.mk (Kd.V_below (Kd.V_elderB (by (with_reducible repeat (first | apply Kd.V_alloc | apply Kd.V_drewN | apply Kd.V_drew)); exact HO_368005.out) gb378 (Nat.le_of_eq hg.symm)) hb); have n2_ := Aside0.mk (blk_below (g := gb367) (o := .cells #[.int .u64 a1_0, .int .u64 a1_1, .int .u64 a1_2, .int .u64 a1_3, .slice A1_4 l1_4.length c1_4, .slice A1_5 l1_5.length c1_5] 26 (0, 0)) (by (with_reducible repeat (first | refine blk_drewN ?_ _ | refine blk_drew ?_ | refine blk_alloc ?_ _)); exact BK367.out) hb); have n3_ := Aside0.mk (below_step (by repeat (first | (with_reducible first | exact HB.out | apply below_alloc | apply pw_below_drewN | apply below_drew1 | refine below_set ?_ GE367.out) | exact HB.out)) hb); have n4_ := Aside0.mk (hbox); have n5_ := Aside0.mk ((by rw [hg]; exact (below_size (by repeat (first | (with_reducible first | exact HB.out | apply below_alloc | apply pw_below_drewN | apply below_drew1 | refine below_set ?_ GE367.out) | exact HB.out))) : w.heap.size ≤ gb378)); have n6_ := Aside0.mk ((by rw [hg]; exact (below_size (by repeat (first | (with_reducible first | exact HB.out | apply below_alloc | apply pw_below_drewN | apply below_drew1 | refine below_set ?_ GE367.out) | exact HB.out))) : w.heap.size ≤ gb378)); have n7_ := Aside0.mk ((by rw [hg]; exact Nat.ne_of_lt (blk_lt (g := gb367) (o := .cells #[.int .u64 a1_0, .int .u64 a1_1, .int .u64 a1_2, .int .u64 a1_3, .slice A1_4 l1_4.length c1_4, .slice A1_5 l1_5.length c1_5] 26 (0, 0)) (by (with_reducible repeat (first | refine blk_drewN ?_ _ | refine blk_drew ?_ | refine blk_alloc ?_ _)); exact BK367.out)) : gb367 ≠ gb378)); have n8_ := Aside0.mk ((by rw [hg]; exact Nat.ne_of_gt (blk_lt (g := gb367) (o := .cells #[.int .u64 a1_0, .int .u64 a1_1, .int .u64 a1_2, .int .u64 a1_3, .slice A1_4 l1_4.length c1_4, .slice A1_5 l1_5.length c1_5] 26 (0, 0)) (by (with_reducible repeat (first | refine blk_drewN ?_ _ | refine blk_drew ?_ | refine blk_alloc ?_ _)); exact BK367.out)) : gb378 ≠ gb367)); clear HO_368004; clear HO_368005; clear BK367; clear HB; have HO_368004 := n0_; have HO_368005 := n1_; have BK367 := n2_; have HB := n3_; have BK378 := n4_; have GW378 := n5_; have GE378 := n6_; have NB367_378 := n7_; have NB378_367 := n8_; clear n0_ n1_ n2_ n3_ n4_ n5_ n6_ n7_ n8_; clear hb hbox hg; have hnb36 := NB378_367.out; have hnc36 := NB367_378.out; have hcz37_0 : w35.cell? ⟨gb378, 0, none⟩ = some (.int .u64 0) := (blk_cell BK378.out 0).trans rfl; have hcz37_1 : w35.cell? ⟨gb378, 1, none⟩ = some (.int .u64 0) := (blk_cell BK378.out 1).trans rfl; have hcz37_2 : w35.cell? ⟨gb378, 2, none⟩ = some (.int .u64 0) := (blk_cell BK378.out 2).trans rfl; have hcz37_3 : w35.cell? ⟨gb378, 3, none⟩ = some (.int .u64 0) := (blk_cell BK378.out 3).trans rfl; have hcz37_4 : w35.cell? ⟨gb378, 4, none⟩ = some (.slice none 0 0) := (blk_cell BK378.out 4).trans rfl; have hcz37_5 : w35.cell? ⟨gb378, 5, none⟩ = some (.slice none 0 0) := (blk_cell BK378.out 5).trans rfl; have hfz37_0 := blk_frozen BK378.out 0; have hfz37_1 := blk_frozen BK378.out 1; have hfz37_2 := blk_frozen BK378.out 2; have hfz37_3 := blk_frozen BK378.out 3; have hfz37_4 := blk_frozen BK378.out 4; have hfz37_5 := blk_frozen BK378.out 5; have hcz38_0 : w35.cell? ⟨gb367, 0, none⟩ = some (.int .u64 a1_0) := (blk_cell BK367.out 0).trans rfl; have hcz38_1 : w35.cell? ⟨gb367, 1, none⟩ = some (.int .u64 a1_1) := (blk_cell BK367.out 1).trans rfl; have hcz38_2 : w35.cell? ⟨gb367, 2, none⟩ = some (.int .u64 a1_2) := (blk_cell BK367.out 2).trans rfl; have hcz38_3 : w35.cell? ⟨gb367, 3, none⟩ = some (.int .u64 a1_3) := (blk_cell BK367.out 3).trans rfl; have hcz38_4 : w35.cell? ⟨gb367, 4, none⟩ = some (.slice A1_4 l1_4.length c1_4) := (blk_cell BK367.out 4).trans rfl; have hcz38_5 : w35.cell? ⟨gb367, 5, none⟩ = some (.slice A1_5 l1_5.length c1_5) := (blk_cell BK367.out 5).trans rfl; have hfz38_0 := blk_frozen BK367.out 0; have hfz38_1 := blk_frozen BK367.out 1; have hfz38_2 := blk_frozen BK367.out 2; have hfz38_3 := blk_frozen BK367.out 3; have hfz38_4 := blk_frozen BK367.out 4; have hfz38_5 := blk_frozen BK367.out 5) | (go_at_call 19; (with_reducible refine (conductorref09_Meet.calls k2 _ _ l1_4 _ _ ((rd_T26 l0 x32_2).f5) t379 _ ?side1 ?side2 ?side3 ?side4 A34.out).mono ?_); (case side1 => refine (Kd.V_reads' (e := 41) (base := w.heap.size) (ok := fun k_ => ((((P1_4_ k_ ∨ P1_5_ k_) ∨ w.heap.size ≤ k_) ∧ k_ ≠ gb367) ∧ k_ ≠ gb378)) (n := l1_4.length) (c := c1_4) ?_).2.2; exact (by (with_reducible repeat (first | apply Kd.V_alloc | apply Kd.V_drewN | apply Kd.V_drew)); exact (Kd.V_mono (Kd.V_far (p := ⟨gb378, 5, none⟩) (Kd.V_far (p := ⟨gb378, 4, none⟩) (Kd.V_far (p := ⟨gb378, 3, none⟩) (Kd.V_far (p := ⟨gb378, 2, none⟩) (Kd.V_far (p := ⟨gb378, 1, none⟩) (Kd.V_far (p := ⟨gb378, 0, none⟩) (Kd.V_mono HO_368004.out (fun k_ hk => (⟨hk, hk.2⟩ : _ ∧ k_ ≠ gb378))) (fun _ hk => hk.2) (.int .u64 ((rd_T26 l0 x32_2).f0))) (fun _ hk => hk.2) (.int .u64 ((rd_T26 l0 x32_2).f1))) (fun _ hk => hk.2) (.int .u64 ((rd_T26 l0 x32_2).f2))) (fun _ hk => hk.2) (.int .u64 ((rd_T26 l0 x32_2).f3))) (fun _ hk => hk.2) (.slice A377_4 ((rd_T26 l0 x32_2).f4).length c377_4)) (fun _ hk => hk.2) (.slice A377_5 ((rd_T26 l0 x32_2).f5).length c377_5)) (fun _ h_ => h_.1)))); (case side2 => exact (Kd.V_reads' HO_368004.out).2.1); (case side3 => exact Kd.C_below HR377_5.out (by repeat (first | (with_reducible first | exact HB.out | apply below_alloc | apply pw_below_drewN | apply below_drew1 | refine below_set ?_ GE367.out | refine below_set ?_ GE378.out) | exact HB.out))); (case side4 => exact HC377_5.out); rintro e w39 ⟨rfl, hb⟩; have n0_ := Aside0.mk (Kd.V_below (by (with_reducible repeat (first | apply Kd.V_alloc | apply Kd.V_drewN | apply Kd.V_drew)); exact (Kd.V_mono (Kd.V_far (p := ⟨gb378, 5, none⟩) (Kd.V_far (p := ⟨gb378, 4, none⟩) (Kd.V_far (p := ⟨gb378, 3, none⟩) (Kd.V_far (p := ⟨gb378, 2, none⟩) (Kd.V_far (p := ⟨gb378, 1, none⟩) (Kd.V_far (p := ⟨gb378, 0, none⟩) (Kd.V_mono HO_368004.out (fun k_ hk => (⟨hk, hk.2⟩ : _ ∧ k_ ≠ gb378))) (fun _ hk => hk.2) (.int .u64 ((rd_T26 l0 x32_2).f0))) (fun _ hk => hk.2) (.int .u64 ((rd_T26 l0 x32_2).f1))) (fun _ hk => hk.2) (.int .u64 ((rd_T26 l0 x32_2).f2))) (fun _ hk => hk.2) (.int .u64 ((rd_T26 l0 x32_2).f3))) (fun _ hk => hk.2) (.slice A377_4 ((rd_T26 l0 x32_2).f4).length c377_4)) (fun _ hk => hk.2) (.slice A377_5 ((rd_T26 l0 x32_2).f5).length c377_5)) (fun _ h_ => h_.1))) hb); have n1_ := Aside0.mk (Kd.V_below (by (with_reducible repeat (first | apply Kd.V_alloc | apply Kd.V_drewN | apply Kd.V_drew)); exact (Kd.V_mono (Kd.V_far (p := ⟨gb378, 5, none⟩) (Kd.V_far (p := ⟨gb378, 4, none⟩) (Kd.V_far (p := ⟨gb378, 3, none⟩) (Kd.V_far (p := ⟨gb378, 2, none⟩) (Kd.V_far (p := ⟨gb378, 1, none⟩) (Kd.V_far (p := ⟨gb378, 0, none⟩) (Kd.V_mono HO_368005.out (fun k_ hk => (⟨hk, hk.2⟩ : _ ∧ k_ ≠ gb378))) (fun _ hk => hk.2) (.int .u64 ((rd_T26 l0 x32_2).f0))) (fun _ hk => hk.2) (.int .u64 ((rd_T26 l0 x32_2).f1))) (fun _ hk => hk.2) (.int .u64 ((rd_T26 l0 x32_2).f2))) (fun _ hk => hk.2) (.int .u64 ((rd_T26 l0 x32_2).f3))) (fun _ hk => hk.2) (.slice A377_4 ((rd_T26 l0 x32_2).f4).length c377_4)) (fun _ hk => hk.2) (.slice A377_5 ((rd_T26 l0 x32_2).f5).length c377_5)) (fun _ h_ => h_.1))) hb); have n2_ := Aside0.mk (blk_below (g := gb367) (o := .cells #[.int .u64 a1_0, .int .u64 a1_1, .int .u64 a1_2, .int .u64 a1_3, .slice A1_4 l1_4.length c1_4, .slice A1_5 l1_5.length c1_5] 26 (0, 0)) (by (with_reducible repeat (first | refine blk_drewN ?_ _ | refine blk_drew ?_ | refine blk_alloc ?_ _)); refine blk_far ?_ NB367_378.out _; (with_reducible repeat (first | refine blk_drewN ?_ _ | refine blk_drew ?_ | refine blk_alloc ?_ _)); refine blk_far ?_ NB367_378.out _; (with_reducible repeat (first | refine blk_drewN ?_ _ | refine blk_drew ?_ | refine blk_alloc ?_ _)); refine blk_far ?_ NB367_378.out _; (with_reducible repeat (first | refine blk_drewN ?_ _ | refine blk_drew ?_ | refine blk_alloc ?_ _)); refine blk_far ?_ NB367_378.out _; (with_reducible repeat (first | refine blk_drewN ?_ _ | refine blk_drew ?_ | refine blk_alloc ?_ _)); refine blk_far ?_ NB367_378.out _; (with_reducible repeat (first | refine blk_drewN ?_ _ | refine blk_drew ?_ | refine blk_alloc ?_ _)); refine blk_far ?_ NB367_378.out _; (with_reducible repeat (first | refine blk_drewN ?_ _ | refine blk_drew ?_ | refine blk_alloc ?_ _)); exact BK367.out) hb); have n3_ := Aside0.mk (blk_below (g := gb378) (o := .cells #[.int .u64 ((rd_T26 l0 x32_2).f0), .int .u64 ((rd_T26 l0 x32_2).f1), .int .u64 ((rd_T26 l0 x32_2).f2), .int .u64 ((rd_T26 l0 x32_2).f3), .slice A377_4 ((rd_T26 l0 x32_2).f4).length c377_4, .slice A377_5 ((rd_T26 l0 x32_2).f5).length c377_5] 26 (0, 0)) (by (with_reducible repeat (first | refine blk_drewN ?_ _ | refine blk_drew ?_ | refine blk_alloc ?_ _)); refine blk_put (cs := #[.int .u64 ((rd_T26 l0 x32_2).f0), .int .u64 ((rd_T26 l0 x32_2).f1), .int .u64 ((rd_T26 l0 x32_2).f2), .int .u64 ((rd_T26 l0 x32_2).f3), .slice A377_4 ((rd_T26 l0 x32_2).f4).length c377_4, .slice none 0 0]) ?_ 5 _ rfl; (with_reducible repeat (first | refine blk_drewN ?_ _ | refine blk_drew ?_ | refine blk_alloc ?_ _)); refine blk_put (cs := #[.int .u64 ((rd_T26 l0 x32_2).f0), .int .u64 ((rd_T26 l0 x32_2).f1), .int .u64 ((rd_T26 l0 x32_2).f2), .int .u64 ((rd_T26 l0 x32_2).f3), .slice none 0 0, .slice none 0 0]) ?_ 4 _ rfl; (with_reducible repeat (first | refine blk_drewN ?_ _ | refine blk_drew ?_ | refine blk_alloc ?_ _)); refine blk_put (cs := #[.int .u64 ((rd_T26 l0 x32_2).f0), .int .u64 ((rd_T26 l0 x32_2).f1), .int .u64 ((rd_T26 l0 x32_2).f2), .int .u64 0, .slice none 0 0, .slice none 0 0]) ?_ 3 _ rfl; (with_reducible repeat (first | refine blk_drewN ?_ _ | refine blk_drew ?_ | refine blk_alloc ?_ _)); refine blk_put (cs := #[.int .u64 ((rd_T26 l0 x32_2).f0), .int .u64 ((rd_T26 l0 x32_2).f1), .int .u64 0, .int .u64 0, .slice none 0 0, .slice none 0 0]) ?_ 2 _ rfl; (with_reducible repeat (first | refine blk_drewN ?_ _ | refine blk_drew ?_ | refine blk_alloc ?_ _)); refine blk_put (cs := #[.int .u64 ((rd_T26 l0 x32_2).f0), .int .u64 0, .int .u64 0, .int .u64 0, .slice none 0 0, .slice none 0 0]) ?_ 1 _ rfl; (with_reducible repeat (first | refine blk_drewN ?_ _ | refine blk_drew ?_ | refine blk_alloc ?_ _)); refine blk_put (cs := #[.int .u64 0, .int .u64 0, .int .u64 0, .int .u64 0, .slice none 0 0, .slice none 0 0]) ?_ 0 _ rfl; (with_reducible repeat (first | refine blk_drewN ?_ _ | refine blk_drew ?_ | refine blk_alloc ?_ _)); exact BK378.out) hb); have n4_ := Aside0.mk (below_step (by repeat (first | (with_reducible first | exact HB.out | apply below_alloc | apply pw_below_drewN | apply below_drew1 | refine below_set ?_ GE367.out | refine below_set ?_ GE378.out) | exact HB.out)) hb); clear HO_368004; clear HO_368005; clear BK367; clear BK378; clear HB; have HO_368004 := n0_; have HO_368005 := n1_; have BK367 := n2_; have BK378 := n3_; have HB := n4_; clear n0_ n1_ n2_ n3_ n4_; (try clear hb); (try clear hb2); (try clear hk); (try clear hi)))
                      go_roundg k2
                      case measure => have := HJ2.out; have := HK2.out; omega
                      case rel => exact ⟨(t379), (wrap64 (x32_2 + 1)), (by first | rfl | (simp; done) | (simp [*]; done)), (by first | rfl | (simp; done) | (simp [*]; done)), H', ⟨by have := HJ2.out; have := HK2.out; omega⟩, ⟨by (with_reducible repeat (first | apply Kd.V_alloc | apply Kd.V_drewN | apply Kd.V_drew)); exact Kd.V_mono HO_368004.out (fun _ hk => ⟨hk.1.1, hk.1.2⟩)⟩, ⟨by (with_reducible repeat (first | apply Kd.V_alloc | apply Kd.V_drewN | apply Kd.V_drew)); exact Kd.V_mono HO_368005.out (fun _ hk => ⟨hk.1.1, hk.1.2⟩)⟩, ⟨by (with_reducible repeat (first | refine blk_drewN ?_ _ | refine blk_drew ?_ | refine blk_alloc ?_ _)); exact BK367.out⟩, ⟨by repeat (first | (with_reducible first | exact HB.out | apply below_alloc | apply pw_below_drewN | apply below_drew1 | refine below_set ?_ GE367.out | refine below_set ?_ GE378.out) | exact HB.out)⟩⟩
                    · rw [if_neg c33] at H
                      have c33b0 : decide (a1_2 < ((rd_T26 l0 x32_2).f1)) = false := decide_eq_false c33
                      clear c33
                      have H' := Aside0.mk H
                      clear H
                      have p377 : 0 ≤ (x32_2 : Int) := of_decide_eq_true (by first | (with_reducible assumption) | assumption)
                      have q377 : x32_2 < (l0.length : Int) := of_decide_eq_true (by first | (with_reducible assumption) | assumption)
                      obtain ⟨ad377, A377_4, c377_4, A377_5, c377_5, e377, hx377_0, hx377_1, hx377_2, hx377_3, hx377_4, hx377_5, hl377_4, hi377_4, hl377_5, hi377_5⟩ := at_T26 HR0.out x32_2 p377 q377
                      cases e377
                      replace hx377_0 := (HB.out.cell (World.block_lt_of_cell? w _ hx377_0)).trans hx377_0
                      replace hx377_1 := (HB.out.cell (World.block_lt_of_cell? w _ hx377_1)).trans hx377_1
                      replace hx377_2 := (HB.out.cell (World.block_lt_of_cell? w _ hx377_2)).trans hx377_2
                      replace hx377_3 := (HB.out.cell (World.block_lt_of_cell? w _ hx377_3)).trans hx377_3
                      replace hx377_4 := (HB.out.cell (World.block_lt_of_cell? w _ hx377_4)).trans hx377_4
                      replace hx377_5 := (HB.out.cell (World.block_lt_of_cell? w _ hx377_5)).trans hx377_5
                      have HR377_4 := Aside0.mk hi377_4
                      have HC377_4 := Aside0.mk hl377_4
                      clear hi377_4 hl377_4
                      have HR377_5 := Aside0.mk hi377_5
                      have HC377_5 := Aside0.mk hl377_5
                      clear hi377_5 hl377_5
                      replace p377 := eq_true p377
                      replace q377 := eq_true q377
                      go_wp2_with (first | ((with_reducible refine gate_dst (N := 9) rfl ?_); (try (refine gate_guard (by rfl) ?_; dsimp only)); refine box_event ?hg (N := 9) ?hd (cs := #[.int .u64 0, .int .u64 0, .int .u64 0, .int .u64 0, .slice none 0 0, .slice none 0 0]) (t := 26) ?hr ?_; (case hd => rfl); (case hg => rfl); (case hr => first | (go_simp; done) | (go_simp; rfl)); intro gb378 hg w40 hbox hb; have n0_ := Aside0.mk (Kd.V_below (Kd.V_elderB (by (with_reducible repeat (first | apply Kd.V_alloc | apply Kd.V_drewN | apply Kd.V_drew)); exact HO_368004.out) gb378 (Nat.le_of_eq hg.symm)) hb); have n1_ := Aside0.mk (Kd.V_below (Kd.V_elderB (by (with_reducible repeat (first | apply Kd.V_alloc | apply Kd.V_drewN | apply Kd.V_drew)); exact HO_368005.out) gb378 (Nat.le_of_eq hg.symm)) hb); have n2_ := Aside0.mk (blk_below (g := gb367) (o := .cells #[.int .u64 a1_0, .int .u64 a1_1, .int .u64 a1_2, .int .u64 a1_3, .slice A1_4 l1_4.length c1_4, .slice A1_5 l1_5.length c1_5] 26 (0, 0)) (by (with_reducible repeat (first | refine blk_drewN ?_ _ | refine blk_drew ?_ | refine blk_alloc ?_ _)); exact BK367.out) hb); have n3_ := Aside0.mk (below_step (by repeat (first | (with_reducible first | exact HB.out | apply below_alloc | apply pw_below_drewN | apply below_drew1 | refine below_set ?_ GE367.out) | exact HB.out)) hb); have n4_ := Aside0.mk (hbox); have n5_ := Aside0.mk ((by rw [hg]; exact (below_size (by repeat (first | (with_reducible first | exact HB.out | apply below_alloc | apply pw_below_drewN | apply below_drew1 | refine below_set ?_ GE367.out) | exact HB.out))) : w.heap.size ≤ gb378)); have n6_ := Aside0.mk ((by rw [hg]; exact (below_size (by repeat (first | (with_reducible first | exact HB.out | apply below_alloc | apply pw_below_drewN | apply below_drew1 | refine below_set ?_ GE367.out) | exact HB.out))) : w.heap.size ≤ gb378)); have n7_ := Aside0.mk ((by rw [hg]; exact Nat.ne_of_lt (blk_lt (g := gb367) (o := .cells #[.int .u64 a1_0, .int .u64 a1_1, .int .u64 a1_2, .int .u64 a1_3, .slice A1_4 l1_4.length c1_4, .slice A1_5 l1_5.length c1_5] 26 (0, 0)) (by (with_reducible repeat (first | refine blk_drewN ?_ _ | refine blk_drew ?_ | refine blk_alloc ?_ _)); exact BK367.out)) : gb367 ≠ gb378)); have n8_ := Aside0.mk ((by rw [hg]; exact Nat.ne_of_gt (blk_lt (g := gb367) (o := .cells #[.int .u64 a1_0, .int .u64 a1_1, .int .u64 a1_2, .int .u64 a1_3, .slice A1_4 l1_4.length c1_4, .slice A1_5 l1_5.length c1_5] 26 (0, 0)) (by (with_reducible repeat (first | refine blk_drewN ?_ _ | refine blk_drew ?_ | refine blk_alloc ?_ _)); exact BK367.out)) : gb378 ≠ gb367)); clear HO_368004; clear HO_368005; clear BK367; clear HB; have HO_368004 := n0_; have HO_368005 := n1_; have BK367 := n2_; have HB := n3_; have BK378 := n4_; have GW378 := n5_; have GE378 := n6_; have NB367_378 := n7_; have NB378_367 := n8_; clear n0_ n1_ n2_ n3_ n4_ n5_ n6_ n7_ n8_; clear hb hbox hg; have hnb41 := NB378_367.out; have hnc41 := NB367_378.out; have hcz42_0 : w40.cell? ⟨gb378, 0, none⟩ = some (.int .u64 0) := (blk_cell BK378.out 0).trans rfl; have hcz42_1 : w40.cell? ⟨gb378, 1, none⟩ = some (.int .u64 0) := (blk_cell BK378.out 1).trans rfl; have hcz42_2 : w40.cell? ⟨gb378, 2, none⟩ = some (.int .u64 0) := (blk_cell BK378.out 2).trans rfl; have hcz42_3 : w40.cell? ⟨gb378, 3, none⟩ = some (.int .u64 0) := (blk_cell BK378.out 3).trans rfl; have hcz42_4 : w40.cell? ⟨gb378, 4, none⟩ = some (.slice none 0 0) := (blk_cell BK378.out 4).trans rfl; have hcz42_5 : w40.cell? ⟨gb378, 5, none⟩ = some (.slice none 0 0) := (blk_cell BK378.out 5).trans rfl; have hfz42_0 := blk_frozen BK378.out 0; have hfz42_1 := blk_frozen BK378.out 1; have hfz42_2 := blk_frozen BK378.out 2; have hfz42_3 := blk_frozen BK378.out 3; have hfz42_4 := blk_frozen BK378.out 4; have hfz42_5 := blk_frozen BK378.out 5; have hcz43_0 : w40.cell? ⟨gb367, 0, none⟩ = some (.int .u64 a1_0) := (blk_cell BK367.out 0).trans rfl; have hcz43_1 : w40.cell? ⟨gb367, 1, none⟩ = some (.int .u64 a1_1) := (blk_cell BK367.out 1).trans rfl; have hcz43_2 : w40.cell? ⟨gb367, 2, none⟩ = some (.int .u64 a1_2) := (blk_cell BK367.out 2).trans rfl; have hcz43_3 : w40.cell? ⟨gb367, 3, none⟩ = some (.int .u64 a1_3) := (blk_cell BK367.out 3).trans rfl; have hcz43_4 : w40.cell? ⟨gb367, 4, none⟩ = some (.slice A1_4 l1_4.length c1_4) := (blk_cell BK367.out 4).trans rfl; have hcz43_5 : w40.cell? ⟨gb367, 5, none⟩ = some (.slice A1_5 l1_5.length c1_5) := (blk_cell BK367.out 5).trans rfl; have hfz43_0 := blk_frozen BK367.out 0; have hfz43_1 := blk_frozen BK367.out 1; have hfz43_2 := blk_frozen BK367.out 2; have hfz43_3 := blk_frozen BK367.out 3; have hfz43_4 := blk_frozen BK367.out 4; have hfz43_5 := blk_frozen BK367.out 5))
                      go_roundg k2
                      case measure => have := HJ2.out; have := HK2.out; omega
                      case rel => exact ⟨(false), (wrap64 (x32_2 + 1)), (by first | rfl | (simp; done) | (simp [*]; done)), (by first | rfl | (simp; done) | (simp [*]; done)), H', ⟨by have := HJ2.out; have := HK2.out; omega⟩, ⟨by (with_reducible repeat (first | apply Kd.V_alloc | apply Kd.V_drewN | apply Kd.V_drew)); exact Kd.V_mono (Kd.V_far (p := ⟨gb378, 5, none⟩) (Kd.V_far (p := ⟨gb378, 4, none⟩) (Kd.V_far (p := ⟨gb378, 3, none⟩) (Kd.V_far (p := ⟨gb378, 2, none⟩) (Kd.V_far (p := ⟨gb378, 1, none⟩) (Kd.V_far (p := ⟨gb378, 0, none⟩) (Kd.V_mono HO_368004.out (fun k_ hk => (⟨hk, hk.2⟩ : _ ∧ k_ ≠ gb378))) (fun _ hk => hk.2) (.int .u64 ((rd_T26 l0 x32_2).f0))) (fun _ hk => hk.2) (.int .u64 ((rd_T26 l0 x32_2).f1))) (fun _ hk => hk.2) (.int .u64 ((rd_T26 l0 x32_2).f2))) (fun _ hk => hk.2) (.int .u64 ((rd_T26 l0 x32_2).f3))) (fun _ hk => hk.2) (.slice A377_4 ((rd_T26 l0 x32_2).f4).length c377_4)) (fun _ hk => hk.2) (.slice A377_5 ((rd_T26 l0 x32_2).f5).length c377_5)) (fun _ hk => ⟨hk.1.1.1, hk.1.1.2⟩)⟩, ⟨by (with_reducible repeat (first | apply Kd.V_alloc | apply Kd.V_drewN | apply Kd.V_drew)); exact Kd.V_mono (Kd.V_far (p := ⟨gb378, 5, none⟩) (Kd.V_far (p := ⟨gb378, 4, none⟩) (Kd.V_far (p := ⟨gb378, 3, none⟩) (Kd.V_far (p := ⟨gb378, 2, none⟩) (Kd.V_far (p := ⟨gb378, 1, none⟩) (Kd.V_far (p := ⟨gb378, 0, none⟩) (Kd.V_mono HO_368005.out (fun k_ hk => (⟨hk, hk.2⟩ : _ ∧ k_ ≠ gb378))) (fun _ hk => hk.2) (.int .u64 ((rd_T26 l0 x32_2).f0))) (fun _ hk => hk.2) (.int .u64 ((rd_T26 l0 x32_2).f1))) (fun _ hk => hk.2) (.int .u64 ((rd_T26 l0 x32_2).f2))) (fun _ hk => hk.2) (.int .u64 ((rd_T26 l0 x32_2).f3))) (fun _ hk => hk.2) (.slice A377_4 ((rd_T26 l0 x32_2).f4).length c377_4)) (fun _ hk => hk.2) (.slice A377_5 ((rd_T26 l0 x32_2).f5).length c377_5)) (fun _ hk => ⟨hk.1.1.1, hk.1.1.2⟩)⟩, ⟨by (with_reducible repeat (first | refine blk_drewN ?_ _ | refine blk_drew ?_ | refine blk_alloc ?_ _)); refine blk_far ?_ NB367_378.out _; (with_reducible repeat (first | refine blk_drewN ?_ _ | refine blk_drew ?_ | refine blk_alloc ?_ _)); refine blk_far ?_ NB367_378.out _; (with_reducible repeat (first | refine blk_drewN ?_ _ | refine blk_drew ?_ | refine blk_alloc ?_ _)); refine blk_far ?_ NB367_378.out _; (with_reducible repeat (first | refine blk_drewN ?_ _ | refine blk_drew ?_ | refine blk_alloc ?_ _)); refine blk_far ?_ NB367_378.out _; (with_reducible repeat (first | refine blk_drewN ?_ _ | refine blk_drew ?_ | refine blk_alloc ?_ _)); refine blk_far ?_ NB367_378.out _; (with_reducible repeat (first | refine blk_drewN ?_ _ | refine blk_drew ?_ | refine blk_alloc ?_ _)); refine blk_far ?_ NB367_378.out _; (with_reducible repeat (first | refine blk_drewN ?_ _ | refine blk_drew ?_ | refine blk_alloc ?_ _)); exact BK367.out⟩, ⟨by repeat (first | (with_reducible first | exact HB.out | apply below_alloc | apply pw_below_drewN | apply below_drew1 | refine below_set ?_ GE367.out | refine below_set ?_ GE378.out) | exact HB.out)⟩⟩
                · rw [if_neg c28] at H
                  exact absurd H (by simp)
              · rw [if_neg c27] at H
                exact absurd H (by simp)
            · rw [if_neg c26] at H
              have c26b0 : decide (x32_2 < (l0.length : Int)) = false := decide_eq_false c26
              clear c26
              by_cases c44 : x7_2 = true
              · subst c44
                have H1 : (if t376 = 0 then (some true) else (if t376 = 101 then (some (t375 == 0)) else (some false))) = some r := by rw [if_pos rfl] at H; exact H
                clear H
                have H := H1
                clear H1
                by_cases c45 : t376 = 0
                · rw [if_pos c45] at H
                  have c45b0 : (t376 == 0) = true := beq_iff_eq.mpr c45
                  have c45b1 : (t376 != 0) = false := bne_eq_false_iff_eq.mpr c45
                  clear c45
                  obtain rfl := Option.some.inj H
                  go_wp2
                  go_ret
                  exact ⟨by first | rfl | (simp [errW_none, errW_some] <;> rfl) | (simp [*, errW_none, errW_some] <;> rfl), by repeat (first | (with_reducible first | exact HB.out | apply below_alloc | apply pw_below_drewN | apply below_drew1 | refine below_set ?_ GE367.out) | exact HB.out)⟩
                · rw [if_neg c45] at H
                  have c45b0 : (t376 == 0) = false := beq_eq_false_iff_ne.mpr c45
                  have c45b1 : (t376 != 0) = true := bne_iff_ne.mpr c45
                  by_cases c46 : t376 = 101
                  · rw [if_pos c46] at H
                    have c46b0 : (t376 == 101) = true := beq_iff_eq.mpr c46
                    have c46b1 : (t376 != 101) = false := bne_eq_false_iff_eq.mpr c46
                    clear c46
                    obtain rfl := Option.some.inj H
                    go_wp2
                    go_ret
                    exact ⟨by first | rfl | (simp [errW_none, errW_some] <;> rfl) | (simp [*, errW_none, errW_some] <;> rfl), by repeat (first | (with_reducible first | exact HB.out | apply below_alloc | apply pw_below_drewN | apply below_drew1 | refine below_set ?_ GE367.out) | exact HB.out)⟩
                  · rw [if_neg c46] at H
                    have c46b0 : (t376 == 101) = false := beq_eq_false_iff_ne.mpr c46
                    have c46b1 : (t376 != 101) = true := bne_iff_ne.mpr c46
                    obtain rfl := Option.some.inj H
                    go_wp2
                    go_ret
                    exact ⟨by first | rfl | (simp [errW_none, errW_some] <;> rfl) | (simp [*, errW_none, errW_some] <;> rfl), by repeat (first | (with_reducible first | exact HB.out | apply below_alloc | apply pw_below_drewN | apply below_drew1 | refine below_set ?_ GE367.out) | exact HB.out)⟩
              · replace c44 := Bool.eq_false_iff.mpr c44
                subst c44
                have H1 : (if t375 = 0 then (some (t376 == 0)) else (some false)) = some r := by rw [if_neg (show ¬ (false = true) by decide)] at H; exact H
                clear H
                have H := H1
                clear H1
                by_cases c47 : t375 = 0
                · rw [if_pos c47] at H
                  have c47b0 : (t375 == 0) = true := beq_iff_eq.mpr c47
                  have c47b1 : (t375 != 0) = false := bne_eq_false_iff_eq.mpr c47
                  clear c47
                  obtain rfl := Option.some.inj H
                  go_wp2
                  go_ret
                  exact ⟨by first | rfl | (simp [errW_none, errW_some] <;> rfl) | (simp [*, errW_none, errW_some] <;> rfl), by repeat (first | (with_reducible first | exact HB.out | apply below_alloc | apply pw_below_drewN | apply below_drew1 | refine below_set ?_ GE367.out) | exact HB.out)⟩
                · rw [if_neg c47] at H
                  have c47b0 : (t375 == 0) = false := beq_eq_false_iff_ne.mpr c47
                  have c47b1 : (t375 != 0) = true := bne_iff_ne.mpr c47
                  obtain rfl := Option.some.inj H
                  go_wp2
                  go_ret
                  exact ⟨by first | rfl | (simp [errW_none, errW_some] <;> rfl) | (simp [*, errW_none, errW_some] <;> rfl), by repeat (first | (with_reducible first | exact HB.out | apply below_alloc | apply pw_below_drewN | apply below_drew1 | refine below_set ?_ GE367.out) | exact HB.out)⟩

end Go.Proofs.Ytjefihcbhdennaa.S
