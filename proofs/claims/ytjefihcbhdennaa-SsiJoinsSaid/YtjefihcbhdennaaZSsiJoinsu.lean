/- Texts of this session, merged for the law SsiJoins: S12, S13, S14, S15, S52. No condition. -/
import Derived.Test.YtjefihcbhdennaaZSsiJoinsd
import Derived.Test.YtjefihcbhdennaaZSsiJoinsp
import Derived.Test.YtjefihcbhdennaaZSsiJoinss
import Derived.Test.YtjefihcbhdennaaZSsiJoinst
import Derived.Test.YtjefihcbhdennaaZSsiJoinsr
namespace Go.Proofs.Ytjefihcbhdennaa.S
open Go.RowKit Go.Proofs.YtjefihcbhdennaaW.PrintWords Go.Proofs.YtjefihcbhdennaaW.PrintLast Go.Proofs.YtjefihcbhdennaaW.PrintMore
attribute [local go_sem] max2_int min2_int max2_str min2_str str_leq str_gtr str_geq max_two min_two max_three min_three max_four min_four
set_option linter.unusedVariables false
set_option linter.unusedSimpArgs false
mutual
def api_Span_76.l0 : Nat → List (S41) → Int → Int → Int → Int → Option ((List (S41)))
 | 0, _, _, _, _, _ => none
 | k + 1, x0, x1, x6, x7, x8 => if x8 ≤ x1 then ((api_Span_80.f k x0 x7 x8).bind fun t148 => (api_Span_76.l0 k t148 x1 x6 x8 (wrap64 (x8 + x6)))) else ((api_Span_80.f k x0 x7 x1).bind fun t149 => (api_Span_76.l1 k t149 x1 x6))
def api_Span_76.l1 : Nat → List (S41) → Int → Int → Option ((List (S41)))
 | 0, _, _, _ => none
 | k + 1, x0, x1, x6 => if x6 < x1 then (api_Span_76.l2 k x0 x1 x6 0 (wrap64 (2 * x6))) else (some x0)
def api_Span_76.l2 : Nat → List (S41) → Int → Int → Int → Int → Option ((List (S41)))
 | 0, _, _, _, _, _ => none
 | k + 1, x0, x1, x6, x7, x8 => if x8 ≤ x1 then ((api_Span_81.f k x0 x7 (wrap64 (x7 + x6)) x8).bind fun t150 => (api_Span_76.l2 k t150 x1 x6 x8 (wrap64 (x8 + (wrap64 (2 * x6)))))) else (if (wrap64 (x7 + x6)) < x1 then ((api_Span_81.f k x0 x7 (wrap64 (x7 + x6)) x1).bind fun t151 => (api_Span_76.l1 k t151 x1 (wrap64 (x6 * 2)))) else (api_Span_76.l1 k x0 x1 (wrap64 (x6 * 2))))
end
def api_Span_76.f (k : Nat) (l0 : List (S41)) (a1 : Int)  : Option ((List (S41))) := api_Span_76.l0 k l0 a1 20 0 20
set_option maxHeartbeats 8000000 in
set_option maxRecDepth 100000 in
theorem api_Span_76.calls (k : Nat) (P0_ : Nat → Prop) (u9000_ : Value) (l0 : List (S41)) (a1 : Int)  (r : List (S41)) (w0 w : World) (hB : Below w0.heap.size w0 w) (ho0 : Kd.R k41 41 w w0.heap.size P0_ u9000_ l0) (h : api_Span_76.f k l0 a1 = some r) :
  Calls Try.prog 76 #[u9000_, .int .i64 a1, .func (.func 62) #[] #[]] w fun e w' => e = .returned (.tuple #[]) ∧ Kd.R k41 41 w' w0.heap.size (fun k_ => (P0_ k_ ∨ w.heap.size ≤ k_)) u9000_ r ∧ Below w0.heap.size w0 w' ∧ Kept w w' (fun k_ => P0_ k_) := by
 have HO0 := Aside0.mk (show Kd.R k41 41 w w0.heap.size (fun k_ => (P0_ k_ ∨ w.heap.size ≤ k_)) u9000_ l0 from Kd.R_mono ho0 (fun k_ hk => (.inl hk)))
 have HK := Aside0.mk (Kept.refl w (fun k_ => P0_ k_))
 have HW0 := Aside0.mk hB.size
 have HB := Aside0.mk hB; clear hB
 have H : (api_Span_76.l0 k l0 a1 20 0 20) = some r := h
 clear h; have H' := Aside0.mk H; clear H
 go_enter Try.func76, Try.ntmps76
 go_wp2
 (try simp only [Act.put, List.setIfInBounds_toArray, List.set_cons_zero, List.set_cons_succ])
 go_loopg [7, 8] k (fun kq v7 v8 w' => ∃ (x0_1 : List (S41)) (x7_1 : Int) (x8_1 : Int), v7 = .int .i64 x7_1 ∧ v8 = .int .i64 x8_1 ∧ Aside0 (api_Span_76.l0 kq x0_1 a1 20 x7_1 x8_1 = some r) ∧ Aside0 (kq ≤ k) ∧ Aside0 (Kd.R k41 41 w' w0.heap.size (fun k_ => (P0_ k_ ∨ w.heap.size ≤ k_)) u9000_ x0_1) ∧ Aside0 (Kept w w' (fun k_ => P0_ k_)) ∧ Aside0 (Below w0.heap.size w0 w'))
 case atStart => exact ⟨(l0), (0), (20), (by first | rfl | (simp; done) | (simp [*]; done)), (by first | rfl | (simp; done) | (simp [*]; done)), H', ⟨Nat.le_refl _⟩, ⟨by exact HO0.out⟩, ⟨by repeat (first | (with_reducible first | exact HK.out | apply Kept.alloc | apply Kept.drewN | apply Kept.drew) | exact HK.out)⟩, ⟨bl_⟩⟩
 case round =>
  clear H'; obtain ⟨x0_1, x7_1, x8_1, rfl, rfl, HA, HK1, HO_0, HK, HB⟩ := hrel
  cases gk with
  | zero => exact absurd HA.out (by simp [api_Span_76.l0])
  | succ k1 =>
   have H := HA.out
   clear HA
   simp only [api_Span_76.l0] at H
   by_cases c4 : x8_1 ≤ a1
   ·rw [if_pos c4] at H
    have c4b0 : decide (x8_1 ≤ a1) = true := decide_eq_true c4
    clear c4; replace H := Option.bind_eq_some_iff.mp H; obtain ⟨t148, A50, H⟩ := H
    replace H : (api_Span_76.l0 k1 t148 a1 20 x8_1 (wrap64 (x8_1 + 20))) = some r := H
    have A5 := Aside0.mk A50; clear A50; have H' := Aside0.mk H; clear H; obtain ⟨Ao6, co6, eo6⟩ := Kd.R_slice HO_0.out; subst eo6
    go_wp2_with (first | ((with_reducible refine gate_callee (f := 80) rfl ?_); refine goesL_ (some 18) rfl rfl Try.func80 (by kernel_rfl) rfl #[.slice Ao6 x0_1.length co6, .int .i64 x7_1, .int .i64 x8_1, .func (.func 62) #[] #[]] rfl sa_ ?_; (with_reducible refine (api_Span_80.calls k1 (fun k_ => some k_ = (.slice Ao6 x0_1.length co6 : Value).ownBlock) (.slice Ao6 x0_1.length co6) x0_1 x7_1 x8_1  t148 w0 _ ?side1 ?side2 A5.out).mono ?_); (case side1 => repeat (first | (with_reducible first | exact HB.out | apply below_alloc | apply pw_below_drewN | apply below_drew1) | exact HB.out)); (case side2 => exact Kd.R_tight rfl HO_0.out); rintro e w7 ⟨rfl, hy0, hb, hkp⟩; refine ⟨_, rfl, ?_⟩; have n0_ := Aside0.mk (Kd.R_reok rfl hy0 (fun k_ e_ => HO_0.out.1 k_ e_)); have n1_ := Aside0.mk (Kept.then_ (S := (fun k_ => P0_ k_)) (by repeat (first | (with_reducible first | exact HK.out | apply Kept.alloc | apply Kept.drewN | apply Kept.drew) | exact HK.out)) hkp (fun k_ hs_ => (fun e_ => (HO_0.out.1 k_ e_.symm)) hs_)); have n2_ := Aside0.mk (hb); clear HO_0; clear HK; clear HB; have HO_0 := n0_; have HK := n1_; have HB := n2_; clear n0_ n1_ n2_; (try clear hb); (try clear hkp); (try clear hy0)))
    go_roundg k1
    case measure => have := HK1.out; omega
    case rel => exact ⟨(t148), (x8_1), (wrap64 (x8_1 + 20)), (by first | rfl | (simp; done) | (simp [*]; done)), (by first | rfl | (simp; done) | (simp [*]; done)), H', ⟨by have := HK1.out; omega⟩, ⟨by exact HO_0.out⟩, ⟨by repeat (first | (with_reducible first | exact HK.out | apply Kept.alloc | apply Kept.drewN | apply Kept.drew) | exact HK.out)⟩, ⟨bl_⟩⟩
   ·rw [if_neg c4] at H
    have c4b0 : decide (x8_1 ≤ a1) = false := decide_eq_false c4
    clear c4; replace H := Option.bind_eq_some_iff.mp H; obtain ⟨t149, A80, H⟩ := H
    replace H : (api_Span_76.l1 k1 t149 a1 20) = some r := H
    have A8 := Aside0.mk A80; clear A80; have H' := Aside0.mk H; clear H; obtain ⟨Ao9, co9, eo9⟩ := Kd.R_slice HO_0.out; subst eo9
    go_wp2_with (first | ((with_reducible refine gate_callee (f := 80) rfl ?_); refine goesL_ (some 27) rfl rfl Try.func80 (by kernel_rfl) rfl #[.slice Ao9 x0_1.length co9, .int .i64 x7_1, .int .i64 a1, .func (.func 62) #[] #[]] rfl sa_ ?_; (with_reducible refine (api_Span_80.calls k1 (fun k_ => some k_ = (.slice Ao9 x0_1.length co9 : Value).ownBlock) (.slice Ao9 x0_1.length co9) x0_1 x7_1 a1  t149 w0 _ ?side1 ?side2 A8.out).mono ?_); (case side1 => repeat (first | (with_reducible first | exact HB.out | apply below_alloc | apply pw_below_drewN | apply below_drew1) | exact HB.out)); (case side2 => exact Kd.R_tight rfl HO_0.out); rintro e w10 ⟨rfl, hy0, hb, hkp⟩; refine ⟨_, rfl, ?_⟩; have n0_ := Aside0.mk (Kd.R_reok rfl hy0 (fun k_ e_ => HO_0.out.1 k_ e_)); have n1_ := Aside0.mk (Kept.then_ (S := (fun k_ => P0_ k_)) (by repeat (first | (with_reducible first | exact HK.out | apply Kept.alloc | apply Kept.drewN | apply Kept.drew) | exact HK.out)) hkp (fun k_ hs_ => (fun e_ => (HO_0.out.1 k_ e_.symm)) hs_)); have n2_ := Aside0.mk (hb); clear HO_0; clear HK; clear HB; have HO_0 := n0_; have HK := n1_; have HB := n2_; clear n0_ n1_ n2_; (try clear hb); (try clear hkp); (try clear hy0)))
    (try simp only [Act.put, List.setIfInBounds_toArray, List.set_cons_zero, List.set_cons_succ])
    go_loopg [6] k1 (fun kq v6 w' => ∃ (x0_2 : List (S41)) (x6_2 : Int), v6 = .int .i64 x6_2 ∧ Aside0 (api_Span_76.l1 kq x0_2 a1 x6_2 = some r) ∧ Aside0 (kq ≤ k1) ∧ Aside0 (Kd.R k41 41 w' w0.heap.size (fun k_ => (P0_ k_ ∨ w.heap.size ≤ k_)) (.slice Ao9 x0_1.length co9) x0_2) ∧ Aside0 (Kept w w' (fun k_ => P0_ k_)) ∧ Aside0 (Below w0.heap.size w0 w'))
    case atStart => exact ⟨(t149), (20), (by first | rfl | (simp; done) | (simp [*]; done)), H', ⟨Nat.le_refl _⟩, ⟨by exact HO_0.out⟩, ⟨by repeat (first | (with_reducible first | exact HK.out | apply Kept.alloc | apply Kept.drewN | apply Kept.drew) | exact HK.out)⟩, ⟨bl_⟩⟩
    case round =>
     clear H'; obtain ⟨x0_2, x6_2, rfl, HA, HK2, HO_0, HK, HB⟩ := hrel
     have hl0_2 := (Kd.R_reads' HO_0.out).1
     rw [hl0_2] at HO_0
     (try simp only [hl0_2])
     cases gk with
     | zero => exact absurd HA.out (by simp [api_Span_76.l1])
     | succ k2 =>
      have H := HA.out
      clear HA
      simp only [api_Span_76.l1] at H
      by_cases c11 : x6_2 < a1
      ·rw [if_pos c11] at H
       have c11b0 : decide (x6_2 < a1) = true := decide_eq_true c11
       clear c11; have H' := Aside0.mk H; clear H
       go_wp2
       (try simp only [Act.put, List.setIfInBounds_toArray, List.set_cons_zero, List.set_cons_succ])
       go_loopg [7, 8] k2 (fun kq v7 v8 w' => ∃ (x0_3 : List (S41)) (x7_3 : Int) (x8_3 : Int), v7 = .int .i64 x7_3 ∧ v8 = .int .i64 x8_3 ∧ Aside0 (api_Span_76.l2 kq x0_3 a1 x6_2 x7_3 x8_3 = some r) ∧ Aside0 (kq ≤ k2) ∧ Aside0 (Kd.R k41 41 w' w0.heap.size (fun k_ => (P0_ k_ ∨ w.heap.size ≤ k_)) (.slice Ao9 x0_2.length co9) x0_3) ∧ Aside0 (Kept w w' (fun k_ => P0_ k_)) ∧ Aside0 (Below w0.heap.size w0 w'))
       case atStart => exact ⟨(x0_2), (0), (wrap64 (2 * x6_2)), (by first | rfl | (simp; done) | (simp [*]; done)), (by first | rfl | (simp; done) | (simp [*]; done)), H', ⟨Nat.le_refl _⟩, ⟨by (try simp only [hl0_2]); (with_reducible repeat (first | apply Kd.R_alloc | apply Kd.R_drewN | apply Kd.R_drew)); exact HO_0.out⟩, ⟨by repeat (first | (with_reducible first | exact HK.out | apply Kept.alloc | apply Kept.drewN | apply Kept.drew) | exact HK.out)⟩, ⟨bl_⟩⟩
       case round =>
        clear H'; obtain ⟨x0_3, x7_3, x8_3, rfl, rfl, HA, HK3, HO_0, HK, HB⟩ := hrel
        have hl0_3 := (Kd.R_reads' HO_0.out).1
        rw [hl0_3] at HO_0
        (try simp only [hl0_3])
        cases gk with
        | zero => exact absurd HA.out (by simp [api_Span_76.l2])
        | succ k3 =>
         have H := HA.out
         clear HA
         simp only [api_Span_76.l2] at H
         by_cases c12 : x8_3 ≤ a1
         ·rw [if_pos c12] at H
          have c12b0 : decide (x8_3 ≤ a1) = true := decide_eq_true c12
          clear c12; replace H := Option.bind_eq_some_iff.mp H; obtain ⟨t150, A130, H⟩ := H
          replace H : (api_Span_76.l2 k3 t150 a1 x6_2 x8_3 (wrap64 (x8_3 + (wrap64 (2 * x6_2))))) = some r := H
          have A13 := Aside0.mk A130; clear A130; have H' := Aside0.mk H; clear H
          go_wp2_with (first | ((with_reducible refine gate_callee (f := 81) rfl ?_); refine goesL_ (some 43) rfl rfl Try.func81 (by kernel_rfl) rfl #[.slice Ao9 x0_3.length co9, .int .i64 x7_3, .int .i64 (wrap64 (x7_3 + x6_2)), .int .i64 x8_3, .func (.func 62) #[] #[]] rfl sa_ ?_; (with_reducible refine (api_Span_81.calls k3 (fun k_ => some k_ = (.slice Ao9 x0_3.length co9 : Value).ownBlock) (.slice Ao9 x0_3.length co9) x0_3 x7_3 (wrap64 (x7_3 + x6_2)) x8_3  t150 w0 _ ?side1 ?side2 A13.out).mono ?_); (case side1 => repeat (first | (with_reducible first | exact HB.out | apply below_alloc | apply pw_below_drewN | apply below_drew1) | exact HB.out)); (case side2 => exact Kd.R_tight rfl HO_0.out); rintro e w14 ⟨rfl, hy0, hb, hkp⟩; refine ⟨_, rfl, ?_⟩; have n0_ := Aside0.mk (Kd.R_reok rfl hy0 (fun k_ e_ => HO_0.out.1 k_ e_)); have n1_ := Aside0.mk (Kept.then_ (S := (fun k_ => P0_ k_)) (by repeat (first | (with_reducible first | exact HK.out | apply Kept.alloc | apply Kept.drewN | apply Kept.drew) | exact HK.out)) hkp (fun k_ hs_ => (fun e_ => (HO_0.out.1 k_ e_.symm)) hs_)); have n2_ := Aside0.mk (hb); clear HO_0; clear HK; clear HB; have HO_0 := n0_; have HK := n1_; have HB := n2_; clear n0_ n1_ n2_; (try clear hb); (try clear hkp); (try clear hy0)))
          (try simp only [← hl0_3])
          go_roundg k3
          case measure => have := HK1.out; have := HK2.out; have := HK3.out; omega
          case rel => exact ⟨(t150), (x8_3), (wrap64 (x8_3 + (wrap64 (2 * x6_2)))), (by first | rfl | (simp; done) | (simp [*]; done)), (by first | rfl | (simp; done) | (simp [*]; done)), H', ⟨by have := HK1.out; have := HK2.out; have := HK3.out; omega⟩, ⟨by (try simp only [hl0_2]); (try simp only [hl0_3]); (with_reducible repeat (first | apply Kd.R_alloc | apply Kd.R_drewN | apply Kd.R_drew)); exact HO_0.out⟩, ⟨by repeat (first | (with_reducible first | exact HK.out | apply Kept.alloc | apply Kept.drewN | apply Kept.drew) | exact HK.out)⟩, ⟨bl_⟩⟩
         ·rw [if_neg c12] at H
          have c12b0 : decide (x8_3 ≤ a1) = false := decide_eq_false c12
          clear c12
          by_cases c15 : (wrap64 (x7_3 + x6_2)) < a1
          ·rw [if_pos c15] at H
           have c15b0 : decide ((wrap64 (x7_3 + x6_2)) < a1) = true := decide_eq_true c15
           clear c15; replace H := Option.bind_eq_some_iff.mp H; obtain ⟨t151, A160, H⟩ := H
           replace H : (api_Span_76.l1 k3 t151 a1 (wrap64 (x6_2 * 2))) = some r := H
           have A16 := Aside0.mk A160; clear A160; have H' := Aside0.mk H; clear H
           go_wp2_with (first | ((with_reducible refine gate_callee (f := 81) rfl ?_); refine goesL_ (some 60) rfl rfl Try.func81 (by kernel_rfl) rfl #[.slice Ao9 x0_3.length co9, .int .i64 x7_3, .int .i64 (wrap64 (x7_3 + x6_2)), .int .i64 a1, .func (.func 62) #[] #[]] rfl sa_ ?_; (with_reducible refine (api_Span_81.calls k3 (fun k_ => some k_ = (.slice Ao9 x0_3.length co9 : Value).ownBlock) (.slice Ao9 x0_3.length co9) x0_3 x7_3 (wrap64 (x7_3 + x6_2)) a1  t151 w0 _ ?side1 ?side2 A16.out).mono ?_); (case side1 => repeat (first | (with_reducible first | exact HB.out | apply below_alloc | apply pw_below_drewN | apply below_drew1) | exact HB.out)); (case side2 => exact Kd.R_tight rfl HO_0.out); rintro e w17 ⟨rfl, hy0, hb, hkp⟩; refine ⟨_, rfl, ?_⟩; have n0_ := Aside0.mk (Kd.R_reok rfl hy0 (fun k_ e_ => HO_0.out.1 k_ e_)); have n1_ := Aside0.mk (Kept.then_ (S := (fun k_ => P0_ k_)) (by repeat (first | (with_reducible first | exact HK.out | apply Kept.alloc | apply Kept.drewN | apply Kept.drew) | exact HK.out)) hkp (fun k_ hs_ => (fun e_ => (HO_0.out.1 k_ e_.symm)) hs_)); have n2_ := Aside0.mk (hb); clear HO_0; clear HK; clear HB; have HO_0 := n0_; have HK := n1_; have HB := n2_; clear n0_ n1_ n2_; (try clear hb); (try clear hkp); (try clear hy0)))
           (try simp only [← hl0_2, ← hl0_3])
           go_roundg k3
           case measure => have := HK1.out; have := HK2.out; have := HK3.out; omega
           case rel => exact ⟨(t151), (wrap64 (x6_2 * 2)), (by first | rfl | (simp; done) | (simp [*]; done)), H', ⟨by have := HK1.out; have := HK2.out; have := HK3.out; omega⟩, ⟨by (try simp only [hl0_2]); (try simp only [hl0_3]); (with_reducible repeat (first | apply Kd.R_alloc | apply Kd.R_drewN | apply Kd.R_drew)); exact HO_0.out⟩, ⟨by repeat (first | (with_reducible first | exact HK.out | apply Kept.alloc | apply Kept.drewN | apply Kept.drew) | exact HK.out)⟩, ⟨bl_⟩⟩
          ·rw [if_neg c15] at H
           have c15b0 : decide ((wrap64 (x7_3 + x6_2)) < a1) = false := decide_eq_false c15
           clear c15; have H' := Aside0.mk H; clear H
           go_wp2
           (try simp only [← hl0_2, ← hl0_3])
           go_roundg k3
           case measure => have := HK1.out; have := HK2.out; have := HK3.out; omega
           case rel => exact ⟨(x0_3), (wrap64 (x6_2 * 2)), (by first | rfl | (simp; done) | (simp [*]; done)), H', ⟨by have := HK1.out; have := HK2.out; have := HK3.out; omega⟩, ⟨by (try simp only [hl0_2]); (try simp only [hl0_3]); (with_reducible repeat (first | apply Kd.R_alloc | apply Kd.R_drewN | apply Kd.R_drew)); exact HO_0.out⟩, ⟨by repeat (first | (with_reducible first | exact HK.out | apply Kept.alloc | apply Kept.drewN | apply Kept.drew) | exact HK.out)⟩, ⟨bl_⟩⟩
      ·rw [if_neg c11] at H
       have c11b0 : decide (x6_2 < a1) = false := decide_eq_false c11
       clear c11; obtain rfl := Option.some.inj H
       go_wp2
       first | go_end0 | ((try simp only [Exit.inBlock, Exit.then]); refine bodyPost_ret (results_none rfl _ _ _) rfl ?_)
       exact ⟨by first | rfl | (simp [errW_none, errW_some] <;> rfl) | (simp [*, errW_none, errW_some] <;> rfl), (by first | exact (by exact HO_0.out) | (simp only [hl0_2]; exact (by exact HO_0.out))), bl_, by repeat (first | (with_reducible first | exact HK.out | apply Kept.alloc | apply Kept.drewN | apply Kept.drew) | exact HK.out)⟩
def api_Span_61.f (k : Nat) (l0 : List (S41))  : Option ((List (S41))) := (api_Span_76.f k l0 (l0.length : Int)).bind fun t152 => (some t152)
set_option maxHeartbeats 8000000 in
set_option maxRecDepth 100000 in
theorem api_Span_61.calls (k : Nat) (P0_ : Nat → Prop) (u9000_ : Value) (l0 : List (S41))  (r : List (S41)) (w0 w : World) (hB : Below w0.heap.size w0 w) (ho0 : Kd.R k41 41 w w0.heap.size P0_ u9000_ l0) (h : api_Span_61.f k l0 = some r) :
  Calls Try.prog 61 #[u9000_, .func (.func 62) #[] #[]] w fun e w' => e = .returned (.tuple #[]) ∧ Kd.R k41 41 w' w0.heap.size (fun k_ => (P0_ k_ ∨ w.heap.size ≤ k_)) u9000_ r ∧ Below w0.heap.size w0 w' ∧ Kept w w' (fun k_ => P0_ k_) := by
 have HO0 := Aside0.mk (show Kd.R k41 41 w w0.heap.size (fun k_ => (P0_ k_ ∨ w.heap.size ≤ k_)) u9000_ l0 from Kd.R_mono ho0 (fun k_ hk => (.inl hk)))
 have HK := Aside0.mk (Kept.refl w (fun k_ => P0_ k_))
 have HW0 := Aside0.mk hB.size
 have HB := Aside0.mk hB; clear hB
 have H : ((api_Span_76.f k l0 (l0.length : Int)).bind fun t152 => (some t152)) = some r := h
 clear h; replace H := Option.bind_eq_some_iff.mp H; obtain ⟨t152, A30, H⟩ := H
 replace H : (some t152) = some r := H
 have A3 := Aside0.mk A30; clear A30; obtain rfl := Option.some.inj H; obtain ⟨Ao4, co4, eo4⟩ := Kd.R_slice HO0.out; subst eo4
 go_enter Try.func61, Try.ntmps61
 go_wp2_with (first | ((with_reducible refine gate_callee (f := 76) rfl ?_); refine goesL_ (some 8) rfl rfl Try.func76 (by kernel_rfl) rfl #[.slice Ao4 l0.length co4, .int .i64 (l0.length : Int), .func (.func 62) #[] #[]] rfl sa_ ?_; (with_reducible refine (api_Span_76.calls k (fun k_ => some k_ = (.slice Ao4 l0.length co4 : Value).ownBlock) (.slice Ao4 l0.length co4) l0 (l0.length : Int)  t152 w0 _ ?side1 ?side2 A3.out).mono ?_); (case side1 => repeat (first | (with_reducible first | exact HB.out | apply below_alloc | apply pw_below_drewN | apply below_drew1) | exact HB.out)); (case side2 => exact Kd.R_tight rfl HO0.out); rintro e w5 ⟨rfl, hy0, hb, hkp⟩; refine ⟨_, rfl, ?_⟩; have n0_ := Aside0.mk (Kd.R_reok rfl hy0 (fun k_ e_ => HO0.out.1 k_ e_)); have n1_ := Aside0.mk (Kept.then_ (S := (fun k_ => P0_ k_)) (by repeat (first | (with_reducible first | exact HK.out | apply Kept.alloc | apply Kept.drewN | apply Kept.drew) | exact HK.out)) hkp (fun k_ hs_ => (fun e_ => (HO0.out.1 k_ e_.symm)) hs_)); have n2_ := Aside0.mk (hb); clear HO0; clear HK; clear HB; have HO0 := n0_; have HK := n1_; have HB := n2_; clear n0_ n1_ n2_; (try clear hb); (try clear hkp); (try clear hy0)))
 first | go_end0 | ((try simp only [Exit.inBlock, Exit.then]); refine bodyPost_ret (results_none rfl _ _ _) rfl ?_)
 exact ⟨by first | rfl | (simp [errW_none, errW_some] <;> rfl) | (simp [*, errW_none, errW_some] <;> rfl), by exact HO0.out, bl_, by repeat (first | (with_reducible first | exact HK.out | apply Kept.alloc | apply Kept.drewN | apply Kept.drew) | exact HK.out)⟩
def rightB (x : S41) : Bool := (span_Right.f x.f0 x.f1).getD false
theorem rightB_eq (x : S41) : span_Right.f x.f0 x.f1 = some (rightB x) := by
 unfold rightB span_Right.f
 by_cases h : x.f1.toList = [] <;> simp only [h, if_true, if_false, Option.getD_some]
set_option maxHeartbeats 2000000 in
set_option maxRecDepth 100000 in
theorem keep60 (A : Option Addr) (c : Nat) (l : List S41) (q : Nat) (u0 : Value) (acc : List S41) (w0 w : World) (hr : Kd.C k41 w0 A l.length l) (hc : l.length ≤ c) (hB : Below w0.heap.size w0 w) (hq0 : w0.heap.size ≤ q) (hq : w.heap[q]? = some (.cells #[u0] 24 (0, 0))) (ho : Kd.R k41 41 w w0.heap.size (fun k_ => k_ ≠ q) u0 acc) (hl : acc.length + l.length < 4398046511104) :
  Calls Try.prog 60 #[.slice A l.length c, .pointer (some ⟨q, 0, none⟩)] w fun e w' => e = .returned (.tuple #[]) ∧ ∃ u' : Value, w'.heap[q]? = some (.cells #[u'] 24 (0, 0)) ∧ Kd.R k41 41 w' w0.heap.size (fun k_ => k_ ≠ q) u' (acc ++ l.filter rightB) ∧ Below w0.heap.size w0 w' := by
 have hu41 := Try.underlying41
 have hm : l.length ≤ 9223372036854775807 := hr.2.1
 have HR := Aside0.mk hr; have HC := Aside0.mk hc; have HL := Aside0.mk hl; have HQ0 := Aside0.mk hq0; have HB0 := Aside0.mk hB; have HQ := Aside0.mk hq; have HO := Aside0.mk ho; clear hr hc hB hq0 hq ho hl
 go_enter Try.func60, Try.ntmps60
 go_wp2
 go_loopw [7] (fun i wr => ∃ (k : Nat) (u : Value), i = .int .i64 k ∧ k ≤ l.length ∧ Aside0 (wr.heap[q]? = some (.cells #[u] 24 (0, 0))) ∧ Aside0 (Kd.R k41 41 wr w0.heap.size (fun k_ => k_ ≠ q) u (acc ++ (l.take k).filter rightB)) ∧ Aside0 (Below w0.heap.size w0 wr)) (fun i _ => l.length - (intOf i).toNat)
 case atStart => exact ⟨0, u0, rfl, Nat.zero_le _, HQ, ⟨by simpa using HO.out⟩, HB0⟩
 case round =>
  clear HQ HO HB0; obtain ⟨k, u, rfl, hk, HQ, HO, HB⟩ := hrel
  by_cases hlt : k < l.length
  ·obtain ⟨ad, e, hx0, hx1⟩ := at_T41 (Kd.C_below HR.out HB.out) (k : Int) (by omega) (by omega)
   subst e
   simp only [Int.toNat_natCast] at hx0 hx1
   have HE := Aside0.mk (show acc ++ (l.take (k + 1)).filter rightB = (acc ++ (l.take k).filter rightB) ++ (if rightB (rd_T41 l (k : Int)) then [rd_T41 l (k : Int)] else []) by
    rw [List.take_succ_eq_append_getElem hlt, List.filter_append, List.append_assoc]
    simp [rd_T41, List.getD_eq_getElem?_getD, hlt, List.filter_cons])
   have HK := Aside0.mk (show (acc ++ (l.take k).filter rightB).length < 4398046511104 by
    have h1 := List.length_filter_le rightB (l.take k); have h2 := List.length_take_le k l; have := HL.out
    rw [List.length_append]; omega)
   cases hpx : rightB (rd_T41 l (k : Int)) with
   | true =>
    have HPX := Aside0.mk hpx; clear hpx
    go_wp2_with (first | ((with_reducible refine gate_dst (N := 4) rfl ?_); refine box_event ?hg (N := 4) ?hd (cs := #[.string (⟨#[]⟩ : ByteArray), .string (⟨#[]⟩ : ByteArray)]) (t := 41) ?hr ?_; (case hd => rfl); (case hg => rfl); (case hr => first | (go_simp; done) | (go_simp; rfl)); intro gb hg w8 hbox hb; have n0_ := Aside0.mk (Kd.R_below (Kd.R_elderB HO.out gb (Nat.le_of_eq hg.symm)) hb); have n1_ := Aside0.mk (below_step HB.out hb); have n2_ := Aside0.mk (blk_below HQ.out hb); have n3_ := Aside0.mk (show q ≠ gb by have := blk_lt HQ.out; omega); have n4_ := Aside0.mk (show w0.heap.size ≤ gb by rw [hg]; exact below_size HB.out); clear HO HB HQ; have HO := n0_; have HB := n1_; have HQ := n2_; have HN := n3_; have GE := n4_; have BK := Aside0.mk hbox; clear n0_ n1_ n2_ n3_ n4_ hb hg hbox; have hcz0 := (blk_cell BK.out 0); have hcz1 := (blk_cell BK.out 1); have hfz0 := blk_frozen BK.out 0; have hfz1 := blk_frozen BK.out 1) | (go_at_call 30; (with_reducible refine (span_Right.calls _ _ true _ ?side).mono ?_); (case side => rw [rightB_eq, HPX.out]); rintro e w10 ⟨rfl, hb⟩; have n0_ := Aside0.mk (Kd.R_below (Kd.R_far (p := ⟨gb, 1, none⟩) (Kd.R_far (p := ⟨gb, 0, none⟩) HO.out (fun _ h_ => h_.2) (.string (rd_T41 l (k : Int)).f0)) (fun _ h_ => h_.2) (.string (rd_T41 l (k : Int)).f1)) hb); have n1_ := Aside0.mk (below_step (below_set (below_set HB.out GE.out) GE.out) hb); have n2_ := Aside0.mk (blk_below ((Below.heap_setCell _ _ _ _ HN.out).trans ((Below.heap_setCell _ _ _ _ HN.out).trans HQ.out)) hb); have n3_ := Aside0.mk (blk_below (blk_put (cs := #[.string ((rd_T41 l (k : Int)).f0), .string (⟨#[]⟩ : ByteArray)]) (cs' := #[.string ((rd_T41 l (k : Int)).f0), .string ((rd_T41 l (k : Int)).f1)]) (blk_put (cs := #[.string (⟨#[]⟩ : ByteArray), .string (⟨#[]⟩ : ByteArray)]) BK.out 0 _ rfl) 1 _ rfl) hb); clear HO HB HQ BK; have HO := n0_; have HB := n1_; have HQ := n2_; have BK := n3_; clear n0_ n1_ n2_ n3_ hb; have hcy0 := (blk_cell BK.out 0); have hcy1 := (blk_cell BK.out 1); have hfy0 := blk_frozen BK.out 0; have hfy1 := blk_frozen BK.out 1; have hcq := blk_cell HQ.out 0; have hfq := blk_frozen HQ.out 0) | ((with_reducible refine gate_builtin (b := .append) (xs := #[.tmp 13, .tmp 15]) rfl ?_); at_builtin; refine Kd.R_append k41 (w0 := w0) w0.heap.size rfl (.tmp 13) (.tmp 15) 24 41 (.agg #[(.string ⟨#[]⟩), (.string ⟨#[]⟩)]) 32 rfl Try.underlying24 info41 rfl (by decide) (by omega) u (acc ++ (l.take k).filter rightB) (⟨(rd_T41 l (k : Int)).f0, (rd_T41 l (k : Int)).f1⟩ : S41) [.string ((rd_T41 l (k : Int)).f0), .string ((rd_T41 l (k : Int)).f1)] (fun k_ => k_ ≠ q ∧ k_ ≠ gb) (fun _ => False) rfl rfl ?aP (fun _ hk => hk.elim) ?aF HO.out HB.out ?aS ?aL ?_; (case aP => exact k41_mkM _ _ _ (⟨(rd_T41 l (k : Int)).f0, (rd_T41 l (k : Int)).f1⟩ : S41)); (case aF => exact (fun k_ hk => ⟨Kd.freshB HQ.out k_ hk, Kd.freshB BK.out k_ hk⟩)); (case aS => exact HB.out.size); (case aL => have := HK.out; omega); intro v1 w12 ho hb hg hat; obtain ⟨A1_, c1_, ev_⟩ := Kd.R_slice ho; subst ev_; have n0_ := Aside0.mk (Kd.R_drop ho); have n2_ := Aside0.mk (blk_grown HQ.out hg (Kd.R_away HO.out (fun _ hk => hk.1))); clear HO HB HQ BK; have HO := n0_; have HB := Aside0.mk hb; have HQ := n2_; clear n0_ n2_ ho hb hg hat; have hcq := blk_cell HQ.out 0; have hfq := blk_frozen HQ.out 0))
    go_roundw
    case measure => simp [intOf]; omega
    case rel => exact ⟨k + 1, _, by go_num, by omega, ⟨blk_put HQ.out 0 _ rfl⟩, ⟨by rw [HE.out, HPX.out]; have h_ := Kd.R_far (p := ⟨q, 0, none⟩) HO.out (fun _ h_ => h_) (Value.slice A1_ (acc.length + ((List.filter rightB (List.take k l)).length + 1)) c1_); simpa [Nat.add_assoc] using h_⟩, ⟨HB.out.setCell HQ0.out _⟩⟩
   | false =>
    have HPX := Aside0.mk hpx; clear hpx
    go_wp2_with (first | ((with_reducible refine gate_dst (N := 4) rfl ?_); refine box_event ?hg (N := 4) ?hd (cs := #[.string (⟨#[]⟩ : ByteArray), .string (⟨#[]⟩ : ByteArray)]) (t := 41) ?hr ?_; (case hd => rfl); (case hg => rfl); (case hr => first | (go_simp; done) | (go_simp; rfl)); intro gb hg w8 hbox hb; have n0_ := Aside0.mk (Kd.R_below (Kd.R_elderB HO.out gb (Nat.le_of_eq hg.symm)) hb); have n1_ := Aside0.mk (below_step HB.out hb); have n2_ := Aside0.mk (blk_below HQ.out hb); have n3_ := Aside0.mk (show q ≠ gb by have := blk_lt HQ.out; omega); have n4_ := Aside0.mk (show w0.heap.size ≤ gb by rw [hg]; exact below_size HB.out); clear HO HB HQ; have HO := n0_; have HB := n1_; have HQ := n2_; have HN := n3_; have GE := n4_; have BK := Aside0.mk hbox; clear n0_ n1_ n2_ n3_ n4_ hb hg hbox; have hcz0 := (blk_cell BK.out 0); have hcz1 := (blk_cell BK.out 1); have hfz0 := blk_frozen BK.out 0; have hfz1 := blk_frozen BK.out 1) | (go_at_call 30; (with_reducible refine (span_Right.calls _ _ false _ ?side).mono ?_); (case side => rw [rightB_eq, HPX.out]); rintro e w10 ⟨rfl, hb⟩; have n0_ := Aside0.mk (Kd.R_below (Kd.R_far (p := ⟨gb, 1, none⟩) (Kd.R_far (p := ⟨gb, 0, none⟩) HO.out (fun _ h_ => h_.2) (.string (rd_T41 l (k : Int)).f0)) (fun _ h_ => h_.2) (.string (rd_T41 l (k : Int)).f1)) hb); have n1_ := Aside0.mk (below_step (below_set (below_set HB.out GE.out) GE.out) hb); have n2_ := Aside0.mk (blk_below ((Below.heap_setCell _ _ _ _ HN.out).trans ((Below.heap_setCell _ _ _ _ HN.out).trans HQ.out)) hb); clear HO HB HQ BK; have HO := n0_; have HB := n1_; have HQ := n2_; clear n0_ n1_ n2_ hb))
    go_roundw
    case measure => simp [intOf]; omega
    case rel => exact ⟨k + 1, u, by go_num, by omega, HQ, ⟨by rw [HE.out, HPX.out]; simpa using Kd.R_drop HO.out⟩, HB⟩
  ·have hkl : k = l.length := by omega
   have HO2 := Aside0.mk (show Kd.R k41 41 wr w0.heap.size (fun k_ => k_ ≠ q) u (acc ++ l.filter rightB) by have := HO.out; rwa [hkl, List.take_length] at this)
   clear hkl HO
   go_wp2
   first | go_end0 | ((try simp only [Exit.inBlock, Exit.then]); refine bodyPost_ret (results_none rfl _ _ _) rfl ?_)
   exact ⟨rfl, u, HQ.out, HO2.out, HB.out⟩
theorem store_hi {W : World} {base n c : Nat} {ok : Nat → Prop} {ad : Addr} {out : List S41} (h : Kd.R k41 41 W base ok (.slice (some ad) n c) out) (j : Int) (h0 : 0 ≤ j) (h1 : j < out.length) (b : ByteArray) :
  W.frozen? ⟨(ad.add (j.toNat * 2)).block, (ad.add (j.toNat * 2)).off + 1, none⟩ = false ∧
  Kd.R k41 41 (W.setCell ⟨(ad.add (j.toNat * 2)).block, (ad.add (j.toNat * 2)).off + 1, none⟩ (.string b)) base ok (.slice (some ad) n c) (out.set j.toNat ⟨(rd_T41 out j).f0, b⟩) ∧
  W.grownBy (W.setCell ⟨(ad.add (j.toNat * 2)).block, (ad.add (j.toNat * 2)).off + 1, none⟩ (.string b)) (Value.slice (some ad) n c).ownBlock ∧ base ≤ (ad.add (j.toNat * 2)).block := by
 obtain ⟨g, cap, e, hb, _⟩ := Kd.R_form h (by omega)
 injection e with e1 e2 e3
 injection e1 with e1
 subst e1; subst e2; subst e3; obtain ⟨cl, hcl, hM, hcc, hfz⟩ := Kd.R_elem h z41 j h0 h1
 have hc := k41_openM hM
 obtain ⟨hR, hg⟩ := Kd.R_seg (x' := (⟨(rd_T41 out j).f0, b⟩ : S41)) (okp := fun k_ => ok k_ ∧ k_ ≠ g) (seg := [.string b]) (j := 1) h j h0 h1 hcl hcc (Nat.le_refl 2) (by rw [hc]; exact k41_mkM _ _ _ (⟨(rd_T41 out j).f0, b⟩ : S41)) (fun _ hk => hk)
 have e4 : (Addr.mk g 0 none).add (j.toNat * 2) = ⟨g, j.toNat * 2, none⟩ := by unfold Addr.add; split <;> simp_all
 rw [e4]
 exact ⟨hfz 1, hR, hg, hb⟩
def mstep (out : List S41) (s : S41) : List S41 :=
 if out = [] then [s]
 else if (rd_T41 out ((out.length : Int) - 1)).f1.toList ≠ [] ∧ Op.bytesLess (rd_T41 out ((out.length : Int) - 1)).f1.toList s.f0.toList = true then out ++ [s]
 else if (rd_T41 out ((out.length : Int) - 1)).f1.toList ≠ [] ∧ (s.f1.toList = [] ∨ Op.bytesLess (rd_T41 out ((out.length : Int) - 1)).f1.toList s.f1.toList = true) then out.set ((out.length : Int) - 1).toNat ⟨(rd_T41 out ((out.length : Int) - 1)).f0, s.f1⟩
 else out
theorem mstep_len (out : List S41) (s : S41) : (mstep out s).length ≤ out.length + 1 := by
 unfold mstep
 split
 ·simp
 ·split
  ·simp
  ·split
   ·simp
   ·omega
theorem mfold_len (s : List S41) : ∀ out : List S41, (s.foldl mstep out).length ≤ out.length + s.length := by
 induction s with
 | nil => intro out; simp
 | cons x t ih => intro out; have h1 := ih (mstep out x); have h2 := mstep_len out x; rw [List.foldl_cons, List.length_cons]; omega
def span_Join.f (k : Nat) (l0 l1 : List S41) : Option (List S41) :=
 if l0.length + l1.length < 4398046511104 then (api_Span_61.f k ((l0 ++ l1).filter rightB)).bind fun s => if s.length < 4398046511104 then some (s.foldl mstep []) else none
 else none
set_option maxHeartbeats 4000000 in
set_option maxRecDepth 100000 in
theorem span_Join.calls (k : Nat) (A0 : Option Addr) (c0 : Nat) (l0 : List S41) (A1 : Option Addr) (c1 : Nat) (l1 : List S41) (r : List S41) (w : World) (hr0 : Kd.C k41 w A0 l0.length l0) (hc0 : l0.length ≤ c0) (hr1 : Kd.C k41 w A1 l1.length l1) (hc1 : l1.length ≤ c1) (h : span_Join.f k l0 l1 = some r) :
  Calls Try.prog 27 #[.slice A0 l0.length c0, .slice A1 l1.length c1] w fun e w' => ∃ v0_ : Value, e = .returned (v0_) ∧ Kd.R k41 41 w' w.heap.size (fun _ => True) v0_ r ∧ Below w.heap.size w w' := by
 have hu41 := Try.underlying41
 unfold span_Join.f at h
 by_cases hl : l0.length + l1.length < 4398046511104
 ·rw [if_pos hl] at h
  obtain ⟨s, hs, h⟩ := Option.bind_eq_some_iff.1 h
  by_cases hsl : s.length < 4398046511104
  ·rw [if_pos hsl] at h
   obtain rfl := Option.some.inj h; have HSL := Aside0.mk hsl; have HL := Aside0.mk hl; have HR0 := Aside0.mk hr0; have HC0 := Aside0.mk hc0; have HR1 := Aside0.mk hr1; have HC1 := Aside0.mk hc1
   have HB := Aside0.mk (Below.refl w.heap.size w)
   rw [List.filter_append] at hs
   have HS := Aside0.mk hs; clear hr0 hc0 hr1 hc1 h hs
   go_enter Try.func27, Try.ntmps27
   go_wp2_with (first | ((with_reducible refine gate_dst (N := 17) rfl ?_); refine Kd.R_makec k41 (w0 := w) w.heap.size 41 rfl rfl 24 _ _ rfl ((l0.length : Int) + (l1.length : Int)) ?mx ?my Try.underlying24 (.agg #[(.string ⟨#[]⟩), (.string ⟨#[]⟩)]) 32 info41 rfl (by decide) (by omega) z41 (ok := fun _ => True) (okp := fun _ => False) ?mz (fun _ hk => hk.elim) trivial ?m0 ?ml HB.out (Nat.le_refl _) ?_; (case mx => first | rfl | (go_simp; done) | (go_simp; rfl)); (case my => first | rfl | (go_simp; done) | (go_simp; rfl)); (case mz => exact k41_mkM _ _ _ z41); (case m0 => omega); (case ml => omega); intro v1 w1 ho hb hg hat; obtain ⟨Am_, cm_, em_⟩ := Kd.R_slice ho; subst em_; clear HB; have HB := Aside0.mk hb; have HO := Aside0.mk ho; clear ho hb hg hat) | ((with_reducible refine gate_dst (N := 5) rfl ?_); refine box_event ?hg (N := 5) ?hd (cs := #[.slice none 0 0]) (t := 24) ?hr ?_; (case hd => rfl); (case hg => rfl); (case hr => first | (go_simp; done) | (go_simp; rfl)); intro gb hg w2 hbox hb; have n0_ := Aside0.mk (Kd.R_below (Kd.R_elderB HO.out gb (Nat.le_of_eq hg.symm)) hb); have n1_ := Aside0.mk (below_step HB.out hb); have n4_ := Aside0.mk (show w.heap.size ≤ gb by rw [hg]; exact below_size HB.out); clear HO HB; have HO := n0_; have HB := n1_; have GE := n4_; have BK := Aside0.mk hbox; clear n0_ n1_ n4_ hb hg hbox; have hcz0 := (blk_cell BK.out 0); have hfz0 := blk_frozen BK.out 0) | (go_at_call 60; (refine (keep60 A0 c0 l0 gb _ [] w _ HR0.out HC0.out (HB.out.setCell GE.out _) GE.out (blk_put BK.out 0 _ rfl) (Kd.R_mono (Kd.R_far (p := ⟨gb, 0, none⟩) HO.out (fun _ h_ => h_.2) _) (fun _ h_ => h_.2)) ?l1).mono ?_); (case l1 => have := HL.out; rw [List.length_nil]; omega); rintro e w3 ⟨rfl, u3, hq3, ho3, hb3⟩; rw [List.nil_append] at ho3; obtain ⟨A3_, c3_, e3_⟩ := Kd.R_slice ho3; subst e3_; clear HO HB BK; have HO := Aside0.mk ho3; have HB := Aside0.mk hb3; have BK := Aside0.mk hq3; clear ho3 hb3 hq3) | (go_at_call 60; (refine (keep60 A1 c1 l1 gb _ (l0.filter rightB) w _ HR1.out HC1.out HB.out GE.out BK.out HO.out ?l1).mono ?_); (case l1 => have := HL.out; have := List.length_filter_le rightB l0; omega); rintro e w4 ⟨rfl, u4, hq4, ho4, hb4⟩; obtain ⟨L_, hL_⟩ : ∃ L, List.filter rightB l0 ++ List.filter rightB l1 = L := ⟨_, rfl⟩; rw [hL_] at ho4; have HS1 := Aside0.mk (show api_Span_61.f k L_ = some s by rw [← hL_]; exact HS.out); clear hL_; obtain ⟨A4_, c4_, e4_⟩ := Kd.R_slice ho4; subst e4_; clear HO HB BK; have HO := Aside0.mk ho4; have HB := Aside0.mk hb4; have BK := Aside0.mk hq4; clear ho4 hb4 hq4; have hcy0 := (blk_cell BK.out 0)) | (go_at_call 61; (refine (api_Span_61.calls k (fun k_ => k_ ≠ gb) _ _ s w _ HB.out HO.out HS1.out).mono ?_); rintro e w5 ⟨rfl, ho5, hb5, hk5⟩; have n1_ := Aside0.mk (blk_kept BK.out hk5 (fun h_ => h_ rfl)); clear HO HB BK; have HO := Aside0.mk (Kd.R_mono (ok' := fun _ => True) ho5 (fun _ _ => trivial)); have HB := Aside0.mk hb5; have BK := n1_; clear n1_ ho5 hb5 hk5; have hcx0 := (blk_cell BK.out 0)))
   have eL : L_.length = s.length := (Kd.R_reads' HO.out).1
   have HOA0 := Aside0.mk (Kd.R_mono (ok' := fun k_ => True ∧ some k_ ≠ (Value.slice none 0 0).ownBlock) (show Kd.R k41 41 w5 w.heap.size (fun _ => True) (.slice A4_ s.length c4_) s by rw [← eL]; exact HO.out) (fun k_ _ => ⟨trivial, by simp [Value.ownBlock]⟩))
   rw [eL]
   have hsm : s.length ≤ 9223372036854775807 := by have := HSL.out; omega
   clear HO BK HS HS1 eL hcx0 hcy0
   try clear hcz0 hfz0
   go_loopw [7, 29] (fun v7 v29 wr => ∃ (k1 : Nat) (v : Value), v7 = v ∧ v29 = .int .i64 k1 ∧ k1 ≤ s.length ∧ Aside0 (Kd.R k41 41 wr w.heap.size (fun _ => True) v ((s.take k1).foldl mstep [])) ∧ Aside0 (Kd.R k41 41 wr w.heap.size (fun k_ => True ∧ some k_ ≠ v.ownBlock) (.slice A4_ s.length c4_) s) ∧ Aside0 (Below w.heap.size w wr)) (fun _ v29 _ => s.length - (intOf v29).toNat)
   case atStart => exact ⟨0, _, rfl, rfl, Nat.zero_le _, ⟨Kd.R_nil _ _ _ _ _⟩, HOA0, HB⟩
   case round =>
    clear HOA0 HB; obtain ⟨k1, v, rfl, rfl, hk, HO0, HOA, HB⟩ := hrel
    by_cases hlt : k1 < s.length
    ·obtain ⟨out, hout⟩ : ∃ o, (s.take k1).foldl mstep [] = o := ⟨_, rfl⟩
     have hol : out.length ≤ k1 := by rw [← hout]; have h1 := mfold_len (s.take k1) []; have h2 := List.length_take_le k1 s; simp only [List.length_nil] at h1; omega
     have ho_ := HO0.out
     rw [hout] at ho_
     obtain ⟨A2_, c2_, ev_⟩ := Kd.R_slice ho_; subst ev_; have HO := Aside0.mk ho_; clear HO0 ho_
     obtain ⟨ad, e, hx0, hx1⟩ := at_T41 (Kd.R_reads' HOA.out).2.2 (k1 : Int) (by omega) (by omega)
     subst e
     simp only [Int.toNat_natCast] at hx0 hx1
     have HE := Aside0.mk (show (s.take (k1 + 1)).foldl mstep [] = mstep out (rd_T41 s (k1 : Int)) by rw [List.take_succ_eq_append_getElem hlt, List.foldl_append, hout]; simp [rd_T41, List.getD_eq_getElem?_getD, hlt])
     obtain ⟨x, hx⟩ : ∃ x, rd_T41 s (k1 : Int) = x := ⟨_, rfl⟩
     have HE2 := Aside0.mk (show (s.take (k1 + 1)).foldl mstep [] = mstep out x by rw [← hx]; exact HE.out)
     rw [hx] at hx0 hx1
     clear HE hx hout
     go_wp2_with (first | ((with_reducible refine gate_dst (N := 9) rfl ?_); refine box_event ?hg (N := 9) ?hd (cs := #[.string (⟨#[]⟩ : ByteArray), .string (⟨#[]⟩ : ByteArray)]) (t := 41) ?hr ?_; (case hd => rfl); (case hg => rfl); (case hr => first | (go_simp; done) | (go_simp; rfl)); intro gc hg w8 hbox hb; have n0_ := Aside0.mk (Kd.R_below (Kd.R_elderB HO.out gc (Nat.le_of_eq hg.symm)) hb); have n1_ := Aside0.mk (Kd.R_below (Kd.R_elderB HOA.out gc (Nat.le_of_eq hg.symm)) hb); have n2_ := Aside0.mk (below_step HB.out hb); have n4_ := Aside0.mk (show w.heap.size ≤ gc by rw [hg]; exact below_size HB.out); clear HO HOA HB; have HO := n0_; have HOA := n1_; have HB := n2_; have GC := n4_; have BC := Aside0.mk hbox; clear n0_ n1_ n2_ n4_ hb hg hbox; have hcv0 := (blk_cell BC.out 0); have hcv1 := (blk_cell BC.out 1); have hfv0 := blk_frozen BC.out 0; have hfv1 := blk_frozen BC.out 1))
     have h3 := Kd.R_mono (ok' := fun _ => True) (Kd.R_far (p := ⟨gc, 1, none⟩) (Kd.R_far (p := ⟨gc, 0, none⟩) HO.out (fun _ h_ => h_.2) (.string x.f0)) (fun _ h_ => h_.2) (.string x.f1)) (fun _ _ => trivial)
     have h4 := Kd.R_mono (ok' := fun k_ => True ∧ some k_ ≠ (Value.slice A2_ out.length c2_).ownBlock) (Kd.R_far (p := ⟨gc, 1, none⟩) (Kd.R_far (p := ⟨gc, 0, none⟩) HOA.out (fun _ h_ => h_.2) (.string x.f0)) (fun _ h_ => h_.2) (.string x.f1)) (fun _ h_ => h_.1)
     have h5 := below_set (v := .string x.f1) (j := 1) (below_set (v := .string x.f0) (j := 0) HB.out GC.out) GC.out
     have h6 := blk_put (cs := #[.string x.f0, .string (⟨#[]⟩ : ByteArray)]) (cs' := #[.string x.f0, .string x.f1]) (blk_put (cs := #[.string (⟨#[]⟩ : ByteArray), .string (⟨#[]⟩ : ByteArray)]) BC.out 0 (.string x.f0) rfl) 1 (.string x.f1) rfl
     obtain ⟨W, hW⟩ : ∃ W, (w8.setCell ⟨gc, 0, none⟩ (.string x.f0)).setCell ⟨gc, 1, none⟩ (.string x.f1) = W := ⟨_, rfl⟩
     rw [hW] at h3 h4 h5 h6
     rw [hW]
     clear hW HO HOA HB BC hcv0 hcv1 hfv0 hfv1 hx0 hx1; have HO := Aside0.mk h3; have HOA := Aside0.mk h4; have HB := Aside0.mk h5
     have hcs0 : W.cell? ⟨gc, 0, none⟩ = some (.string x.f0) := (blk_cell h6 0).trans rfl
     have hcs1 : W.cell? ⟨gc, 1, none⟩ = some (.string x.f1) := (blk_cell h6 1).trans rfl
     clear h3 h4 h5 h6
     by_cases hn : out = []
     ·subst hn
      go_quiet (fail)
      go_wp2_with (first | ((with_reducible refine gate_builtin (b := .append) (xs := #[.tmp 57, .tmp 59]) rfl ?_); at_builtin; refine Kd.R_append k41 (w0 := w) w.heap.size rfl (.tmp 57) (.tmp 59) 24 41 (.agg #[(.string ⟨#[]⟩), (.string ⟨#[]⟩)]) 32 rfl Try.underlying24 info41 rfl (by decide) (by omega) _ ([] : List S41) (⟨x.f0, x.f1⟩ : S41) [.string x.f0, .string x.f1] (fun _ => True) (fun _ => False) rfl rfl ?aP (fun _ hk => hk.elim) (fun _ _ => trivial) (Kd.R_drewN HO.out _) (pw_below_drewN HB.out _) (pw_below_drewN HB.out _).size ?aL ?_; (case aP => exact k41_mkM _ _ _ (⟨x.f0, x.f1⟩ : S41)); (case aL => have := HSL.out; first | omega | (rw [List.length_nil]; omega)); intro v1 w12 ho hb hg hat; have n1_ := Aside0.mk (Kd.R_after (Kd.R_drewN HOA.out _) hg hat); clear HO HOA HB; have HO := Aside0.mk ho; have HOA := n1_; have HB := Aside0.mk hb; clear ho hb hg hat))
      go_roundw
      case measure => simp [intOf]; omega
      case rel => exact ⟨k1 + 1, _, rfl, by go_num, by omega, ⟨by rw [HE2.out, show mstep [] x = [] ++ [(⟨x.f0, x.f1⟩ : S41)] by unfold mstep; rw [if_pos rfl]; rfl]; exact HO.out⟩, HOA, HB⟩
     ·have hpos : 0 < out.length := List.length_pos_iff.2 hn
      obtain ⟨j, hj⟩ : ∃ j : Int, (out.length : Int) - 1 = j := ⟨_, rfl⟩
      have hjw : IntKind.i64.wrap ((out.length : Int) - 1) = j := by rw [i64_w, ← hj]; unfold wrap64; omega
      have hj0 : 0 ≤ j := by omega
      have hj1 : j < (out.length : Int) := by omega
      have hn0 : ((out.length : Int) == 0) = false := by simp; omega
      obtain ⟨ad2, e2, hy0, hy1⟩ := at_T41 (Kd.R_reads' HO.out).2.2 j hj0 hj1
      subst e2; obtain ⟨hfz, hSt, hGr, hBb⟩ := store_hi HO.out j hj0 hj1 x.f1
      obtain ⟨t, ht⟩ : ∃ t, rd_T41 out j = t := ⟨_, rfl⟩
      have HMS := Aside0.mk (show mstep out x = if t.f1.toList ≠ [] ∧ Op.bytesLess t.f1.toList x.f0.toList = true then out ++ [x] else if t.f1.toList ≠ [] ∧ (x.f1.toList = [] ∨ Op.bytesLess t.f1.toList x.f1.toList = true) then out.set j.toNat ⟨t.f0, x.f1⟩ else out by unfold mstep; rw [if_neg hn, hj, ht])
      have HT := Aside0.mk ht
      rw [ht] at hy0 hy1
      have HBb := Aside0.mk hBb; clear hSt hGr hBb ht hj hn
      have hj0' := eq_true hj0
      have hj1' := eq_true hj1
      by_cases c1 : t.f1.toList = ([] : List UInt8)
      ·have c1b0 : (t.f1.toList == ([] : List UInt8)) = true := beq_iff_eq.mpr c1
       have c1b1 : (t.f1.toList != ([] : List UInt8)) = false := bne_eq_false_iff_eq.mpr c1
       have HC1 := Aside0.mk c1; clear c1
       go_quiet (fail)
       go_wp2
       go_quiet (fail)
       try go_wp2
       go_roundw
       case measure => simp [intOf]; omega
       case rel => exact ⟨k1 + 1, _, rfl, by go_num, by omega, ⟨by rw [HE2.out, HMS.out, if_neg (fun h => h.1 HC1.out), if_neg (fun h => h.1 HC1.out)]; exact (by exact HO.out)⟩, ⟨(by exact HOA.out)⟩, ⟨(by repeat (first | exact HB.out | apply pw_below_drewN | apply below_drew1))⟩⟩
      ·have c1b0 : (t.f1.toList == ([] : List UInt8)) = false := beq_eq_false_iff_ne.mpr c1
       have c1b1 : (t.f1.toList != ([] : List UInt8)) = true := bne_iff_ne.mpr c1
       have HC1 := Aside0.mk c1; clear c1
       cases c2 : Op.bytesLess t.f1.toList x.f0.toList with
       | true =>
        go_quiet (fail)
        go_wp2_with (first | ((with_reducible refine gate_builtin (b := .append) (xs := #[.tmp 57, .tmp 59]) rfl ?_); at_builtin; refine Kd.R_append k41 (w0 := w) w.heap.size rfl (.tmp 57) (.tmp 59) 24 41 (.agg #[(.string ⟨#[]⟩), (.string ⟨#[]⟩)]) 32 rfl Try.underlying24 info41 rfl (by decide) (by omega) _ out (⟨x.f0, x.f1⟩ : S41) [.string x.f0, .string x.f1] (fun _ => True) (fun _ => False) rfl rfl ?aP (fun _ hk => hk.elim) (fun _ _ => trivial) (Kd.R_drewN HO.out _) (pw_below_drewN HB.out _) (pw_below_drewN HB.out _).size ?aL ?_; (case aP => exact k41_mkM _ _ _ (⟨x.f0, x.f1⟩ : S41)); (case aL => have := HSL.out; first | omega | (rw [List.length_nil]; omega)); intro v1 w12 ho hb hg hat; have n1_ := Aside0.mk (Kd.R_after (Kd.R_drewN HOA.out _) hg hat); clear HO HOA HB; have HO := Aside0.mk ho; have HOA := n1_; have HB := Aside0.mk hb; clear ho hb hg hat))
        go_roundw
        case measure => simp [intOf]; omega
        case rel => exact ⟨k1 + 1, _, rfl, by go_num, by omega, ⟨by rw [HE2.out, HMS.out, if_pos ⟨HC1.out, c2⟩]; exact HO.out⟩, HOA, HB⟩
       | false =>
        by_cases c3 : x.f1.toList = ([] : List UInt8)
        ·have c3b0 : (x.f1.toList == ([] : List UInt8)) = true := beq_iff_eq.mpr c3
         have c3b1 : (x.f1.toList != ([] : List UInt8)) = false := bne_eq_false_iff_eq.mpr c3
         have HC3 := Aside0.mk c3; have HC2 := Aside0.mk c2; clear c3
         go_quiet (fail)
         go_wp2
         go_quiet (fail)
         try go_wp2
         go_roundw
         case measure => simp [intOf]; omega
         case rel => exact ⟨k1 + 1, _, rfl, by go_num, by omega, ⟨by rw [HE2.out, HMS.out, if_neg (fun h => by rw [HC2.out] at h; exact absurd h.2 (by decide)), if_pos ⟨HC1.out, .inl HC3.out⟩]; have h_ := fun W_ hW_ => (store_hi (W := W_) (ok := fun _ => True) (base := w.heap.size) (n := out.length) (c := c2_) (ad := ad2) (out := out) hW_ j hj0 hj1 x.f1).2.1; rw [HT.out] at h_; exact h_ _ (by exact HO.out)⟩, ⟨Kd.R_grown (by exact HOA.out) (store_hi (by exact HO.out) j hj0 hj1 x.f1).2.2.1 (fun _ h_ => h_.2)⟩, ⟨below_set (by repeat (first | exact HB.out | apply pw_below_drewN | apply below_drew1)) HBb.out⟩⟩
        ·have c3b0 : (x.f1.toList == ([] : List UInt8)) = false := beq_eq_false_iff_ne.mpr c3
         have c3b1 : (x.f1.toList != ([] : List UInt8)) = true := bne_iff_ne.mpr c3
         have HC3 := Aside0.mk c3; have HC2 := Aside0.mk c2; clear c3
         cases c4 : Op.bytesLess t.f1.toList x.f1.toList with
         | true =>
          have HC4 := Aside0.mk c4
          go_quiet (fail)
          go_wp2
          go_quiet (fail)
          try go_wp2
          go_roundw
          case measure => simp [intOf]; omega
          case rel => exact ⟨k1 + 1, _, rfl, by go_num, by omega, ⟨by rw [HE2.out, HMS.out, if_neg (fun h => by rw [HC2.out] at h; exact absurd h.2 (by decide)), if_pos ⟨HC1.out, .inr HC4.out⟩]; have h_ := fun W_ hW_ => (store_hi (W := W_) (ok := fun _ => True) (base := w.heap.size) (n := out.length) (c := c2_) (ad := ad2) (out := out) hW_ j hj0 hj1 x.f1).2.1; rw [HT.out] at h_; exact h_ _ (by exact HO.out)⟩, ⟨Kd.R_grown (by exact HOA.out) (store_hi (by exact HO.out) j hj0 hj1 x.f1).2.2.1 (fun _ h_ => h_.2)⟩, ⟨below_set (by repeat (first | exact HB.out | apply pw_below_drewN | apply below_drew1)) HBb.out⟩⟩
         | false =>
          have HC4 := Aside0.mk c4
          go_quiet (fail)
          go_wp2
          go_quiet (fail)
          try go_wp2
          go_roundw
          case measure => simp [intOf]; omega
          case rel => exact ⟨k1 + 1, _, rfl, by go_num, by omega, ⟨by rw [HE2.out, HMS.out, if_neg (fun h => by rw [HC2.out] at h; exact absurd h.2 (by decide)), if_neg (fun h => h.2.elim HC3.out (fun h4 => by rw [HC4.out] at h4; cases h4))]; exact (by exact HO.out)⟩, ⟨(by exact HOA.out)⟩, ⟨(by repeat (first | exact HB.out | apply pw_below_drewN | apply below_drew1))⟩⟩
    ·have hkl : k1 = s.length := by omega
     have h_ := HO0.out
     rw [hkl, List.take_length] at h_
     have HO2 := Aside0.mk h_; clear hkl HO0 h_
     go_wp2
     go_ret
     exact ⟨_, rfl, HO2.out, HB.out⟩
  ·rw [if_neg hsl] at h; cases h
 ·rw [if_neg hl] at h; cases h
def span_Fit.f (k : Nat) (l0 : List (S41)) (a1 : Int) : Option ((List (S41))) := (span_Join.f k l0 ([] : List (S41))).bind fun t153 => (if (wrap64 ((t153.length : Int) - (mx a1 1))) > 0 then (if 0 < (t153.length : Int) then (if 0 ≤ (wrap64 ((t153.length : Int) - (mx a1 1))) then (if (wrap64 ((t153.length : Int) - (mx a1 1))) < (t153.length : Int) then (if (wrap64 ((t153.length : Int) - (mx a1 1))) ≤ (t153.length : Int) then ((api_Span_58.f ((t153.set ((wrap64 ((t153.length : Int) - (mx a1 1))) : Int).toNat (⟨(rd_T41 t153 0).f0, (rd_T41 t153 (wrap64 ((t153.length : Int) - (mx a1 1)))).f1⟩ : S41)).drop ((wrap64 ((t153.length : Int) - (mx a1 1))) : Int).toNat)).bind fun t162 => (some t162)) else (none)) else (none)) else (none)) else (none)) else (some t153))
set_option maxHeartbeats 8000000 in
set_option maxRecDepth 100000 in
theorem span_Fit.calls (k : Nat) (A0 : Option Addr) (c0 : Nat) (l0 : List (S41)) (a1 : Int) (r : List (S41)) (w : World) (hr0 : Kd.C k41 w A0 l0.length l0) (hc0 : l0.length ≤ c0) (h : span_Fit.f k l0 a1 = some r) :
  Calls Try.prog 24 #[.slice A0 l0.length c0, .int .i64 a1] w fun e w' => ∃ v0_ : Value, e = .returned (v0_) ∧ Kd.R k41 41 w' w.heap.size (fun _ => True) v0_ r ∧ Below w.heap.size w w' := by
 have HR0 := Aside0.mk hr0; have HC0 := Aside0.mk hc0; clear hr0 hc0
 have HB := Aside0.mk (Below.refl w.heap.size w)
 have H : ((span_Join.f k l0 ([] : List (S41))).bind fun t153 => (if (wrap64 ((t153.length : Int) - (mx a1 1))) > 0 then (if 0 < (t153.length : Int) then (if 0 ≤ (wrap64 ((t153.length : Int) - (mx a1 1))) then (if (wrap64 ((t153.length : Int) - (mx a1 1))) < (t153.length : Int) then (if (wrap64 ((t153.length : Int) - (mx a1 1))) ≤ (t153.length : Int) then ((api_Span_58.f ((t153.set ((wrap64 ((t153.length : Int) - (mx a1 1))) : Int).toNat (⟨(rd_T41 t153 0).f0, (rd_T41 t153 (wrap64 ((t153.length : Int) - (mx a1 1)))).f1⟩ : S41)).drop ((wrap64 ((t153.length : Int) - (mx a1 1))) : Int).toNat)).bind fun t162 => (some t162)) else (none)) else (none)) else (none)) else (none)) else (some t153))) = some r := h
 clear h; replace H := Option.bind_eq_some_iff.mp H; obtain ⟨t153, A30, H⟩ := H
 replace H : (if (wrap64 ((t153.length : Int) - (mx a1 1))) > 0 then (if 0 < (t153.length : Int) then (if 0 ≤ (wrap64 ((t153.length : Int) - (mx a1 1))) then (if (wrap64 ((t153.length : Int) - (mx a1 1))) < (t153.length : Int) then (if (wrap64 ((t153.length : Int) - (mx a1 1))) ≤ (t153.length : Int) then ((api_Span_58.f ((t153.set ((wrap64 ((t153.length : Int) - (mx a1 1))) : Int).toNat (⟨(rd_T41 t153 0).f0, (rd_T41 t153 (wrap64 ((t153.length : Int) - (mx a1 1)))).f1⟩ : S41)).drop ((wrap64 ((t153.length : Int) - (mx a1 1))) : Int).toNat)).bind fun t162 => (some t162)) else (none)) else (none)) else (none)) else (none)) else (some t153)) = some r := H
 have A3 := Aside0.mk A30; clear A30
 obtain ⟨ji4, hji4⟩ : ∃ j_ : Int, (mx a1 1) = j_ := ⟨_, rfl⟩
 replace H : (if (wrap64 ((t153.length : Int) - (ji4))) > 0 then (if 0 < (t153.length : Int) then (if 0 ≤ (wrap64 ((t153.length : Int) - (ji4))) then (if (wrap64 ((t153.length : Int) - (ji4))) < (t153.length : Int) then (if (wrap64 ((t153.length : Int) - (ji4))) ≤ (t153.length : Int) then ((api_Span_58.f ((t153.set ((wrap64 ((t153.length : Int) - (ji4))) : Int).toNat (⟨(rd_T41 t153 0).f0, (rd_T41 t153 (wrap64 ((t153.length : Int) - (ji4)))).f1⟩ : S41)).drop ((wrap64 ((t153.length : Int) - (ji4))) : Int).toNat)).bind fun t162 => (some t162)) else (none)) else (none)) else (none)) else (none)) else (some t153)) = some r := by first | (rw [hji4] at H; exact H) | (simp only [hji4] at H ⊢; exact H)
 (try rw [hji4] at A3)
 (try (have hji4l : 1 ≤ ji4 := by (rw [← hji4]; unfold mx; (repeat' split) <;> omega)))
 (try (have hji4m : 0 ≤ ji4 := by omega))
 have hji4_ : (if a1 < 1 then 1 else a1) = ji4 := hji4
 by_cases c5 : (wrap64 ((t153.length : Int) - (ji4))) > 0
 ·rw [if_pos c5] at H
  have c5b0 : decide (0 < (wrap64 ((t153.length : Int) - (ji4)))) = true := decide_eq_true c5
  clear c5
  by_cases c6 : 0 < (t153.length : Int)
  ·rw [if_pos c6] at H
   have c6b0 : decide (0 < (t153.length : Int)) = true := decide_eq_true c6
   have c6b1 : decide (0 < t153.length) = true := decide_eq_true (by omega)
   clear c6
   obtain ⟨ji7, hji7⟩ : ∃ j_ : Int, (wrap64 ((t153.length : Int) - (ji4))) = j_ := ⟨_, rfl⟩
   replace H : (if 0 ≤ (ji7) then (if (ji7) < (t153.length : Int) then (if (ji7) ≤ (t153.length : Int) then ((api_Span_58.f ((t153.set ((ji7) : Int).toNat (⟨(rd_T41 t153 0).f0, (rd_T41 t153 (ji7)).f1⟩ : S41)).drop ((ji7) : Int).toNat)).bind fun t162 => (some t162)) else (none)) else (none)) else (none)) = some r := by first | (rw [hji7] at H; exact H) | (simp only [hji7] at H ⊢; exact H)
   (try rw [hji7] at c5b0)
   (try rw [hji7] at A3)
   have hji7w : (IntKind.i64.wrap ((t153.length : Int) - (ji4))) = ji7 := (i64_w _).trans hji7
   by_cases c8 : 0 ≤ (ji7)
   ·rw [if_pos c8] at H
    have c8b0 : decide (0 ≤ (ji7)) = true := decide_eq_true c8
    clear c8
    by_cases c9 : (ji7) < (t153.length : Int)
    ·rw [if_pos c9] at H
     have c9b0 : decide ((ji7) < (t153.length : Int)) = true := decide_eq_true c9
     clear c9
     obtain ⟨y157, hy157⟩ : ∃ y_ : List (S41), y_ = (t153.set ((ji7) : Int).toNat (⟨(rd_T41 t153 0).f0, (rd_T41 t153 (ji7)).f1⟩ : S41)) := ⟨_, rfl⟩
     replace H : (if (ji7) ≤ (t153.length : Int) then ((api_Span_58.f (y157.drop ((ji7) : Int).toNat)).bind fun t162 => (some t162)) else (none)) = some r := by first | (rw [hy157]; with_reducible exact H) | (have H2_ := (Option.bind_some _ _).symm.trans H; rw [hy157]; with_reducible exact H2_) | (have H2_ := (Option.bind_some _ _).symm.trans H; with_reducible exact H2_) | with_reducible exact H | (rw [hy157]; exact H) | exact H
     have Ny157 := Aside0.mk hy157; clear hy157
     have c11b0 := eq_true (od_ : 0 ≤ (ji7))
     by_cases c12 : (ji7) ≤ (t153.length : Int)
     ·rw [if_pos c12] at H
      have c12b0 := eq_true c12
      have c12b1 : decide ((ji7) ≤ (t153.length : Int)) = true := decide_eq_true c12
      clear c12
      obtain ⟨y158, hy158⟩ : ∃ y_ : List (S41), y_ = (y157.drop ((ji7) : Int).toNat) := ⟨_, rfl⟩
      replace H : ((api_Span_58.f y158).bind fun t162 => (some t162)) = some r := by first | (rw [hy158]; with_reducible exact H) | (have H2_ := (Option.bind_some _ _).symm.trans H; rw [hy158]; with_reducible exact H2_) | (have H2_ := (Option.bind_some _ _).symm.trans H; with_reducible exact H2_) | with_reducible exact H | (rw [hy158]; exact H) | exact H
      have Ny158 := Aside0.mk hy158; clear hy158; replace H := Option.bind_eq_some_iff.mp H; obtain ⟨t162, A130, H⟩ := H
      replace H : (some t162) = some r := H
      have A13 := Aside0.mk A130; clear A130; obtain rfl := Option.some.inj H
      go_enter Try.func24, Try.ntmps24
      go_wp2_with (first | ((with_reducible refine gate_callee (f := 27) rfl ?_); refine goesL_ (some 8) rfl rfl Try.func27 (by kernel_rfl) rfl #[.slice A0 l0.length c0, .slice none 0 0] rfl sa_ ?_; (refine (span_Join.calls k _ _ l0 _ _ ([] : List (S41)) t153 _ ?side1 ?side2 ?side3 ?side4 A3.out).mono ?_); (case side1 => exact HR0.out); (case side2 => exact HC0.out); (case side3 => exact Kd.C_nil _ _); (case side4 => exact Nat.le_refl _); rintro e w14 ⟨v154, rfl, ho0, hb⟩; refine ⟨_, rfl, ?_⟩; have n0_ := Aside0.mk (Kd.R_lower ho0 (below_size bl_)); have n1_ := Aside0.mk (below_step bl_ hb); clear HB; have HO155 := n0_; have HB := n1_; clear n0_ n1_; (try clear hb); (try clear hb2); (try clear hk); (try clear hi); (try clear ho0); obtain ⟨Ao15, co15, eo15⟩ := Kd.R_slice HO155.out; subst eo15; have p156 : 0 ≤ (0 : Int) := (by omega); have q156 : 0 < (t153.length : Int) := od_; obtain ⟨ad156, e156, hx156_0, hx156_1⟩ := at_T41 (Kd.R_reads' HO155.out).2.2 0 p156 q156; cases e156; have qi156 : (0 < t153.length) = True := eq_true (by omega); (try rw [show ((0 : Int)).toNat = 0 from rfl] at hx156_0); (try rw [show 0 * 2 = 0 from rfl] at hx156_0); (try rw [Addr.add_zero'] at hx156_0); (try rw [show ((0 : Int)).toNat = 0 from rfl] at hx156_1); (try rw [show 0 * 2 = 0 from rfl] at hx156_1); (try rw [Addr.add_zero'] at hx156_1); replace p156 := eq_true p156; replace q156 := eq_true q156; have p10 : 0 ≤ ((ji7) : Int) := od_; have q10 : ((ji7) : Int) < ((t153.length : Int) : Int) := od_; obtain ⟨go10, co10, eo10, gb10, gl10, cl10, HG10⟩ := Kd.R_form HO155.out (by omega); (first | cases eo10 | (injection eo10 with ea_ en_ ec_; (first | subst ea_ | (injection ea_ with ea_; subst ea_)); subst ec_; clear en_)); have GB10 := Aside0.mk gb10; have GG10 := Aside0.mk HG10; clear gb10 gl10 HG10; (first | simp only [add_plain] at hx156_0 | skip); (first | simp only [add_plain] at hx156_1 | skip); obtain ⟨ce10, hcl10, hM10, hcc10, hfr10⟩ := Kd.R_elem HO155.out z41 ((ji7) : Int) p10 q10; obtain rfl := k41_openM hM10; have hx10_0 : w14.cell? ⟨go10, ((ji7) : Int).toNat * 2, none⟩ = some (.string ((rd_T41 t153 (ji7)).f0)) := hcc10 0 _ rfl; have hx10_1 : w14.cell? ⟨go10, ((ji7) : Int).toNat * 2 + 1, none⟩ = some (.string ((rd_T41 t153 (ji7)).f1)) := hcc10 1 _ rfl; have hf10_0 : w14.frozen? ⟨go10, ((ji7) : Int).toNat * 2, none⟩ = false := hfr10 0; have hf10_1 : w14.frozen? ⟨go10, ((ji7) : Int).toNat * 2 + 1, none⟩ = false := hfr10 1; clear hcl10 hcc10 hfr10 hM10; replace p10 := eq_true p10; replace q10 := eq_true q10; have HX16 := Aside0.mk (show Kd.R k41 41 w14 w.heap.size (fun _ => True) (.slice (some ⟨go10, 0, none⟩) t153.length co15) t153 from (by exact HO155.out)); obtain ⟨ce16, hcl16, hM16, hcc16, hfr16⟩ := Kd.R_elem HX16.out z41 ((ji7) : Int) (od_) (by have h_ : ((ji7) : Int) < ((t153.length : Int) : Int) := od_; first | exact h_ | (have e_ := (Kd.R_reads' HO155.out).1; omega) | simpa using h_); obtain rfl := k41_openM hM16; have HP16 := Kd.R_seg HX16.out ((ji7) : Int) (od_) (by have h_ : ((ji7) : Int) < ((t153.length : Int) : Int) := od_; first | exact h_ | (have e_ := (Kd.R_reads' HO155.out).1; omega) | simpa using h_) (seg := [.string ((rd_T41 t153 0).f0)]) (j := 0) hcl16 hcc16 (show 1 ≤ 2 from by decide) (x' := (⟨(rd_T41 t153 0).f0, (rd_T41 t153 (ji7)).f1⟩ : S41)) (k41_mkM _ _ _ (⟨(rd_T41 t153 0).f0, (rd_T41 t153 (ji7)).f1⟩ : S41) ) (fun _ hk => hk); have hx16_0 := hcc16 0 _ rfl; (try simp only [show (k41).sz = 2 from rfl, Nat.mul_one, Nat.add_zero] at hx16_0); have hf16_0 := hfr16 0; (try simp only [show (k41).sz = 2 from rfl, Nat.mul_one, Nat.add_zero] at hf16_0); clear hcl16 hcc16 hfr16 hM16) | ((with_reducible refine gate_store (t := 9) (p := 23) rfl ?_); refine store_event (t := 9) (p := 23) (v := ?vo_w17) (w1 := (w14.setCell ⟨go10, ((ji7) : Int).toNat * 2, none⟩ (.string ((rd_T41 t153 0).f0)))) ?hg ?ho ?hn ?hr ?_; (case ho => rfl); (case hg => rfl); (case hn => rfl); (case hr => first | (go_simp; done) | (go_simp; rfl)); intro w17 hw; have hg : w14.grownBy w17 (some go10) := (by rw [hw]; exact HP16.2); have hp_ : Kd.R k41 41 w17 w.heap.size (fun _ => True) (.slice (some ⟨go10, 0, none⟩) t153.length co15) y157 := (by rw [hw, Ny157.out]; exact HP16.1); clear HP16; have n0_ := Aside0.mk (hp_); have n1_ := Aside0.mk ((by rw [hw]; exact below_set (HB.out) GB10.out : Below w.heap.size w w17)); clear HO155; clear HB; have HO155 := n0_; have HB := n1_; clear n0_ n1_; clear hg hw hp_; have hlx18 := (Kd.R_reads' HO155.out).1; have q18 : ((ji7) : Int) ≤ ((t153.length : Int) : Int) := od_; obtain ⟨i018, hi018, _, hsz18, _⟩ := info_parts info41; have hroom18 : t153.length ≤ co15 := (Kd.R_reads' HO155.out).2.1; have hroomc18 : y157.length ≤ co15 := (by rw [← hlx18]; exact hroom18); have hC18 : Kd.C k41 _ (some ⟨go10, 0, none⟩) y157.length y157 := (Kd.R_reads' HO155.out).2.2; have q018 : (0 : Int) ≤ ((ji7) : Int) := od_; have hcut18 := cut_from (P := Try.prog) 24 41 .i64 Try.underlying24 hi018 2 hsz18 (some ⟨go10, 0, none⟩) t153.length co15 (ji7) q018 q18; have hr18 := Kd.C_drop (m := ((ji7) : Int).toNat) (c := co15) hC18 (by omega) hroomc18; obtain ⟨A18, hA18⟩ : ∃ A1, A1 = (if co15 = ((ji7) : Int).toNat then (some ⟨go10, 0, none⟩) else ((some ⟨go10, 0, none⟩) : Option Addr).map (·.add (((ji7) : Int).toNat * 2))) := ⟨_, rfl⟩; obtain ⟨c18, hc18⟩ : ∃ c1, c1 = co15 - ((ji7) : Int).toNat := ⟨_, rfl⟩; have hy18 : y158.length = t153.length - ((ji7) : Int).toNat := (by rw [Ny158.out, List.length_drop] <;> omega); rw [show (y157).drop ((ji7) : Int).toNat = y158 from Ny158.out.symm] at hr18; replace hr18 : Kd.C k41 _ A18 y158.length y158 := (by rw [hA18]; exact hr18); rw [← hy18, ← hA18, ← hc18] at hcut18; have HR161 := Aside0.mk hr18; have HC161 := Aside0.mk (show y158.length ≤ c18 from by rw [hy18, hc18]; exact Nat.sub_le_sub_right hroom18 _); clear hr18 hC18 hroom18 hi018 hsz18 hc18 hroomc18; have KY18 := Aside0.mk hy18; have KA18 := Aside0.mk hA18; clear hy18 hA18; have KE18 := Aside0.mk hlx18; have KL18 := Aside0.mk (show ((ji7) : Int).toNat ≤ y157.length from by omega); clear hlx18; replace q18 := eq_true q18) | ((with_reducible refine gate_callee (f := 58) rfl ?_); refine goesL_ (some 27) rfl rfl Try.func58 (by kernel_rfl) rfl #[.slice A18 y158.length c18] rfl sa_ ?_; (with_reducible refine (api_Span_58.calls _ _ y158 t162 _ ?side1 ?side2 A13.out).mono ?_); (case side1 => exact HR161.out); (case side2 => exact HC161.out); rintro e w19 ⟨v163, rfl, ho0, hb⟩; refine ⟨_, rfl, ?_⟩; have n0_ := Aside0.mk (Kd.R_elder' (by exact HO155.out) (Kd.R_base ho0) hb); have n1_ := Aside0.mk (Kd.R_lower (Kd.R_new' ho0 (Kd.R_lt (by exact HO155.out))) (below_size bl_)); have n2_ := Aside0.mk (Kd.C_below HR161.out hb); have n3_ := Aside0.mk (below_step bl_ hb); clear HO155; clear HR161; clear HB; have HO155 := n0_; have HO164 := n1_; have HR161 := n2_; have HB := n3_; clear n0_ n1_ n2_ n3_; (try clear hb); (try clear hb2); (try clear hk); (try clear hi); (try clear ho0)))
      go_ret
      exact ⟨_, by first | rfl | (simp [errW_none, errW_some] <;> rfl) | (simp only [← hji4, ← hji7]; first | rfl | (simp [errW_none, errW_some] <;> rfl)) | (simp [*, errW_none, errW_some] <;> rfl), by exact Kd.R_mono HO164.out (fun _ hk => trivial), bl_⟩
     ·rw [if_neg c12] at H
      exact absurd H (by simp)
    ·rw [if_neg c9] at H
     exact absurd H (by simp)
   ·rw [if_neg c8] at H
    exact absurd H (by simp)
  ·rw [if_neg c6] at H
   exact absurd H (by simp)
 ·rw [if_neg c5] at H
  have c5b0 : decide (0 < (wrap64 ((t153.length : Int) - (ji4)))) = false := decide_eq_false c5
  clear c5; obtain rfl := Option.some.inj H
  go_enter Try.func24, Try.ntmps24
  go_wp2_with (first | ((with_reducible refine gate_callee (f := 27) rfl ?_); refine goesL_ (some 8) rfl rfl Try.func27 (by kernel_rfl) rfl #[.slice A0 l0.length c0, .slice none 0 0] rfl sa_ ?_; (refine (span_Join.calls k _ _ l0 _ _ ([] : List (S41)) t153 _ ?side1 ?side2 ?side3 ?side4 A3.out).mono ?_); (case side1 => exact HR0.out); (case side2 => exact HC0.out); (case side3 => exact Kd.C_nil _ _); (case side4 => exact Nat.le_refl _); rintro e w20 ⟨v154, rfl, ho0, hb⟩; refine ⟨_, rfl, ?_⟩; have n0_ := Aside0.mk (Kd.R_lower ho0 (below_size bl_)); have n1_ := Aside0.mk (below_step bl_ hb); clear HB; have HO155 := n0_; have HB := n1_; clear n0_ n1_; (try clear hb); (try clear hb2); (try clear hk); (try clear hi); (try clear ho0); obtain ⟨Ao21, co21, eo21⟩ := Kd.R_slice HO155.out; subst eo21))
  go_ret
  exact ⟨_, by first | rfl | (simp [errW_none, errW_some] <;> rfl) | (simp only [← hji4]; first | rfl | (simp [errW_none, errW_some] <;> rfl)) | (simp [*, errW_none, errW_some] <;> rfl), by exact HO155.out, bl_⟩
def ssi_least.f (a0 : Int) (a1 : Int) : Option (Int) := if a0 = 0 then (some a1) else (if a1 = 0 then (some a0) else (if a0 < a1 then (some a0) else (some a1)))
set_option maxHeartbeats 8000000 in
set_option maxRecDepth 100000 in
theorem ssi_least.calls (a0 : Int) (a1 : Int) (r : Int) (w : World) (h : ssi_least.f a0 a1 = some r) :
  Calls Try.prog 72 #[.int .u64 a0, .int .u64 a1] w fun e w' => e = .returned (.int .u64 r) ∧ Drawn0 w w' := by
 have H : (if a0 = 0 then (some a1) else (if a1 = 0 then (some a0) else (if a0 < a1 then (some a0) else (some a1)))) = some r := h
 clear h
 by_cases c3 : a0 = 0
 ·rw [if_pos c3] at H
  have c3b0 : (a0 == 0) = true := beq_iff_eq.mpr c3
  have c3b1 : (a0 != 0) = false := bne_eq_false_iff_eq.mpr c3
  clear c3; obtain rfl := Option.some.inj H
  go_enter Try.func72, Try.ntmps72
  go_wp2
  go_ret
  exact ⟨by first | rfl | (simp; done) | (simp [*]; done), by repeat (first | exact Drawn0.refl _ | apply Drawn0.step)⟩
 ·rw [if_neg c3] at H
  have c3b0 : (a0 == 0) = false := beq_eq_false_iff_ne.mpr c3
  have c3b1 : (a0 != 0) = true := bne_iff_ne.mpr c3
  by_cases c4 : a1 = 0
  ·rw [if_pos c4] at H
   have c4b0 : (a1 == 0) = true := beq_iff_eq.mpr c4
   have c4b1 : (a1 != 0) = false := bne_eq_false_iff_eq.mpr c4
   clear c4; obtain rfl := Option.some.inj H
   go_enter Try.func72, Try.ntmps72
   go_wp2
   go_ret
   exact ⟨by first | rfl | (simp; done) | (simp [*]; done), by repeat (first | exact Drawn0.refl _ | apply Drawn0.step)⟩
  ·rw [if_neg c4] at H
   have c4b0 : (a1 == 0) = false := beq_eq_false_iff_ne.mpr c4
   have c4b1 : (a1 != 0) = true := bne_iff_ne.mpr c4
   by_cases c5 : a0 < a1
   ·rw [if_pos c5] at H
    have c5b0 : decide (a0 < a1) = true := decide_eq_true c5
    clear c5; obtain rfl := Option.some.inj H
    go_enter Try.func72, Try.ntmps72
    go_wp2
    go_ret
    exact ⟨by first | rfl | (simp; done) | (simp [*]; done), by repeat (first | exact Drawn0.refl _ | apply Drawn0.step)⟩
   ·rw [if_neg c5] at H
    have c5b0 : decide (a0 < a1) = false := decide_eq_false c5
    clear c5; obtain rfl := Option.some.inj H
    go_enter Try.func72, Try.ntmps72
    go_wp2
    go_ret
    exact ⟨by first | rfl | (simp; done) | (simp [*]; done), by repeat (first | exact Drawn0.refl _ | apply Drawn0.step)⟩
end Go.Proofs.Ytjefihcbhdennaa.S
