/- Printed by a program of this session (pp.py) over the print of the kit: functions of the translation as plain functions, and the contracts of their calls. No condition. -/
import Derived.Test.YtjefihcbhdennaaS0
import Derived.Test.YtjefihcbhdennaaS2
import Derived.Test.YtjefihcbhdennaaS14
namespace Go.Proofs.Ytjefihcbhdennaa.S
open Go.RowKit Go.Proofs.YtjefihcbhdennaaW.PrintWords Go.Proofs.YtjefihcbhdennaaW.PrintLast Go.Proofs.YtjefihcbhdennaaW.PrintMore
attribute [local go_sem] max2_int min2_int max2_str min2_str str_leq str_gtr str_geq max_two min_two max_three min_three max_four min_four   -- for this text's walks alone
set_option linter.unusedVariables false
set_option linter.unusedSimpArgs false

/-! ### span_Fit: function 24 -/
def span_Fit.f (k : Nat) (l0 : List (S41)) (a1 : Int) : Option ((List (S41))) := (span_Join.f k l0 ([] : List (S41))).bind fun t153 => (if (wrap64 ((t153.length : Int) - (mx a1 1))) > 0 then (if 0 < (t153.length : Int) then (if 0 ≤ (wrap64 ((t153.length : Int) - (mx a1 1))) then (if (wrap64 ((t153.length : Int) - (mx a1 1))) < (t153.length : Int) then (if (wrap64 ((t153.length : Int) - (mx a1 1))) ≤ (t153.length : Int) then ((api_Span_58.f ((t153.set ((wrap64 ((t153.length : Int) - (mx a1 1))) : Int).toNat (⟨(rd_T41 t153 0).f0, (rd_T41 t153 (wrap64 ((t153.length : Int) - (mx a1 1)))).f1⟩ : S41)).drop ((wrap64 ((t153.length : Int) - (mx a1 1))) : Int).toNat)).bind fun t162 => (some t162)) else (none)) else (none)) else (none)) else (none)) else (some t153))
theorem span_Fit.mono : ∀ a0 a1 k, LeO (span_Fit.f k a0 a1) (span_Fit.f (k + 1) a0 a1) := by
  intro a0 a1 k
  unfold span_Fit.f
  repeat' first
      | (with_reducible exact span_Join.mono _ _ _)
      | (with_reducible exact LeO.refl _)
      | (with_reducible exact LeO.none _)
      | (with_reducible refine LeO.ite ?_ ?_)
      | (with_reducible refine LeO.bind ?_ (fun _ => ?_))
      | exact span_Join.mono _ _ _
      | exact LeO.none _
      | refine LeO.ite ?_ ?_
      | refine LeO.bind ?_ (fun _ => ?_)
set_option maxHeartbeats 8000000 in
set_option maxRecDepth 100000 in
theorem span_Fit.calls (k : Nat) (A0 : Option Addr) (c0 : Nat) (l0 : List (S41)) (a1 : Int) (r : List (S41)) (w : World) (hr0 : Kd.C k41 w A0 l0.length l0) (hc0 : l0.length ≤ c0) (h : span_Fit.f k l0 a1 = some r) :
    Calls Try.prog 24 #[.slice A0 l0.length c0, .int .i64 a1] w fun e w' => ∃ v0_ : Value, e = .returned (v0_) ∧ Kd.R k41 41 w' w.heap.size (fun _ => True) v0_ r ∧ Below w.heap.size w w' := by
  have HR0 := Aside0.mk hr0
  have HC0 := Aside0.mk hc0
  clear hr0 hc0
  have HB := Aside0.mk (Below.refl w.heap.size w)
  have H : ((span_Join.f k l0 ([] : List (S41))).bind fun t153 => (if (wrap64 ((t153.length : Int) - (mx a1 1))) > 0 then (if 0 < (t153.length : Int) then (if 0 ≤ (wrap64 ((t153.length : Int) - (mx a1 1))) then (if (wrap64 ((t153.length : Int) - (mx a1 1))) < (t153.length : Int) then (if (wrap64 ((t153.length : Int) - (mx a1 1))) ≤ (t153.length : Int) then ((api_Span_58.f ((t153.set ((wrap64 ((t153.length : Int) - (mx a1 1))) : Int).toNat (⟨(rd_T41 t153 0).f0, (rd_T41 t153 (wrap64 ((t153.length : Int) - (mx a1 1)))).f1⟩ : S41)).drop ((wrap64 ((t153.length : Int) - (mx a1 1))) : Int).toNat)).bind fun t162 => (some t162)) else (none)) else (none)) else (none)) else (none)) else (some t153))) = some r := h
  clear h
  replace H := Option.bind_eq_some_iff.mp H
  obtain ⟨t153, A30, H⟩ := H
  replace H : (if (wrap64 ((t153.length : Int) - (mx a1 1))) > 0 then (if 0 < (t153.length : Int) then (if 0 ≤ (wrap64 ((t153.length : Int) - (mx a1 1))) then (if (wrap64 ((t153.length : Int) - (mx a1 1))) < (t153.length : Int) then (if (wrap64 ((t153.length : Int) - (mx a1 1))) ≤ (t153.length : Int) then ((api_Span_58.f ((t153.set ((wrap64 ((t153.length : Int) - (mx a1 1))) : Int).toNat (⟨(rd_T41 t153 0).f0, (rd_T41 t153 (wrap64 ((t153.length : Int) - (mx a1 1)))).f1⟩ : S41)).drop ((wrap64 ((t153.length : Int) - (mx a1 1))) : Int).toNat)).bind fun t162 => (some t162)) else (none)) else (none)) else (none)) else (none)) else (some t153)) = some r := H
  have A3 := Aside0.mk A30
  clear A30
  obtain ⟨ji4, hji4⟩ : ∃ j_ : Int, (mx a1 1) = j_ := ⟨_, rfl⟩
  replace H : (if (wrap64 ((t153.length : Int) - (ji4))) > 0 then (if 0 < (t153.length : Int) then (if 0 ≤ (wrap64 ((t153.length : Int) - (ji4))) then (if (wrap64 ((t153.length : Int) - (ji4))) < (t153.length : Int) then (if (wrap64 ((t153.length : Int) - (ji4))) ≤ (t153.length : Int) then ((api_Span_58.f ((t153.set ((wrap64 ((t153.length : Int) - (ji4))) : Int).toNat (⟨(rd_T41 t153 0).f0, (rd_T41 t153 (wrap64 ((t153.length : Int) - (ji4)))).f1⟩ : S41)).drop ((wrap64 ((t153.length : Int) - (ji4))) : Int).toNat)).bind fun t162 => (some t162)) else (none)) else (none)) else (none)) else (none)) else (some t153)) = some r := by first | (rw [hji4] at H; exact H) | (simp only [hji4] at H ⊢; exact H)
  (try rw [hji4] at A3)
  (try (have hji4l : 1 ≤ ji4 := by (rw [← hji4]; unfold mx; (repeat' split) <;> omega)))
  (try (have hji4m : 0 ≤ ji4 := by omega))
  have hji4_ : (if a1 < 1 then 1 else a1) = ji4 := hji4
  by_cases c5 : (wrap64 ((t153.length : Int) - (ji4))) > 0
  · rw [if_pos c5] at H
    have c5b0 : decide (0 < (wrap64 ((t153.length : Int) - (ji4)))) = true := decide_eq_true c5
    clear c5
    by_cases c6 : 0 < (t153.length : Int)
    · rw [if_pos c6] at H
      have c6b0 : decide (0 < (t153.length : Int)) = true := decide_eq_true c6
      have c6b1 : decide (0 < t153.length) = true := decide_eq_true (by omega)
      clear c6
      obtain ⟨ji7, hji7⟩ : ∃ j_ : Int, (wrap64 ((t153.length : Int) - (ji4))) = j_ := ⟨_, rfl⟩
      replace H : (if 0 ≤ (ji7) then (if (ji7) < (t153.length : Int) then (if (ji7) ≤ (t153.length : Int) then ((api_Span_58.f ((t153.set ((ji7) : Int).toNat (⟨(rd_T41 t153 0).f0, (rd_T41 t153 (ji7)).f1⟩ : S41)).drop ((ji7) : Int).toNat)).bind fun t162 => (some t162)) else (none)) else (none)) else (none)) = some r := by first | (rw [hji7] at H; exact H) | (simp only [hji7] at H ⊢; exact H)
      (try rw [hji7] at c5b0)
      (try rw [hji7] at A3)
      have hji7w : (IntKind.i64.wrap ((t153.length : Int) - (ji4))) = ji7 := (i64_w _).trans hji7
      by_cases c8 : 0 ≤ (ji7)
      · rw [if_pos c8] at H
        have c8b0 : decide (0 ≤ (ji7)) = true := decide_eq_true c8
        clear c8
        by_cases c9 : (ji7) < (t153.length : Int)
        · rw [if_pos c9] at H
          have c9b0 : decide ((ji7) < (t153.length : Int)) = true := decide_eq_true c9
          clear c9
          obtain ⟨y157, hy157⟩ : ∃ y_ : List (S41), y_ = (t153.set ((ji7) : Int).toNat (⟨(rd_T41 t153 0).f0, (rd_T41 t153 (ji7)).f1⟩ : S41)) := ⟨_, rfl⟩
          replace H : (if (ji7) ≤ (t153.length : Int) then ((api_Span_58.f (y157.drop ((ji7) : Int).toNat)).bind fun t162 => (some t162)) else (none)) = some r := by first | (rw [hy157]; with_reducible exact H) | (have H2_ := (Option.bind_some _ _).symm.trans H; rw [hy157]; with_reducible exact H2_) | (have H2_ := (Option.bind_some _ _).symm.trans H; with_reducible exact H2_) | with_reducible exact H | (rw [hy157]; exact H) | exact H
          have Ny157 := Aside0.mk hy157
          clear hy157
          have c11b0 := eq_true (of_decide_eq_true (by first | (with_reducible assumption) | assumption) : 0 ≤ (ji7))
          by_cases c12 : (ji7) ≤ (t153.length : Int)
          · rw [if_pos c12] at H
            have c12b0 := eq_true c12
            have c12b1 : decide ((ji7) ≤ (t153.length : Int)) = true := decide_eq_true c12
            clear c12
            obtain ⟨y158, hy158⟩ : ∃ y_ : List (S41), y_ = (y157.drop ((ji7) : Int).toNat) := ⟨_, rfl⟩
            replace H : ((api_Span_58.f y158).bind fun t162 => (some t162)) = some r := by first | (rw [hy158]; with_reducible exact H) | (have H2_ := (Option.bind_some _ _).symm.trans H; rw [hy158]; with_reducible exact H2_) | (have H2_ := (Option.bind_some _ _).symm.trans H; with_reducible exact H2_) | with_reducible exact H | (rw [hy158]; exact H) | exact H
            have Ny158 := Aside0.mk hy158
            clear hy158
            replace H := Option.bind_eq_some_iff.mp H
            obtain ⟨t162, A130, H⟩ := H
            replace H : (some t162) = some r := H
            have A13 := Aside0.mk A130
            clear A130
            obtain rfl := Option.some.inj H
            go_enter Try.func24, Try.ntmps24
            go_wp2_with (first | ((with_reducible refine gate_callee (f := 27) rfl ?_); refine goesL_ (some 8) rfl rfl Try.func27 (by kernel_rfl) rfl #[.slice A0 l0.length c0, .slice none 0 0] rfl (by (try simp only [List.map_toArray, List.map_cons, List.map_nil]); first | done | rfl | (simp only [List.length_drop, List.length_take]; rfl)) ?_; (refine (span_Join.calls k _ _ l0 _ _ ([] : List (S41)) t153 _ ?side1 ?side2 ?side3 ?side4 A3.out).mono ?_); (case side1 => repeat (first | exact HR0.out | (with_reducible refine Kd.C_alloc ?_ _) | (with_reducible refine Kd.C_drewN ?_ _) | (with_reducible refine Kd.C_drew ?_))); (case side2 => exact HC0.out); (case side3 => exact Kd.C_nil _ _); (case side4 => exact Nat.le_refl _); rintro e w14 ⟨v154, rfl, ho0, hb⟩; refine ⟨_, rfl, ?_⟩; have n0_ := Aside0.mk (Kd.R_lower ho0 (below_size (by repeat (first | (with_reducible first | exact HB.out | apply below_alloc | apply pw_below_drewN | apply below_drew1) | exact HB.out)))); have n1_ := Aside0.mk (below_step (by repeat (first | (with_reducible first | exact HB.out | apply below_alloc | apply pw_below_drewN | apply below_drew1) | exact HB.out)) hb); clear HB; have HO155 := n0_; have HB := n1_; clear n0_ n1_; (try clear hb); (try clear hb2); (try clear hk); (try clear hi); (try clear ho0); obtain ⟨Ao15, co15, eo15⟩ := Kd.R_slice HO155.out; subst eo15; have p156 : 0 ≤ (0 : Int) := (by omega); have q156 : 0 < (t153.length : Int) := of_decide_eq_true (by first | (with_reducible assumption) | assumption); obtain ⟨ad156, e156, hx156_0, hx156_1⟩ := at_T41 (Kd.R_reads' HO155.out).2.2 0 p156 q156; cases e156; have qi156 : (0 < t153.length) = True := eq_true (by omega); (try rw [show ((0 : Int)).toNat = 0 from rfl] at hx156_0); (try rw [show 0 * 2 = 0 from rfl] at hx156_0); (try rw [Addr.add_zero'] at hx156_0); (try rw [show ((0 : Int)).toNat = 0 from rfl] at hx156_1); (try rw [show 0 * 2 = 0 from rfl] at hx156_1); (try rw [Addr.add_zero'] at hx156_1); replace p156 := eq_true p156; replace q156 := eq_true q156; have p10 : 0 ≤ ((ji7) : Int) := of_decide_eq_true (by first | (with_reducible assumption) | assumption); have q10 : ((ji7) : Int) < ((t153.length : Int) : Int) := of_decide_eq_true (by first | (with_reducible assumption) | assumption); obtain ⟨go10, co10, eo10, gb10, gl10, cl10, HG10⟩ := Kd.R_form HO155.out (by omega); (first | cases eo10 | (injection eo10 with ea_ en_ ec_; (first | subst ea_ | (injection ea_ with ea_; subst ea_)); subst ec_; clear en_)); have GB10 := Aside0.mk gb10; have GG10 := Aside0.mk HG10; clear gb10 gl10 HG10; (first | simp only [add_plain] at hx156_0 | skip); (first | simp only [add_plain] at hx156_1 | skip); obtain ⟨ce10, hcl10, hM10, hcc10, hfr10⟩ := Kd.R_elem HO155.out z41 ((ji7) : Int) p10 q10; obtain rfl := k41_openM hM10; have hx10_0 : w14.cell? ⟨go10, ((ji7) : Int).toNat * 2, none⟩ = some (.string ((rd_T41 t153 (ji7)).f0)) := hcc10 0 _ rfl; have hx10_1 : w14.cell? ⟨go10, ((ji7) : Int).toNat * 2 + 1, none⟩ = some (.string ((rd_T41 t153 (ji7)).f1)) := hcc10 1 _ rfl; have hf10_0 : w14.frozen? ⟨go10, ((ji7) : Int).toNat * 2, none⟩ = false := hfr10 0; have hf10_1 : w14.frozen? ⟨go10, ((ji7) : Int).toNat * 2 + 1, none⟩ = false := hfr10 1; clear hcl10 hcc10 hfr10 hM10; replace p10 := eq_true p10; replace q10 := eq_true q10; have HX16 := Aside0.mk (show Kd.R k41 41 w14 w.heap.size (fun _ => True) (.slice (some ⟨go10, 0, none⟩) t153.length co15) t153 from (by (with_reducible repeat (first | apply Kd.R_alloc | apply Kd.R_drewN | apply Kd.R_drew)); exact HO155.out)); obtain ⟨ce16, hcl16, hM16, hcc16, hfr16⟩ := Kd.R_elem HX16.out z41 ((ji7) : Int) (of_decide_eq_true (by first | (with_reducible assumption) | assumption)) (by have h_ : ((ji7) : Int) < ((t153.length : Int) : Int) := of_decide_eq_true (by first | (with_reducible assumption) | assumption); first | exact h_ | (have e_ := (Kd.R_reads' HO155.out).1; omega) | simpa using h_); obtain rfl := k41_openM hM16; have HP16 := Kd.R_seg HX16.out ((ji7) : Int) (of_decide_eq_true (by first | (with_reducible assumption) | assumption)) (by have h_ : ((ji7) : Int) < ((t153.length : Int) : Int) := of_decide_eq_true (by first | (with_reducible assumption) | assumption); first | exact h_ | (have e_ := (Kd.R_reads' HO155.out).1; omega) | simpa using h_) (seg := [.string ((rd_T41 t153 0).f0)]) (j := 0) hcl16 hcc16 (show 1 ≤ 2 from by decide) (x' := (⟨(rd_T41 t153 0).f0, (rd_T41 t153 (ji7)).f1⟩ : S41)) (k41_mkM _ _ _ (⟨(rd_T41 t153 0).f0, (rd_T41 t153 (ji7)).f1⟩ : S41) ) (fun _ hk => hk); have hx16_0 := hcc16 0 _ rfl; (try simp only [show (k41).sz = 2 from rfl, Nat.mul_one, Nat.add_zero] at hx16_0); have hf16_0 := hfr16 0; (try simp only [show (k41).sz = 2 from rfl, Nat.mul_one, Nat.add_zero] at hf16_0); clear hcl16 hcc16 hfr16 hM16) | ((with_reducible refine gate_store (t := 9) (p := 23) rfl ?_); refine store_event (t := 9) (p := 23) (v := ?vo_w17) (w1 := (w14.setCell ⟨go10, ((ji7) : Int).toNat * 2, none⟩ (.string ((rd_T41 t153 0).f0)))) ?hg ?ho ?hn ?hr ?_; (case ho => rfl); (case hg => rfl); (case hn => rfl); (case hr => first | (go_simp; done) | (go_simp; rfl)); intro w17 hw; have hg : w14.grownBy w17 (some go10) := (by rw [hw]; exact HP16.2); have hp_ : Kd.R k41 41 w17 w.heap.size (fun _ => True) (.slice (some ⟨go10, 0, none⟩) t153.length co15) y157 := (by rw [hw, Ny157.out]; exact HP16.1); clear HP16; have n0_ := Aside0.mk (hp_); have n1_ := Aside0.mk ((by rw [hw]; exact below_set (HB.out) GB10.out : Below w.heap.size w w17)); clear HO155; clear HB; have HO155 := n0_; have HB := n1_; clear n0_ n1_; clear hg hw hp_; have hlx18 := (Kd.R_reads' HO155.out).1; have q18 : ((ji7) : Int) ≤ ((t153.length : Int) : Int) := of_decide_eq_true (by first | (with_reducible assumption) | assumption); obtain ⟨i018, hi018, _, hsz18, _⟩ := info_parts info41; have hroom18 : t153.length ≤ co15 := (Kd.R_reads' HO155.out).2.1; have hroomc18 : y157.length ≤ co15 := (by rw [← hlx18]; exact hroom18); have hC18 : Kd.C k41 _ (some ⟨go10, 0, none⟩) y157.length y157 := (Kd.R_reads' HO155.out).2.2; have q018 : (0 : Int) ≤ ((ji7) : Int) := of_decide_eq_true (by first | (with_reducible assumption) | assumption); have hcut18 := cut_from (P := Try.prog) 24 41 .i64 Try.underlying24 hi018 2 hsz18 (some ⟨go10, 0, none⟩) t153.length co15 (ji7) q018 q18; have hr18 := Kd.C_drop (m := ((ji7) : Int).toNat) (c := co15) hC18 (by omega) hroomc18; obtain ⟨A18, hA18⟩ : ∃ A1, A1 = (if co15 = ((ji7) : Int).toNat then (some ⟨go10, 0, none⟩) else ((some ⟨go10, 0, none⟩) : Option Addr).map (·.add (((ji7) : Int).toNat * 2))) := ⟨_, rfl⟩; obtain ⟨c18, hc18⟩ : ∃ c1, c1 = co15 - ((ji7) : Int).toNat := ⟨_, rfl⟩; have hy18 : y158.length = t153.length - ((ji7) : Int).toNat := (by rw [Ny158.out, List.length_drop] <;> omega); rw [show (y157).drop ((ji7) : Int).toNat = y158 from Ny158.out.symm] at hr18; replace hr18 : Kd.C k41 _ A18 y158.length y158 := (by rw [hA18]; exact hr18); rw [← hy18, ← hA18, ← hc18] at hcut18; have HR161 := Aside0.mk hr18; have HC161 := Aside0.mk (show y158.length ≤ c18 from by rw [hy18, hc18]; exact Nat.sub_le_sub_right hroom18 _); clear hr18 hC18 hroom18 hi018 hsz18 hc18 hroomc18; have KY18 := Aside0.mk hy18; have KA18 := Aside0.mk hA18; clear hy18 hA18; have KE18 := Aside0.mk hlx18; have KL18 := Aside0.mk (show ((ji7) : Int).toNat ≤ y157.length from by omega); clear hlx18; replace q18 := eq_true q18) | ((with_reducible refine gate_callee (f := 58) rfl ?_); refine goesL_ (some 27) rfl rfl Try.func58 (by kernel_rfl) rfl #[.slice A18 y158.length c18] rfl (by (try simp only [List.map_toArray, List.map_cons, List.map_nil]); first | done | rfl | (simp only [List.length_drop, List.length_take]; rfl)) ?_; (with_reducible refine (api_Span_58.calls _ _ y158 t162 _ ?side1 ?side2 A13.out).mono ?_); (case side1 => repeat (first | exact (by repeat (first | (with_reducible exact HR161.out) | (with_reducible refine Kd.C_alloc ?_ _) | (with_reducible refine Kd.C_drewN ?_ _) | (with_reducible refine Kd.C_drew ?_) | exact HR161.out)) | (with_reducible refine Kd.C_alloc ?_ _) | (with_reducible refine Kd.C_drewN ?_ _) | (with_reducible refine Kd.C_drew ?_))); (case side2 => exact HC161.out); rintro e w19 ⟨v163, rfl, ho0, hb⟩; refine ⟨_, rfl, ?_⟩; have n0_ := Aside0.mk (Kd.R_elder' (by (with_reducible repeat (first | apply Kd.R_alloc | apply Kd.R_drewN | apply Kd.R_drew)); exact HO155.out) (Kd.R_base ho0) hb); have n1_ := Aside0.mk (Kd.R_lower (Kd.R_new' ho0 (Kd.R_lt (by (with_reducible repeat (first | apply Kd.R_alloc | apply Kd.R_drewN | apply Kd.R_drew)); exact HO155.out))) (below_size (by repeat (first | (with_reducible first | exact HB.out | apply below_alloc | apply pw_below_drewN | apply below_drew1) | exact HB.out)))); have n2_ := Aside0.mk (Kd.C_below (by repeat (first | (with_reducible exact HR161.out) | (with_reducible refine Kd.C_alloc ?_ _) | (with_reducible refine Kd.C_drewN ?_ _) | (with_reducible refine Kd.C_drew ?_) | exact HR161.out)) hb); have n3_ := Aside0.mk (below_step (by repeat (first | (with_reducible first | exact HB.out | apply below_alloc | apply pw_below_drewN | apply below_drew1) | exact HB.out)) hb); clear HO155; clear HR161; clear HB; have HO155 := n0_; have HO164 := n1_; have HR161 := n2_; have HB := n3_; clear n0_ n1_ n2_ n3_; (try clear hb); (try clear hb2); (try clear hk); (try clear hi); (try clear ho0)))
            go_ret
            exact ⟨_, by first | rfl | (simp [errW_none, errW_some] <;> rfl) | (simp only [← hji4, ← hji7]; first | rfl | (simp [errW_none, errW_some] <;> rfl)) | (simp [*, errW_none, errW_some] <;> rfl), by (with_reducible repeat (first | apply Kd.R_alloc | apply Kd.R_drewN | apply Kd.R_drew)); exact Kd.R_mono HO164.out (fun _ hk => trivial), by repeat (first | (with_reducible first | exact HB.out | apply below_alloc | apply pw_below_drewN | apply below_drew1) | exact HB.out)⟩
          · rw [if_neg c12] at H
            exact absurd H (by simp)
        · rw [if_neg c9] at H
          exact absurd H (by simp)
      · rw [if_neg c8] at H
        exact absurd H (by simp)
    · rw [if_neg c6] at H
      exact absurd H (by simp)
  · rw [if_neg c5] at H
    have c5b0 : decide (0 < (wrap64 ((t153.length : Int) - (ji4)))) = false := decide_eq_false c5
    clear c5
    obtain rfl := Option.some.inj H
    go_enter Try.func24, Try.ntmps24
    go_wp2_with (first | ((with_reducible refine gate_callee (f := 27) rfl ?_); refine goesL_ (some 8) rfl rfl Try.func27 (by kernel_rfl) rfl #[.slice A0 l0.length c0, .slice none 0 0] rfl (by (try simp only [List.map_toArray, List.map_cons, List.map_nil]); first | done | rfl | (simp only [List.length_drop, List.length_take]; rfl)) ?_; (refine (span_Join.calls k _ _ l0 _ _ ([] : List (S41)) t153 _ ?side1 ?side2 ?side3 ?side4 A3.out).mono ?_); (case side1 => repeat (first | exact HR0.out | (with_reducible refine Kd.C_alloc ?_ _) | (with_reducible refine Kd.C_drewN ?_ _) | (with_reducible refine Kd.C_drew ?_))); (case side2 => exact HC0.out); (case side3 => exact Kd.C_nil _ _); (case side4 => exact Nat.le_refl _); rintro e w20 ⟨v154, rfl, ho0, hb⟩; refine ⟨_, rfl, ?_⟩; have n0_ := Aside0.mk (Kd.R_lower ho0 (below_size (by repeat (first | (with_reducible first | exact HB.out | apply below_alloc | apply pw_below_drewN | apply below_drew1) | exact HB.out)))); have n1_ := Aside0.mk (below_step (by repeat (first | (with_reducible first | exact HB.out | apply below_alloc | apply pw_below_drewN | apply below_drew1) | exact HB.out)) hb); clear HB; have HO155 := n0_; have HB := n1_; clear n0_ n1_; (try clear hb); (try clear hb2); (try clear hk); (try clear hi); (try clear ho0); obtain ⟨Ao21, co21, eo21⟩ := Kd.R_slice HO155.out; subst eo21))
    go_ret
    exact ⟨_, by first | rfl | (simp [errW_none, errW_some] <;> rfl) | (simp only [← hji4]; first | rfl | (simp [errW_none, errW_some] <;> rfl)) | (simp [*, errW_none, errW_some] <;> rfl), by (with_reducible repeat (first | apply Kd.R_alloc | apply Kd.R_drewN | apply Kd.R_drew)); exact HO155.out, by repeat (first | (with_reducible first | exact HB.out | apply below_alloc | apply pw_below_drewN | apply below_drew1) | exact HB.out)⟩

end Go.Proofs.Ytjefihcbhdennaa.S
