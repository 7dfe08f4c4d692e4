/- Texts of this session, merged for the law SsiJoins: S60, S61, S3, S4, S5. No condition. -/
import Derived.Test.YtjefihcbhdennaaZSsiJoinsd
import Derived.Test.YtjefihcbhdennaaZSsiJoinsp
import Derived.Test.YtjefihcbhdennaaZSsiJoinsx
import Derived.Test.YtjefihcbhdennaaZSsiJoinsv
namespace Go.Proofs.Ytjefihcbhdennaa.S
open Go.RowKit Go.Proofs.YtjefihcbhdennaaW.PrintWords Go.Proofs.YtjefihcbhdennaaW.PrintLast Go.Proofs.YtjefihcbhdennaaW.PrintMore
attribute [local go_sem] max2_int min2_int max2_str min2_str str_leq str_gtr str_geq max_two min_two max_three min_three max_four min_four
set_option linter.unusedVariables false
set_option linter.unusedSimpArgs false
def conductorref10_Forget.l0 : Nat → Int → List (S26) → List (S26) → Int → Int → Option ((List (S26)))
 | 0, _, _, _, _, _ => none
 | k + 1, x1, x5, x9, x10, x11 => if x11 < x10 then (if 0 ≤ x11 then (if x11 < (x9.length : Int) then (if ((rd_T26 x9 x11).f1) > x1 then (if x5.length < 1759218604441 then (conductorref10_Forget.l0 k x1 (x5 ++ [(⟨(rd_T26 x9 x11).f0, (rd_T26 x9 x11).f1, (rd_T26 x9 x11).f2, (rd_T26 x9 x11).f3, (rd_T26 x9 x11).f4, (rd_T26 x9 x11).f5⟩ : S26)]) x9 x10 (wrap64 (x11 + 1))) else (none)) else (conductorref10_Forget.l0 k x1 x5 x9 x10 (wrap64 (x11 + 1)))) else (none)) else (none)) else (some x5)
def conductorref10_Forget.f (k : Nat) (l0 : List (S26)) (a1 : Int) : Option ((List (S26))) := conductorref10_Forget.l0 k a1 (([] : List (S26))) l0 (l0.length : Int) 0
set_option maxHeartbeats 8000000 in
set_option maxRecDepth 100000 in
theorem conductorref10_Forget.calls (k : Nat) (P0_ : Nat → Prop) (A0 : Option Addr) (c0 : Nat) (l0 : List (S26)) (a1 : Int) (r : List (S26)) (w : World) (hs0 : Kd.V k26 26 w w.heap.size (fun k_ => P0_ k_) (.slice A0 l0.length c0) l0) (h : conductorref10_Forget.f k l0 a1 = some r) :
  Calls Try.prog 50 #[.slice A0 l0.length c0, .int .u64 a1] w fun e w' => ∃ v0_ : Value, e = .returned (v0_) ∧ Kd.N k26 26 w' w.heap.size (fun k_ => (P0_ k_ ∨ w.heap.size ≤ k_)) v0_ r ∧ Below w.heap.size w w' := by
 have hu26 := Try.underlying26
 have HO0 := Aside0.mk (show Kd.V k26 26 w w.heap.size (fun k_ => (P0_ k_ ∨ w.heap.size ≤ k_)) (.slice A0 l0.length c0) l0 from Kd.V_mono hs0 (fun k_ hk => .inl hk))
 have HB := Aside0.mk (Below.refl w.heap.size w)
 have H : (conductorref10_Forget.l0 k a1 (([] : List (S26))) l0 (l0.length : Int) 0) = some r := h
 clear h
 obtain ⟨y685, hy685⟩ : ∃ y_ : List (S26), y_ = (([] : List (S26))) := ⟨_, rfl⟩
 replace H : (conductorref10_Forget.l0 k a1 y685 l0 (l0.length : Int) 0) = some r := by first | (rw [hy685]; with_reducible exact H) | (have H2_ := (Option.bind_some _ _).symm.trans H; rw [hy685]; with_reducible exact H2_) | (have H2_ := (Option.bind_some _ _).symm.trans H; with_reducible exact H2_) | with_reducible exact H | (rw [hy685]; exact H) | exact H
 have Ny685 := Aside0.mk hy685; clear hy685; have H' := Aside0.mk H; clear H
 go_enter Try.func50, Try.ntmps50
 go_wp2_with (first | ((with_reducible refine gate_dst (N := 8) rfl ?_); refine Kd.N_lit k26 _ 26 ?hg (N' := 8) ?hd (xs := ([] : List (S26))) (inner := []) (ok := (fun k_ => (P0_ k_ ∨ w.heap.size ≤ k_))) (okp := (fun k_ => (P0_ k_ ∨ w.heap.size ≤ k_))) ?hr ?hp (fun _ hk => hk) ((show ∀ k_, w.heap.size ≤ k_ → (fun k_ => (P0_ k_ ∨ w.heap.size ≤ k_)) k_ from fun k_ hk => (.inr (Nat.le_trans (below_size bl_) hk))) _ (Nat.le_refl _)) (Below.refl _ _) (Nat.le_refl _) (by simp) ?_; (case hd => rfl); (case hg => rfl); (case hr => first | (go_simp; done) | (go_simp; rfl)); (case hp => exact (Reps.none _ _)); intro v686 w3 ho4 hb hg_ hnew_; clear hg_ hnew_; (first | rw [← Ny685.out] at ho4 | (simp only [Int.reduceToNat] at ho4; rw [← Ny685.out] at ho4)); have n0_ := Aside0.mk (Kd.V_elder' (by exact HO0.out) (Kd.N_base ho4) hb); have n1_ := Aside0.mk (Kd.N_lower ho4 (below_size bl_)); have n2_ := Aside0.mk (below_step bl_ hb); clear HO0; clear HB; have HO0 := n0_; have HO687 := n1_; have HB := n2_; clear n0_ n1_ n2_; clear hb ho4))
 go_loopg [5, 11] k (fun kq v5 v11 w' => ∃ (x5_1 : List (S26)) (x11_1 : Int), v11 = .int .i64 x11_1 ∧ Aside0 (conductorref10_Forget.l0 kq a1 x5_1 l0 (l0.length : Int) x11_1 = some r) ∧ Aside0 (kq ≤ k) ∧ Aside0 (Kd.N k26 26 w' w.heap.size (fun k_ => (P0_ k_ ∨ w.heap.size ≤ k_)) v5 x5_1) ∧ Aside0 (Kd.V k26 26 w' w.heap.size (fun k_ => (P0_ k_ ∨ w.heap.size ≤ k_) ∧ some k_ ≠ (v5 : Value).ownBlock) (.slice A0 l0.length c0) l0) ∧ Aside0 (Below w.heap.size w w'))
 case atStart => exact ⟨(y685), (0), (by first | rfl | (simp; done) | (simp [*]; done)), H', ⟨Nat.le_refl _⟩, ⟨by exact HO687.out⟩, ⟨by exact HO0.out⟩, ⟨bl_⟩⟩
 case round =>
  clear H'; obtain ⟨x5_1, x11_1, rfl, HA, HK1, HO_5, HO_9, HB⟩ := hrel
  cases gk with
  | zero => exact absurd HA.out (by simp [conductorref10_Forget.l0])
  | succ k1 =>
   have H := HA.out
   clear HA
   simp only [conductorref10_Forget.l0] at H
   by_cases c5 : x11_1 < (l0.length : Int)
   ·rw [if_pos c5] at H
    have c5b0 : decide (x11_1 < (l0.length : Int)) = true := decide_eq_true c5
    clear c5
    by_cases c6 : 0 ≤ x11_1
    ·rw [if_pos c6] at H
     have c6b0 : decide (0 ≤ x11_1) = true := decide_eq_true c6
     clear c6
     by_cases c7 : x11_1 < (l0.length : Int)
     ·rw [if_pos c7] at H
      have c7b0 : decide (x11_1 < (l0.length : Int)) = true := decide_eq_true c7
      clear c7
      by_cases c8 : ((rd_T26 l0 x11_1).f1) > a1
      ·rw [if_pos c8] at H
       have c8b0 : decide (a1 < ((rd_T26 l0 x11_1).f1)) = true := decide_eq_true c8
       clear c8
       by_cases c9 : x5_1.length < 1759218604441
       ·rw [if_pos c9] at H
        have LMc9 := Aside0.mk c9; clear c9
        obtain ⟨y690, hy690⟩ : ∃ y_ : List (S26), y_ = (x5_1 ++ [(⟨(rd_T26 l0 x11_1).f0, (rd_T26 l0 x11_1).f1, (rd_T26 l0 x11_1).f2, (rd_T26 l0 x11_1).f3, (rd_T26 l0 x11_1).f4, (rd_T26 l0 x11_1).f5⟩ : S26)]) := ⟨_, rfl⟩
        replace H : (conductorref10_Forget.l0 k1 a1 y690 l0 (l0.length : Int) (wrap64 (x11_1 + 1))) = some r := by first | (rw [hy690]; with_reducible exact H) | (have H2_ := (Option.bind_some _ _).symm.trans H; rw [hy690]; with_reducible exact H2_) | (have H2_ := (Option.bind_some _ _).symm.trans H; with_reducible exact H2_) | with_reducible exact H | (rw [hy690]; exact H) | exact H
        have Ny690 := Aside0.mk hy690; clear hy690; have H' := Aside0.mk H; clear H
        have p688 : 0 ≤ (x11_1 : Int) := od_
        have q688 : x11_1 < (l0.length : Int) := od_
        obtain ⟨ad688, A688_4, c688_4, A688_5, c688_5, e688, hx688_0, hx688_1, hx688_2, hx688_3, hx688_4, hx688_5, hl688_4, hi688_4, hl688_5, hi688_5⟩ := at_T26 (Kd.V_reads' HO_9.out).2.2 x11_1 p688 q688
        cases e688
        obtain ⟨ce688, hce688, hMe688, hcc688⟩ := Kd.V_get HO_9.out z26 x11_1 p688 (by first | exact q688 | exact od_ | (have e_ := (Kd.V_reads' HO_9.out).1; omega))
        obtain ⟨ua688_4, uc688_4, ua688_5, uc688_5, rfl, ul688_4, ge688_4, ul688_5, ge688_5⟩ := k26_openF hMe688
        have hv688_4 := hcc688 4 _ rfl
        rw [add_field _ _ 4 (by omega)] at hv688_4
        replace hv688_4 := Option.some.inj (hv688_4.symm.trans hx688_4)
        injection hv688_4 with hva_ hvn_ hvc_
        rw [hva_] at ge688_4
        rw [hvc_] at ul688_4
        have HL688_4 := Aside0.mk (show Kd.V k41 41 _ w.heap.size _ _ ((rd_T26 l0 x11_1).f4) from Kd.V_mk ul688_4 ge688_4)
        clear hva_ hvn_ hvc_ ge688_4 ul688_4
        have hv688_5 := hcc688 5 _ rfl
        rw [add_field _ _ 5 (by omega)] at hv688_5
        replace hv688_5 := Option.some.inj (hv688_5.symm.trans hx688_5)
        injection hv688_5 with hva_ hvn_ hvc_
        rw [hva_] at ge688_5
        rw [hvc_] at ul688_5
        have HL688_5 := Aside0.mk (show Kd.V k41 41 _ w.heap.size _ _ ((rd_T26 l0 x11_1).f5) from Kd.V_mk ul688_5 ge688_5)
        clear hva_ hvn_ hvc_ ge688_5 ul688_5; clear hcc688 hce688; have HR688_4 := Aside0.mk hi688_4; have HC688_4 := Aside0.mk hl688_4; clear hi688_4 hl688_4; have HR688_5 := Aside0.mk hi688_5; have HC688_5 := Aside0.mk hl688_5; clear hi688_5 hl688_5; replace p688 := eq_true p688; replace q688 := eq_true q688
        go_wp2_with (first | ((with_reducible refine gate_dst (N := 7) rfl ?_); refine box_event ?hg (N := 7) ?hd (cs := #[.int .u64 0, .int .u64 0, .int .u64 0, .int .u64 0, .slice none 0 0, .slice none 0 0]) (t := 26) ?hr ?_; (case hd => rfl); (case hg => rfl); (case hr => first | (go_simp; done) | (go_simp; rfl)); intro gb689 hg w10 hbox hb; have n0_ := Aside0.mk (Kd.N_below (Kd.N_elderB (by exact HO_5.out) gb689 (Nat.le_of_eq hg.symm)) hb); have n1_ := Aside0.mk (Kd.V_below (Kd.V_elderB (by exact HO_9.out) gb689 (Nat.le_of_eq hg.symm)) hb); have n2_ := Aside0.mk (Kd.V_below (Kd.V_elderB (by exact HL688_4.out) gb689 (Nat.le_of_eq hg.symm)) hb); have n3_ := Aside0.mk (Kd.V_below (Kd.V_elderB (by exact HL688_5.out) gb689 (Nat.le_of_eq hg.symm)) hb); have n4_ := Aside0.mk (Kd.C_below HR688_4.out hb); have n5_ := Aside0.mk (Kd.C_below HR688_5.out hb); have n6_ := Aside0.mk (below_step bl_ hb); have n7_ := Aside0.mk (hbox); have n8_ := Aside0.mk (bsz_ hg : w.heap.size ≤ gb689); have n9_ := Aside0.mk (bsz_ hg : w.heap.size ≤ gb689); clear HO_5; clear HO_9; clear HL688_4; clear HL688_5; clear HR688_4; clear HR688_5; clear HB; have HO_5 := n0_; have HO_9 := n1_; have HL688_4 := n2_; have HL688_5 := n3_; have HR688_4 := n4_; have HR688_5 := n5_; have HB := n6_; have BK689 := n7_; have GW689 := n8_; have GE689 := n9_; clear n0_ n1_ n2_ n3_ n4_ n5_ n6_ n7_ n8_ n9_; clear hb hbox hg; obtain ⟨hcz11_0, hcz11_1, hcz11_2, hcz11_3, hcz11_4, hcz11_5, hfz11_0, hfz11_1, hfz11_2, hfz11_3, hfz11_4, hfz11_5⟩ := blk6_ BK689.out) | ((with_reducible refine gate_store (t := 26) (p := 7) rfl ?_); refine store_event (t := 26) (p := 7) (v := ?vo_w12) (w1 := ((((((w10.setCell ⟨gb689, 0, none⟩ (.int .u64 ((rd_T26 l0 x11_1).f0))).setCell ⟨gb689, 1, none⟩ (.int .u64 ((rd_T26 l0 x11_1).f1))).setCell ⟨gb689, 2, none⟩ (.int .u64 ((rd_T26 l0 x11_1).f2))).setCell ⟨gb689, 3, none⟩ (.int .u64 ((rd_T26 l0 x11_1).f3))).setCell ⟨gb689, 4, none⟩ (.slice A688_4 ((rd_T26 l0 x11_1).f4).length c688_4)).setCell ⟨gb689, 5, none⟩ (.slice A688_5 ((rd_T26 l0 x11_1).f5).length c688_5))) ?hg ?ho ?hn ?hr ?_; (case ho => rfl); (case hg => rfl); (case hn => rfl); (case hr => first | (go_simp; done) | (go_simp; rfl)); intro w12 hw; have n0_ : Aside0 (Kd.N k26 26 w12 w.heap.size (fun k_ => (P0_ k_ ∨ w.heap.size ≤ k_) ∧ k_ ≠ gb689) u5 x5_1) := ⟨(by rw [hw]; exact (by exact Kd.N_mono (Kd.N_far (p := ⟨gb689, 5, none⟩) (Kd.N_far (p := ⟨gb689, 4, none⟩) (Kd.N_far (p := ⟨gb689, 3, none⟩) (Kd.N_far (p := ⟨gb689, 2, none⟩) (Kd.N_far (p := ⟨gb689, 1, none⟩) (Kd.N_far (p := ⟨gb689, 0, none⟩) (Kd.N_mono HO_5.out (fun k_ hk => (⟨hk, hk.2⟩ : _ ∧ k_ ≠ gb689))) (fun _ hk => hk.2) (.int .u64 ((rd_T26 l0 x11_1).f0))) (fun _ hk => hk.2) (.int .u64 ((rd_T26 l0 x11_1).f1))) (fun _ hk => hk.2) (.int .u64 ((rd_T26 l0 x11_1).f2))) (fun _ hk => hk.2) (.int .u64 ((rd_T26 l0 x11_1).f3))) (fun _ hk => hk.2) (.slice A688_4 ((rd_T26 l0 x11_1).f4).length c688_4)) (fun _ hk => hk.2) (.slice A688_5 ((rd_T26 l0 x11_1).f5).length c688_5)) (fun _ hk => ⟨hk.1.1, hk.1.2⟩)))⟩; have n1_ : Aside0 (Kd.V k26 26 w12 w.heap.size (fun k_ => (P0_ k_ ∨ w.heap.size ≤ k_) ∧ some k_ ≠ (u5 : Value).ownBlock ∧ k_ ≠ gb689) (.slice (some ad688) l0.length c0) l0) := ⟨(by rw [hw]; exact (by exact Kd.V_mono (Kd.V_far (p := ⟨gb689, 5, none⟩) (Kd.V_far (p := ⟨gb689, 4, none⟩) (Kd.V_far (p := ⟨gb689, 3, none⟩) (Kd.V_far (p := ⟨gb689, 2, none⟩) (Kd.V_far (p := ⟨gb689, 1, none⟩) (Kd.V_far (p := ⟨gb689, 0, none⟩) (Kd.V_mono HO_9.out (fun k_ hk => (⟨hk, hk.2⟩ : _ ∧ k_ ≠ gb689))) (fun _ hk => hk.2) (.int .u64 ((rd_T26 l0 x11_1).f0))) (fun _ hk => hk.2) (.int .u64 ((rd_T26 l0 x11_1).f1))) (fun _ hk => hk.2) (.int .u64 ((rd_T26 l0 x11_1).f2))) (fun _ hk => hk.2) (.int .u64 ((rd_T26 l0 x11_1).f3))) (fun _ hk => hk.2) (.slice A688_4 ((rd_T26 l0 x11_1).f4).length c688_4)) (fun _ hk => hk.2) (.slice A688_5 ((rd_T26 l0 x11_1).f5).length c688_5)) (fun _ hk => ⟨hk.1.1.1, ⟨hk.1.1.2, hk.1.2⟩⟩)))⟩; have n2_ : Aside0 (Kd.V k41 41 w12 w.heap.size (fun k_ => (P0_ k_ ∨ w.heap.size ≤ k_) ∧ some k_ ≠ (u5 : Value).ownBlock ∧ k_ ≠ gb689) (.slice A688_4 ((rd_T26 l0 x11_1).f4).length c688_4) ((rd_T26 l0 x11_1).f4)) := ⟨(by rw [hw]; exact (by exact Kd.V_mono (Kd.V_far (p := ⟨gb689, 5, none⟩) (Kd.V_far (p := ⟨gb689, 4, none⟩) (Kd.V_far (p := ⟨gb689, 3, none⟩) (Kd.V_far (p := ⟨gb689, 2, none⟩) (Kd.V_far (p := ⟨gb689, 1, none⟩) (Kd.V_far (p := ⟨gb689, 0, none⟩) (Kd.V_mono HL688_4.out (fun k_ hk => (⟨hk, hk.2⟩ : _ ∧ k_ ≠ gb689))) (fun _ hk => hk.2) (.int .u64 ((rd_T26 l0 x11_1).f0))) (fun _ hk => hk.2) (.int .u64 ((rd_T26 l0 x11_1).f1))) (fun _ hk => hk.2) (.int .u64 ((rd_T26 l0 x11_1).f2))) (fun _ hk => hk.2) (.int .u64 ((rd_T26 l0 x11_1).f3))) (fun _ hk => hk.2) (.slice A688_4 ((rd_T26 l0 x11_1).f4).length c688_4)) (fun _ hk => hk.2) (.slice A688_5 ((rd_T26 l0 x11_1).f5).length c688_5)) (fun _ hk => ⟨hk.1.1.1, ⟨hk.1.1.2, hk.1.2⟩⟩)))⟩; have n3_ : Aside0 (Kd.V k41 41 w12 w.heap.size (fun k_ => (P0_ k_ ∨ w.heap.size ≤ k_) ∧ some k_ ≠ (u5 : Value).ownBlock ∧ k_ ≠ gb689) (.slice A688_5 ((rd_T26 l0 x11_1).f5).length c688_5) ((rd_T26 l0 x11_1).f5)) := ⟨(by rw [hw]; exact (by exact Kd.V_mono (Kd.V_far (p := ⟨gb689, 5, none⟩) (Kd.V_far (p := ⟨gb689, 4, none⟩) (Kd.V_far (p := ⟨gb689, 3, none⟩) (Kd.V_far (p := ⟨gb689, 2, none⟩) (Kd.V_far (p := ⟨gb689, 1, none⟩) (Kd.V_far (p := ⟨gb689, 0, none⟩) (Kd.V_mono HL688_5.out (fun k_ hk => (⟨hk, hk.2⟩ : _ ∧ k_ ≠ gb689))) (fun _ hk => hk.2) (.int .u64 ((rd_T26 l0 x11_1).f0))) (fun _ hk => hk.2) (.int .u64 ((rd_T26 l0 x11_1).f1))) (fun _ hk => hk.2) (.int .u64 ((rd_T26 l0 x11_1).f2))) (fun _ hk => hk.2) (.int .u64 ((rd_T26 l0 x11_1).f3))) (fun _ hk => hk.2) (.slice A688_4 ((rd_T26 l0 x11_1).f4).length c688_4)) (fun _ hk => hk.2) (.slice A688_5 ((rd_T26 l0 x11_1).f5).length c688_5)) (fun _ hk => ⟨hk.1.1.1, ⟨hk.1.1.2, hk.1.2⟩⟩)))⟩; have n4_ : Aside0 (w12.heap[gb689]? = some (.cells #[.int .u64 ((rd_T26 l0 x11_1).f0), .int .u64 ((rd_T26 l0 x11_1).f1), .int .u64 ((rd_T26 l0 x11_1).f2), .int .u64 ((rd_T26 l0 x11_1).f3), .slice A688_4 ((rd_T26 l0 x11_1).f4).length c688_4, .slice A688_5 ((rd_T26 l0 x11_1).f5).length c688_5] 26 (0, 0))) := ⟨(by rw [hw]; exact (by (with_reducible repeat (first | refine blk_drewN ?_ _ | refine blk_drew ?_ | refine blk_alloc ?_ _)); refine blk_put (cs := #[.int .u64 ((rd_T26 l0 x11_1).f0), .int .u64 ((rd_T26 l0 x11_1).f1), .int .u64 ((rd_T26 l0 x11_1).f2), .int .u64 ((rd_T26 l0 x11_1).f3), .slice A688_4 ((rd_T26 l0 x11_1).f4).length c688_4, .slice none 0 0]) ?_ 5 _ rfl; refine blk_put (cs := #[.int .u64 ((rd_T26 l0 x11_1).f0), .int .u64 ((rd_T26 l0 x11_1).f1), .int .u64 ((rd_T26 l0 x11_1).f2), .int .u64 ((rd_T26 l0 x11_1).f3), .slice none 0 0, .slice none 0 0]) ?_ 4 _ rfl; refine blk_put (cs := #[.int .u64 ((rd_T26 l0 x11_1).f0), .int .u64 ((rd_T26 l0 x11_1).f1), .int .u64 ((rd_T26 l0 x11_1).f2), .int .u64 0, .slice none 0 0, .slice none 0 0]) ?_ 3 _ rfl; refine blk_put (cs := #[.int .u64 ((rd_T26 l0 x11_1).f0), .int .u64 ((rd_T26 l0 x11_1).f1), .int .u64 0, .int .u64 0, .slice none 0 0, .slice none 0 0]) ?_ 2 _ rfl; refine blk_put (cs := #[.int .u64 ((rd_T26 l0 x11_1).f0), .int .u64 0, .int .u64 0, .int .u64 0, .slice none 0 0, .slice none 0 0]) ?_ 1 _ rfl; refine blk_put (cs := #[.int .u64 0, .int .u64 0, .int .u64 0, .int .u64 0, .slice none 0 0, .slice none 0 0]) ?_ 0 _ rfl; exact BK689.out))⟩; have n5_ : Aside0 (Below w.heap.size w w12) := ⟨(by rw [hw]; exact bl_)⟩; clear hw; clear HO_5; clear HO_9; clear HL688_4; clear HL688_5; clear BK689; clear HB; have HO_5 := n0_; have HO_9 := n1_; have HL688_4 := n2_; have HL688_5 := n3_; have BK689 := n4_; have HB := n5_; clear n0_ n1_ n2_ n3_ n4_ n5_; obtain ⟨hcz13_0, hcz13_1, hcz13_2, hcz13_3, hcz13_4, hcz13_5, hfz13_0, hfz13_1, hfz13_2, hfz13_3, hfz13_4, hfz13_5⟩ := blk6_ BK689.out) | ((with_reducible refine gate_builtin (b := .append) (xs := #[.tmp 19, .tmp 21]) rfl ?_); at_builtin; refine Kd.N_append k26 (w0 := w) w.heap.size rfl (.tmp 19) (.tmp 21) 22 26 (.agg #[(.int .u64 0), (.int .u64 0), (.int .u64 0), (.int .u64 0), (.slice none 0 0), (.slice none 0 0)]) 80 rfl Try.underlying22 info26 rfl (by decide) (by omega) u5 x5_1 (⟨(rd_T26 l0 x11_1).f0, (rd_T26 l0 x11_1).f1, (rd_T26 l0 x11_1).f2, (rd_T26 l0 x11_1).f3, (rd_T26 l0 x11_1).f4, (rd_T26 l0 x11_1).f5⟩ : S26) [.int .u64 ((rd_T26 l0 x11_1).f0), .int .u64 ((rd_T26 l0 x11_1).f1), .int .u64 ((rd_T26 l0 x11_1).f2), .int .u64 ((rd_T26 l0 x11_1).f3), .slice A688_4 ((rd_T26 l0 x11_1).f4).length c688_4, .slice A688_5 ((rd_T26 l0 x11_1).f5).length c688_5] (fun k_ => (P0_ k_ ∨ w.heap.size ≤ k_) ∧ k_ ≠ gb689) (fun k_ => ((fun k_ => (P0_ k_ ∨ w.heap.size ≤ k_) ∧ k_ ≠ gb689)) k_ ∧ some k_ ≠ (u5 : Value).ownBlock) rfl rfl ?aP (fun _ hk => hk) ?aF ?aO ?aB ?aS ?aL ?_; (case aP => exact (k26_mkF _ _ (⟨(rd_T26 l0 x11_1).f0, (rd_T26 l0 x11_1).f1, (rd_T26 l0 x11_1).f2, (rd_T26 l0 x11_1).f3, (rd_T26 l0 x11_1).f4, (rd_T26 l0 x11_1).f5⟩ : S26) (Kd.V_reads' (Kd.V_mono (ok' := (fun k_ => ((fun k_ => (P0_ k_ ∨ w.heap.size ≤ k_) ∧ k_ ≠ gb689)) k_ ∧ some k_ ≠ (u5 : Value).ownBlock)) (HL688_4.out) (fun k_ hk => ⟨⟨hk.1, hk.2.2⟩, hk.2.1⟩))).2.1 (Kd.V_F (Kd.V_mono (ok' := (fun k_ => ((fun k_ => (P0_ k_ ∨ w.heap.size ≤ k_) ∧ k_ ≠ gb689)) k_ ∧ some k_ ≠ (u5 : Value).ownBlock)) (HL688_4.out) (fun k_ hk => ⟨⟨hk.1, hk.2.2⟩, hk.2.1⟩))) (Kd.V_reads' (Kd.V_mono (ok' := (fun k_ => ((fun k_ => (P0_ k_ ∨ w.heap.size ≤ k_) ∧ k_ ≠ gb689)) k_ ∧ some k_ ≠ (u5 : Value).ownBlock)) (HL688_5.out) (fun k_ hk => ⟨⟨hk.1, hk.2.2⟩, hk.2.1⟩))).2.1 (Kd.V_F (Kd.V_mono (ok' := (fun k_ => ((fun k_ => (P0_ k_ ∨ w.heap.size ≤ k_) ∧ k_ ≠ gb689)) k_ ∧ some k_ ≠ (u5 : Value).ownBlock)) (HL688_5.out) (fun k_ hk => ⟨⟨hk.1, hk.2.2⟩, hk.2.1⟩))))); (case aB => exact bl_); (case aF => exact (fun k_ hk => ⟨(.inr (Nat.le_trans (below_size bl_) hk)), Kd.freshB (g := gb689) (o := .cells #[.int .u64 ((rd_T26 l0 x11_1).f0), .int .u64 ((rd_T26 l0 x11_1).f1), .int .u64 ((rd_T26 l0 x11_1).f2), .int .u64 ((rd_T26 l0 x11_1).f3), .slice A688_4 ((rd_T26 l0 x11_1).f4).length c688_4, .slice A688_5 ((rd_T26 l0 x11_1).f5).length c688_5] 26 (0, 0)) (by (with_reducible repeat (first | refine blk_drewN ?_ _ | refine blk_drew ?_ | refine blk_alloc ?_ _)); exact BK689.out) k_ hk⟩)); (case aO => exact (by exact HO_5.out)); (case aS => exact (below_size bl_)); (case aL => have := LMc9.out; omega); intro v691 w14 ho hb hg hat; rw [← Ny690.out] at ho; have n0_ := Aside0.mk (Kd.V_afterv (ok := (fun k_ => (P0_ k_ ∨ w.heap.size ≤ k_) ∧ k_ ≠ gb689)) (by exact Kd.V_mono HO_9.out (fun _ hk => ⟨⟨hk.1, hk.2.2⟩, hk.2.1⟩)) hg hat); have n1_ := Aside0.mk (Kd.V_afterv (ok := (fun k_ => (P0_ k_ ∨ w.heap.size ≤ k_) ∧ k_ ≠ gb689)) (by exact Kd.V_mono HL688_4.out (fun _ hk => ⟨⟨hk.1, hk.2.2⟩, hk.2.1⟩)) hg hat); have n2_ := Aside0.mk (Kd.V_afterv (ok := (fun k_ => (P0_ k_ ∨ w.heap.size ≤ k_) ∧ k_ ≠ gb689)) (by exact Kd.V_mono HL688_5.out (fun _ hk => ⟨⟨hk.1, hk.2.2⟩, hk.2.1⟩)) hg hat); have n3_ := Aside0.mk (blk_grown (g := gb689) (o := .cells #[.int .u64 ((rd_T26 l0 x11_1).f0), .int .u64 ((rd_T26 l0 x11_1).f1), .int .u64 ((rd_T26 l0 x11_1).f2), .int .u64 ((rd_T26 l0 x11_1).f3), .slice A688_4 ((rd_T26 l0 x11_1).f4).length c688_4, .slice A688_5 ((rd_T26 l0 x11_1).f5).length c688_5] 26 (0, 0)) (by (with_reducible repeat (first | refine blk_drewN ?_ _ | refine blk_drew ?_ | refine blk_alloc ?_ _)); exact BK689.out) hg (Kd.N_away HO_5.out (fun _ hk => hk.2))); have n4_ := Aside0.mk (hb); have n5_ := Aside0.mk (ho); clear HO_9; clear HL688_4; clear HL688_5; clear BK689; clear HB; clear HO_5; have HO_9 := n0_; have HL688_4 := n1_; have HL688_5 := n2_; have BK689 := n3_; have HB := n4_; have HO692 := n5_; clear n0_ n1_ n2_ n3_ n4_ n5_; clear ho hb hg hat))
        go_roundg k1
        case measure => have := HK1.out; omega
        case rel => exact ⟨(y690), (wrap64 (x11_1 + 1)), (by first | rfl | (simp; done) | (simp [*]; done)), H', ⟨by have := HK1.out; omega⟩, ⟨by exact Kd.N_mono HO692.out (fun _ hk => hk.1)⟩, ⟨by exact Kd.V_mono HO_9.out (fun _ hk => ⟨hk.1.1, hk.2⟩)⟩, ⟨bl_⟩⟩
       ·rw [if_neg c9] at H
        exact absurd H (by simp)
      ·rw [if_neg c8] at H
       have c8b0 : decide (a1 < ((rd_T26 l0 x11_1).f1)) = false := decide_eq_false c8
       clear c8; have H' := Aside0.mk H; clear H
       have p688 : 0 ≤ (x11_1 : Int) := od_
       have q688 : x11_1 < (l0.length : Int) := od_
       obtain ⟨ad688, A688_4, c688_4, A688_5, c688_5, e688, hx688_0, hx688_1, hx688_2, hx688_3, hx688_4, hx688_5, hl688_4, hi688_4, hl688_5, hi688_5⟩ := at_T26 (Kd.V_reads' HO_9.out).2.2 x11_1 p688 q688
       cases e688
       obtain ⟨ce688, hce688, hMe688, hcc688⟩ := Kd.V_get HO_9.out z26 x11_1 p688 (by first | exact q688 | exact od_ | (have e_ := (Kd.V_reads' HO_9.out).1; omega))
       obtain ⟨ua688_4, uc688_4, ua688_5, uc688_5, rfl, ul688_4, ge688_4, ul688_5, ge688_5⟩ := k26_openF hMe688
       have hv688_4 := hcc688 4 _ rfl
       rw [add_field _ _ 4 (by omega)] at hv688_4
       replace hv688_4 := Option.some.inj (hv688_4.symm.trans hx688_4)
       injection hv688_4 with hva_ hvn_ hvc_
       rw [hva_] at ge688_4
       rw [hvc_] at ul688_4
       have HL688_4 := Aside0.mk (show Kd.V k41 41 _ w.heap.size _ _ ((rd_T26 l0 x11_1).f4) from Kd.V_mk ul688_4 ge688_4)
       clear hva_ hvn_ hvc_ ge688_4 ul688_4
       have hv688_5 := hcc688 5 _ rfl
       rw [add_field _ _ 5 (by omega)] at hv688_5
       replace hv688_5 := Option.some.inj (hv688_5.symm.trans hx688_5)
       injection hv688_5 with hva_ hvn_ hvc_
       rw [hva_] at ge688_5
       rw [hvc_] at ul688_5
       have HL688_5 := Aside0.mk (show Kd.V k41 41 _ w.heap.size _ _ ((rd_T26 l0 x11_1).f5) from Kd.V_mk ul688_5 ge688_5)
       clear hva_ hvn_ hvc_ ge688_5 ul688_5; clear hcc688 hce688; have HR688_4 := Aside0.mk hi688_4; have HC688_4 := Aside0.mk hl688_4; clear hi688_4 hl688_4; have HR688_5 := Aside0.mk hi688_5; have HC688_5 := Aside0.mk hl688_5; clear hi688_5 hl688_5; replace p688 := eq_true p688; replace q688 := eq_true q688
       go_wp2_with (first | ((with_reducible refine gate_dst (N := 7) rfl ?_); refine box_event ?hg (N := 7) ?hd (cs := #[.int .u64 0, .int .u64 0, .int .u64 0, .int .u64 0, .slice none 0 0, .slice none 0 0]) (t := 26) ?hr ?_; (case hd => rfl); (case hg => rfl); (case hr => first | (go_simp; done) | (go_simp; rfl)); intro gb689 hg w15 hbox hb; have n0_ := Aside0.mk (Kd.N_below (Kd.N_elderB (by exact HO_5.out) gb689 (Nat.le_of_eq hg.symm)) hb); have n1_ := Aside0.mk (Kd.V_below (Kd.V_elderB (by exact HO_9.out) gb689 (Nat.le_of_eq hg.symm)) hb); have n2_ := Aside0.mk (Kd.V_below (Kd.V_elderB (by exact HL688_4.out) gb689 (Nat.le_of_eq hg.symm)) hb); have n3_ := Aside0.mk (Kd.V_below (Kd.V_elderB (by exact HL688_5.out) gb689 (Nat.le_of_eq hg.symm)) hb); have n4_ := Aside0.mk (Kd.C_below HR688_4.out hb); have n5_ := Aside0.mk (Kd.C_below HR688_5.out hb); have n6_ := Aside0.mk (below_step bl_ hb); have n7_ := Aside0.mk (hbox); have n8_ := Aside0.mk (bsz_ hg : w.heap.size ≤ gb689); have n9_ := Aside0.mk (bsz_ hg : w.heap.size ≤ gb689); clear HO_5; clear HO_9; clear HL688_4; clear HL688_5; clear HR688_4; clear HR688_5; clear HB; have HO_5 := n0_; have HO_9 := n1_; have HL688_4 := n2_; have HL688_5 := n3_; have HR688_4 := n4_; have HR688_5 := n5_; have HB := n6_; have BK689 := n7_; have GW689 := n8_; have GE689 := n9_; clear n0_ n1_ n2_ n3_ n4_ n5_ n6_ n7_ n8_ n9_; clear hb hbox hg; obtain ⟨hcz16_0, hcz16_1, hcz16_2, hcz16_3, hcz16_4, hcz16_5, hfz16_0, hfz16_1, hfz16_2, hfz16_3, hfz16_4, hfz16_5⟩ := blk6_ BK689.out))
       go_roundg k1
       case measure => have := HK1.out; omega
       case rel => exact ⟨(x5_1), (wrap64 (x11_1 + 1)), (by first | rfl | (simp; done) | (simp [*]; done)), H', ⟨by have := HK1.out; omega⟩, ⟨by exact Kd.N_mono (Kd.N_far (p := ⟨gb689, 5, none⟩) (Kd.N_far (p := ⟨gb689, 4, none⟩) (Kd.N_far (p := ⟨gb689, 3, none⟩) (Kd.N_far (p := ⟨gb689, 2, none⟩) (Kd.N_far (p := ⟨gb689, 1, none⟩) (Kd.N_far (p := ⟨gb689, 0, none⟩) (Kd.N_mono HO_5.out (fun k_ hk => (⟨hk, hk.2⟩ : _ ∧ k_ ≠ gb689))) (fun _ hk => hk.2) (.int .u64 ((rd_T26 l0 x11_1).f0))) (fun _ hk => hk.2) (.int .u64 ((rd_T26 l0 x11_1).f1))) (fun _ hk => hk.2) (.int .u64 ((rd_T26 l0 x11_1).f2))) (fun _ hk => hk.2) (.int .u64 ((rd_T26 l0 x11_1).f3))) (fun _ hk => hk.2) (.slice A688_4 ((rd_T26 l0 x11_1).f4).length c688_4)) (fun _ hk => hk.2) (.slice A688_5 ((rd_T26 l0 x11_1).f5).length c688_5)) (fun _ hk => hk.1.1)⟩, ⟨by exact Kd.V_mono (Kd.V_far (p := ⟨gb689, 5, none⟩) (Kd.V_far (p := ⟨gb689, 4, none⟩) (Kd.V_far (p := ⟨gb689, 3, none⟩) (Kd.V_far (p := ⟨gb689, 2, none⟩) (Kd.V_far (p := ⟨gb689, 1, none⟩) (Kd.V_far (p := ⟨gb689, 0, none⟩) (Kd.V_mono HO_9.out (fun k_ hk => (⟨hk, hk.2⟩ : _ ∧ k_ ≠ gb689))) (fun _ hk => hk.2) (.int .u64 ((rd_T26 l0 x11_1).f0))) (fun _ hk => hk.2) (.int .u64 ((rd_T26 l0 x11_1).f1))) (fun _ hk => hk.2) (.int .u64 ((rd_T26 l0 x11_1).f2))) (fun _ hk => hk.2) (.int .u64 ((rd_T26 l0 x11_1).f3))) (fun _ hk => hk.2) (.slice A688_4 ((rd_T26 l0 x11_1).f4).length c688_4)) (fun _ hk => hk.2) (.slice A688_5 ((rd_T26 l0 x11_1).f5).length c688_5)) (fun _ hk => ⟨hk.1.1.1, hk.1.1.2⟩)⟩, ⟨bl_⟩⟩
     ·rw [if_neg c7] at H
      exact absurd H (by simp)
    ·rw [if_neg c6] at H
     exact absurd H (by simp)
   ·rw [if_neg c5] at H
    have c5b0 : decide (x11_1 < (l0.length : Int)) = false := decide_eq_false c5
    clear c5; obtain rfl := Option.some.inj H
    go_wp2
    go_ret
    exact ⟨_, by first | rfl | (simp [errW_none, errW_some] <;> rfl) | (simp [*, errW_none, errW_some] <;> rfl), by exact HO_5.out, bl_⟩
def conductorref10_Fit.l0 : Nat → Int → Int → List (S26) → Option ((List (S26)))
 | 0, _, _, _ => none
 | k + 1, x1, x2, x7 => if (x7.length : Int) > (mx x1 1) then (if 0 < (x7.length : Int) then (if 1 < (x7.length : Int) then ((conductorref10_Join.f k ((rd_T26 x7 0).f0) ((rd_T26 x7 0).f1) ((rd_T26 x7 0).f2) ((rd_T26 x7 0).f3) ((rd_T26 x7 0).f4) ((rd_T26 x7 0).f5) ((rd_T26 x7 1).f0) ((rd_T26 x7 1).f1) ((rd_T26 x7 1).f2) ((rd_T26 x7 1).f3) ((rd_T26 x7 1).f4) ((rd_T26 x7 1).f5) x2).bind fun bt701 => ((some (([(⟨bt701.1, bt701.2.1, bt701.2.2.1, bt701.2.2.2.1, bt701.2.2.2.2.1, bt701.2.2.2.2.2⟩ : S26)] : List (S26)) : List (S26))).bind fun y711 => (if 2 ≤ (x7.length : Int) then ((some (x7.drop 2 : List (S26))).bind fun y714 => (if y711.length + y714.length < 1759218604441 then (conductorref10_Fit.l0 k x1 x2 (y711 ++ y714)) else (none))) else (none)))) else (none)) else (none)) else (some x7)
def conductorref10_Fit.f (k : Nat) (l0 : List (S26)) (a1 : Int) (a2 : Int) : Option ((List (S26))) := (some (([] : List (S26)) : List (S26))).bind fun y693 => (if y693.length + l0.length < 1759218604441 then (conductorref10_Fit.l0 k a1 a2 (y693 ++ l0)) else (none))
def conductorref10_Fit.T3 : Bool × List (List Nat × List Nat) := (true, [([], []), ([0], [0]), ([1], [1]), ([], []), ([3], [3]), ([4], [4]), ([], []), ([2, 5, 6], [2, 5, 6]), ([7], [7]), ([8, 7, 0, 1, 2, 3, 4, 5, 6, 7, 8], [8])])
def conductorref10_Fit.B3 : List Nat := [0, 1, 3, 0, 8, 24, 0, 127, 255, 511]
theorem conductorref10_Fit.tab3 : rtab .any (opsOf Try.f51 3) = conductorref10_Fit.T3 := by kernel_rfl
theorem conductorref10_Fit.bits3 : waitsOk conductorref10_Fit.T3.2 conductorref10_Fit.B3 = true := by kernel_rfl
set_option maxHeartbeats 8000000 in
set_option maxRecDepth 100000 in
theorem conductorref10_Fit.calls (k : Nat) (P0_ : Nat → Prop) (A0 : Option Addr) (c0 : Nat) (l0 : List (S26)) (a1 : Int) (a2 : Int) (r : List (S26)) (w : World) (hs0 : Kd.V k26 26 w w.heap.size (fun k_ => P0_ k_) (.slice A0 l0.length c0) l0) (h : conductorref10_Fit.f k l0 a1 a2 = some r) :
  Calls Try.prog 51 #[.slice A0 l0.length c0, .int .i64 a1, .int .i64 a2] w fun e w' => ∃ v0_ : Value, e = .returned (v0_) ∧ Kd.N k26 26 w' w.heap.size (fun k_ => (P0_ k_ ∨ w.heap.size ≤ k_)) v0_ r ∧ Below w.heap.size w w' := by
 have hu26 := Try.underlying26
 have HO0 := Aside0.mk (show Kd.V k26 26 w w.heap.size (fun k_ => (P0_ k_ ∨ w.heap.size ≤ k_)) (.slice A0 l0.length c0) l0 from Kd.V_mono hs0 (fun k_ hk => .inl hk))
 have HB := Aside0.mk (Below.refl w.heap.size w)
 have H : ((some (([] : List (S26)) : List (S26))).bind fun y693 => (if y693.length + l0.length < 1759218604441 then (conductorref10_Fit.l0 k a1 a2 (y693 ++ l0)) else (none))) = some r := h
 clear h
 obtain ⟨y693, hy693⟩ : ∃ y_ : List (S26), y_ = (([] : List (S26))) := ⟨_, rfl⟩
 replace H : (if y693.length + l0.length < 1759218604441 then (conductorref10_Fit.l0 k a1 a2 (y693 ++ l0)) else (none)) = some r := by first | (rw [hy693]; with_reducible exact H) | (have H2_ := (Option.bind_some _ _).symm.trans H; rw [hy693]; with_reducible exact H2_) | (have H2_ := (Option.bind_some _ _).symm.trans H; with_reducible exact H2_) | with_reducible exact H | (rw [hy693]; exact H) | exact H
 have Ny693 := Aside0.mk hy693; clear hy693
 by_cases c4 : y693.length + l0.length < 1759218604441
 ·rw [if_pos c4] at H
  have LMc4 := Aside0.mk c4; clear c4
  obtain ⟨y696, hy696⟩ : ∃ y_ : List (S26), y_ = (y693 ++ l0) := ⟨_, rfl⟩
  replace H : (conductorref10_Fit.l0 k a1 a2 y696) = some r := by first | (rw [hy696]; with_reducible exact H) | (have H2_ := (Option.bind_some _ _).symm.trans H; rw [hy696]; with_reducible exact H2_) | (have H2_ := (Option.bind_some _ _).symm.trans H; with_reducible exact H2_) | with_reducible exact H | (rw [hy696]; exact H) | exact H
  have Ny696 := Aside0.mk hy696; clear hy696; have H' := Aside0.mk H; clear H
  go_enter Try.func51, Try.ntmps51
  go_wp2_with (first | ((with_reducible refine gate_dst (N := 9) rfl ?_); refine Kd.N_lit k26 _ 26 ?hg (N' := 9) ?hd (xs := ([] : List (S26))) (inner := []) (ok := (fun k_ => (P0_ k_ ∨ w.heap.size ≤ k_))) (okp := (fun k_ => (P0_ k_ ∨ w.heap.size ≤ k_))) ?hr ?hp (fun _ hk => hk) ((show ∀ k_, w.heap.size ≤ k_ → (fun k_ => (P0_ k_ ∨ w.heap.size ≤ k_)) k_ from fun k_ hk => (.inr (Nat.le_trans (below_size bl_) hk))) _ (Nat.le_refl _)) (Below.refl _ _) (Nat.le_refl _) (by simp) ?_; (case hd => rfl); (case hg => rfl); (case hr => first | (go_simp; done) | (go_simp; rfl)); (case hp => exact (Reps.none _ _)); intro v694 w5 ho6 hb hg_ hnew_; clear hg_ hnew_; (first | rw [← Ny693.out] at ho6 | (simp only [Int.reduceToNat] at ho6; rw [← Ny693.out] at ho6)); have n0_ := Aside0.mk (Kd.V_elder' (by exact HO0.out) (Kd.N_base ho6) hb); have n1_ := Aside0.mk (Kd.N_lower ho6 (below_size bl_)); have n2_ := Aside0.mk (below_step bl_ hb); clear HO0; clear HB; have HO0 := n0_; have HO695 := n1_; have HB := n2_; clear n0_ n1_ n2_; clear hb ho6) | ((with_reducible refine gate_builtin (b := .append) (xs := #[.tmp 9, .tmp 10]) rfl ?_); at_builtin; refine Kd.N_append_rows k26 (w0 := w) w.heap.size rfl (.tmp 9) (.tmp 10) 22 26 (.agg #[(.int .u64 0), (.int .u64 0), (.int .u64 0), (.int .u64 0), (.slice none 0 0), (.slice none 0 0)]) 80 rfl Try.underlying22 info26 rfl (by decide) (by omega) v694 y693 l0 _ _ _ (fun k_ => (P0_ k_ ∨ w.heap.size ≤ k_)) (fun k_ => ((fun k_ => (P0_ k_ ∨ w.heap.size ≤ k_))) k_ ∧ some k_ ≠ (v694 : Value).ownBlock) rfl rfl ?aO ?aR (fun _ hk => hk) ?aF ?aB ?aS ?aL ?_; (case aR => exact (by skip; exact Kd.V_F (Kd.V_mono (ok' := (fun k_ => ((fun k_ => (P0_ k_ ∨ w.heap.size ≤ k_))) k_ ∧ some k_ ≠ (v694 : Value).ownBlock)) (HO0.out) (fun k_ hk => ⟨hk.1, hk.2⟩)))); (case aB => exact bl_); (case aF => exact (fun k_ hk => (.inr (Nat.le_trans (below_size bl_) hk)))); (case aO => exact (by exact HO695.out)); (case aS => exact (below_size bl_)); (case aL => have := LMc4.out; omega); intro v697 w7 ho hb hg hat; rw [← Ny696.out] at ho; have n0_ := Aside0.mk (Kd.V_afterv (ok := (fun k_ => (P0_ k_ ∨ w.heap.size ≤ k_))) (by exact HO0.out) hg hat); have n1_ := Aside0.mk (hb); have n2_ := Aside0.mk (ho); clear HO0; clear HB; clear HO695; have HO0 := n0_; have HB := n1_; have HO698 := n2_; clear n0_ n1_ n2_; clear ho hb hg hat))
  go_loopg [7] k (fun kq v7 w' => ∃ (x7_1 : List (S26)), Aside0 (conductorref10_Fit.l0 kq a1 a2 x7_1 = some r) ∧ Aside0 (kq ≤ k) ∧ Aside0 (Kd.N k26 26 w' w.heap.size (fun k_ => (P0_ k_ ∨ w.heap.size ≤ k_)) v7 x7_1) ∧ Aside0 (Below w.heap.size w w'))
  case atStart => exact ⟨(y696), H', ⟨Nat.le_refl _⟩, ⟨by exact HO698.out⟩, ⟨bl_⟩⟩
  case round =>
   clear H'; obtain ⟨x7_1, HA, HK1, HO_7, HB⟩ := hrel
   cases gk with
   | zero => exact absurd HA.out (by simp [conductorref10_Fit.l0])
   | succ k1 =>
    have H := HA.out
    clear HA
    simp only [conductorref10_Fit.l0] at H
    obtain ⟨ji8, hji8⟩ : ∃ j_ : Int, (mx a1 1) = j_ := ⟨_, rfl⟩
    replace H : (if (x7_1.length : Int) > (ji8) then (if 0 < (x7_1.length : Int) then (if 1 < (x7_1.length : Int) then ((conductorref10_Join.f k1 ((rd_T26 x7_1 0).f0) ((rd_T26 x7_1 0).f1) ((rd_T26 x7_1 0).f2) ((rd_T26 x7_1 0).f3) ((rd_T26 x7_1 0).f4) ((rd_T26 x7_1 0).f5) ((rd_T26 x7_1 1).f0) ((rd_T26 x7_1 1).f1) ((rd_T26 x7_1 1).f2) ((rd_T26 x7_1 1).f3) ((rd_T26 x7_1 1).f4) ((rd_T26 x7_1 1).f5) a2).bind fun bt701 => ((some (([(⟨bt701.1, bt701.2.1, bt701.2.2.1, bt701.2.2.2.1, bt701.2.2.2.2.1, bt701.2.2.2.2.2⟩ : S26)] : List (S26)) : List (S26))).bind fun y711 => (if 2 ≤ (x7_1.length : Int) then ((some (x7_1.drop 2 : List (S26))).bind fun y714 => (if y711.length + y714.length < 1759218604441 then (conductorref10_Fit.l0 k1 a1 a2 (y711 ++ y714)) else (none))) else (none)))) else (none)) else (none)) else (some x7_1)) = some r := by first | (rw [hji8] at H; exact H) | (simp only [hji8] at H ⊢; exact H)
    (try rw [hji8] at hji4)
    (try rw [hji8] at hji4w)
    (try rw [hji8] at hji5)
    (try rw [hji8] at hji5w)
    (try rw [hji8] at hji26)
    (try rw [hji8] at hji26w)
    (try rw [hji8] at hji40)
    (try rw [hji8] at hji40w)
    (try rw [hji8] at hji4)
    (try rw [hji8] at hji4w)
    (try (have hji8l : 1 ≤ ji8 := by (rw [← hji8]; unfold mx; (repeat' split) <;> omega)))
    (try (have hji8m : 0 ≤ ji8 := by omega))
    have hji8_ : (if a1 < 1 then 1 else a1) = ji8 := hji8
    by_cases c9 : (x7_1.length : Int) > (ji8)
    ·rw [if_pos c9] at H
     have c9b0 : decide ((ji8) < (x7_1.length : Int)) = true := decide_eq_true c9
     clear c9
     by_cases c10 : 0 < (x7_1.length : Int)
     ·rw [if_pos c10] at H
      have c10b0 : decide (0 < (x7_1.length : Int)) = true := decide_eq_true c10
      have c10b1 : decide (0 < x7_1.length) = true := decide_eq_true (by omega)
      clear c10
      by_cases c11 : 1 < (x7_1.length : Int)
      ·rw [if_pos c11] at H
       have c11b0 : decide (1 < (x7_1.length : Int)) = true := decide_eq_true c11
       have c11b1 : decide (1 < x7_1.length) = true := decide_eq_true (by omega)
       clear c11; replace H := Option.bind_eq_some_iff.mp H; obtain ⟨⟨t701, t702, t703, t704, t705, t708⟩, A120, H⟩ := H
       replace H : ((some (([(⟨t701, t702, t703, t704, t705, t708⟩ : S26)] : List (S26)) : List (S26))).bind fun y711 => (if 2 ≤ (x7_1.length : Int) then ((some (x7_1.drop 2 : List (S26))).bind fun y714 => (if y711.length + y714.length < 1759218604441 then (conductorref10_Fit.l0 k1 a1 a2 (y711 ++ y714)) else (none))) else (none))) = some r := H
       have A12 := Aside0.mk A120; clear A120
       obtain ⟨y711, hy711⟩ : ∃ y_ : List (S26), y_ = (([(⟨t701, t702, t703, t704, t705, t708⟩ : S26)] : List (S26))) := ⟨_, rfl⟩
       replace H : (if 2 ≤ (x7_1.length : Int) then ((some (x7_1.drop 2 : List (S26))).bind fun y714 => (if y711.length + y714.length < 1759218604441 then (conductorref10_Fit.l0 k1 a1 a2 (y711 ++ y714)) else (none))) else (none)) = some r := by first | (rw [hy711]; with_reducible exact H) | (have H2_ := (Option.bind_some _ _).symm.trans H; rw [hy711]; with_reducible exact H2_) | (have H2_ := (Option.bind_some _ _).symm.trans H; with_reducible exact H2_) | with_reducible exact H | (rw [hy711]; exact H) | exact H
       have Ny711 := Aside0.mk hy711; clear hy711
       by_cases c13 : 2 ≤ (x7_1.length : Int)
       ·rw [if_pos c13] at H
        have c13b0 := eq_true c13
        have c13b1 : decide (2 ≤ (x7_1.length : Int)) = true := decide_eq_true c13
        clear c13
        obtain ⟨y714, hy714⟩ : ∃ y_ : List (S26), y_ = (x7_1.drop 2) := ⟨_, rfl⟩
        replace H : (if y711.length + y714.length < 1759218604441 then (conductorref10_Fit.l0 k1 a1 a2 (y711 ++ y714)) else (none)) = some r := by first | (rw [hy714]; with_reducible exact H) | (have H2_ := (Option.bind_some _ _).symm.trans H; rw [hy714]; with_reducible exact H2_) | (have H2_ := (Option.bind_some _ _).symm.trans H; with_reducible exact H2_) | with_reducible exact H | (rw [hy714]; exact H) | exact H
        have Ny714 := Aside0.mk hy714; clear hy714
        by_cases c14 : y711.length + y714.length < 1759218604441
        ·rw [if_pos c14] at H
         have LMc14 := Aside0.mk c14; clear c14
         obtain ⟨y719, hy719⟩ : ∃ y_ : List (S26), y_ = (y711 ++ y714) := ⟨_, rfl⟩
         replace H : (conductorref10_Fit.l0 k1 a1 a2 y719) = some r := by first | (rw [hy719]; with_reducible exact H) | (have H2_ := (Option.bind_some _ _).symm.trans H; rw [hy719]; with_reducible exact H2_) | (have H2_ := (Option.bind_some _ _).symm.trans H; with_reducible exact H2_) | with_reducible exact H | (rw [hy719]; exact H) | exact H
         have Ny719 := Aside0.mk hy719; clear hy719; have H' := Aside0.mk H; clear H; obtain ⟨Ao15, co15, eo15⟩ := Kd.N_slice HO_7.out; subst eo15
         try go_wp2
         have n0_ := Aside0.mk (Kd.N_drew HO_7.out)
         have n1_ := Aside0.mk (below_drew1 HB.out)
         clear HO_7; clear HB; have HO_7 := n0_; have HB := n1_; clear n0_ n1_
         have p699 : 0 ≤ (0 : Int) := (by omega)
         have q699 : 0 < (x7_1.length : Int) := od_
         obtain ⟨ad699, A699_4, c699_4, A699_5, c699_5, e699, hx699_0, hx699_1, hx699_2, hx699_3, hx699_4, hx699_5, hl699_4, hi699_4, hl699_5, hi699_5⟩ := at_T26 (Kd.N_reads' HO_7.out).2.2 0 p699 q699
         cases e699
         obtain ⟨ce699, hce699, hMe699, hcc699⟩ := Kd.N_get HO_7.out z26 0 p699 (by first | exact q699 | exact od_ | (have e_ := (Kd.N_reads' HO_7.out).1; omega))
         obtain ⟨ua699_4, uc699_4, ua699_5, uc699_5, rfl, ul699_4, ge699_4, ul699_5, ge699_5⟩ := k26_openF hMe699
         have hv699_4 := hcc699 4 _ rfl
         rw [add_field _ _ 4 (by omega)] at hv699_4
         replace hv699_4 := Option.some.inj (hv699_4.symm.trans hx699_4)
         injection hv699_4 with hva_ hvn_ hvc_
         rw [hva_] at ge699_4
         rw [hvc_] at ul699_4
         have HL699_4 := Aside0.mk (show Kd.V k41 41 _ w.heap.size _ _ ((rd_T26 x7_1 0).f4) from Kd.V_mk ul699_4 ge699_4)
         clear hva_ hvn_ hvc_ ge699_4 ul699_4
         have hv699_5 := hcc699 5 _ rfl
         rw [add_field _ _ 5 (by omega)] at hv699_5
         replace hv699_5 := Option.some.inj (hv699_5.symm.trans hx699_5)
         injection hv699_5 with hva_ hvn_ hvc_
         rw [hva_] at ge699_5
         rw [hvc_] at ul699_5
         have HL699_5 := Aside0.mk (show Kd.V k41 41 _ w.heap.size _ _ ((rd_T26 x7_1 0).f5) from Kd.V_mk ul699_5 ge699_5)
         clear hva_ hvn_ hvc_ ge699_5 ul699_5; clear hcc699 hce699
         have qi699 : (0 < x7_1.length) = True := eq_true (by omega)
         (try rw [show ((0 : Int)).toNat = 0 from rfl] at hx699_0)
         (try rw [show 0 * 6 = 0 from rfl] at hx699_0)
         (try rw [Addr.add_zero'] at hx699_0)
         (try rw [show ((0 : Int)).toNat = 0 from rfl] at hx699_1)
         (try rw [show 0 * 6 = 0 from rfl] at hx699_1)
         (try rw [Addr.add_zero'] at hx699_1)
         (try rw [show ((0 : Int)).toNat = 0 from rfl] at hx699_2)
         (try rw [show 0 * 6 = 0 from rfl] at hx699_2)
         (try rw [Addr.add_zero'] at hx699_2)
         (try rw [show ((0 : Int)).toNat = 0 from rfl] at hx699_3)
         (try rw [show 0 * 6 = 0 from rfl] at hx699_3)
         (try rw [Addr.add_zero'] at hx699_3)
         (try rw [show ((0 : Int)).toNat = 0 from rfl] at hx699_4)
         (try rw [show 0 * 6 = 0 from rfl] at hx699_4)
         (try rw [Addr.add_zero'] at hx699_4)
         (try rw [show ((0 : Int)).toNat = 0 from rfl] at hx699_5)
         (try rw [show 0 * 6 = 0 from rfl] at hx699_5)
         (try rw [Addr.add_zero'] at hx699_5)
         have HR699_4 := Aside0.mk hi699_4; have HC699_4 := Aside0.mk hl699_4; clear hi699_4 hl699_4; have HR699_5 := Aside0.mk hi699_5; have HC699_5 := Aside0.mk hl699_5; clear hi699_5 hl699_5; replace p699 := eq_true p699; replace q699 := eq_true q699
         have p700 : 0 ≤ (1 : Int) := (by omega)
         have q700 : 1 < (x7_1.length : Int) := od_
         obtain ⟨ad700, A700_4, c700_4, A700_5, c700_5, e700, hx700_0, hx700_1, hx700_2, hx700_3, hx700_4, hx700_5, hl700_4, hi700_4, hl700_5, hi700_5⟩ := at_T26 (Kd.N_reads' HO_7.out).2.2 1 p700 q700
         obtain rfl : ad699 = ad700 := (by injection e700)
         obtain ⟨ce700, hce700, hMe700, hcc700⟩ := Kd.N_get HO_7.out z26 1 p700 (by first | exact q700 | exact od_ | (have e_ := (Kd.N_reads' HO_7.out).1; omega))
         obtain ⟨ua700_4, uc700_4, ua700_5, uc700_5, rfl, ul700_4, ge700_4, ul700_5, ge700_5⟩ := k26_openF hMe700
         have hv700_4 := hcc700 4 _ rfl
         rw [add_field _ _ 4 (by omega)] at hv700_4
         replace hv700_4 := Option.some.inj (hv700_4.symm.trans hx700_4)
         injection hv700_4 with hva_ hvn_ hvc_
         rw [hva_] at ge700_4
         rw [hvc_] at ul700_4
         have HL700_4 := Aside0.mk (show Kd.V k41 41 _ w.heap.size _ _ ((rd_T26 x7_1 1).f4) from Kd.V_mk ul700_4 ge700_4)
         clear hva_ hvn_ hvc_ ge700_4 ul700_4
         have hv700_5 := hcc700 5 _ rfl
         rw [add_field _ _ 5 (by omega)] at hv700_5
         replace hv700_5 := Option.some.inj (hv700_5.symm.trans hx700_5)
         injection hv700_5 with hva_ hvn_ hvc_
         rw [hva_] at ge700_5
         rw [hvc_] at ul700_5
         have HL700_5 := Aside0.mk (show Kd.V k41 41 _ w.heap.size _ _ ((rd_T26 x7_1 1).f5) from Kd.V_mk ul700_5 ge700_5)
         clear hva_ hvn_ hvc_ ge700_5 ul700_5; clear hcc700 hce700
         (try simp only [show (1 : Int).toNat = 1 from rfl, Nat.reduceMul, Nat.reduceEqDiff, Go.Addr.add, ↓reduceIte] at hx700_0)
         (try simp only [show (1 : Int).toNat = 1 from rfl, Nat.reduceMul, Nat.reduceEqDiff, Go.Addr.add, ↓reduceIte] at hx700_1)
         (try simp only [show (1 : Int).toNat = 1 from rfl, Nat.reduceMul, Nat.reduceEqDiff, Go.Addr.add, ↓reduceIte] at hx700_2)
         (try simp only [show (1 : Int).toNat = 1 from rfl, Nat.reduceMul, Nat.reduceEqDiff, Go.Addr.add, ↓reduceIte] at hx700_3)
         (try simp only [show (1 : Int).toNat = 1 from rfl, Nat.reduceMul, Nat.reduceEqDiff, Go.Addr.add, ↓reduceIte] at hx700_4)
         (try simp only [show (1 : Int).toNat = 1 from rfl, Nat.reduceMul, Nat.reduceEqDiff, Go.Addr.add, ↓reduceIte] at hx700_5)
         have qi700 : (1 < x7_1.length) = True := eq_true (by omega)
         (try rw [show ((1 : Int)).toNat = 1 from rfl] at hx700_0)
         (try rw [show 1 * 6 = 6 from rfl] at hx700_0)
         (try rw [show ((1 : Int)).toNat = 1 from rfl] at hx700_1)
         (try rw [show 1 * 6 = 6 from rfl] at hx700_1)
         (try rw [show ((1 : Int)).toNat = 1 from rfl] at hx700_2)
         (try rw [show 1 * 6 = 6 from rfl] at hx700_2)
         (try rw [show ((1 : Int)).toNat = 1 from rfl] at hx700_3)
         (try rw [show 1 * 6 = 6 from rfl] at hx700_3)
         (try rw [show ((1 : Int)).toNat = 1 from rfl] at hx700_4)
         (try rw [show 1 * 6 = 6 from rfl] at hx700_4)
         (try rw [show ((1 : Int)).toNat = 1 from rfl] at hx700_5)
         (try rw [show 1 * 6 = 6 from rfl] at hx700_5)
         have HR700_4 := Aside0.mk hi700_4; have HC700_4 := Aside0.mk hl700_4; clear hi700_4 hl700_4; have HR700_5 := Aside0.mk hi700_5; have HC700_5 := Aside0.mk hl700_5; clear hi700_5 hl700_5; replace p700 := eq_true p700; replace q700 := eq_true q700
         refine start_ (n := 10) (S := fun w' => w'.cell? ad699 = some (.int .u64 ((rd_T26 x7_1 0).f0)) ∧ w'.cell? ⟨ad699.block, ad699.off + 1, none⟩ = some (.int .u64 ((rd_T26 x7_1 0).f1)) ∧ w'.cell? ⟨ad699.block, ad699.off + 2, none⟩ = some (.int .u64 ((rd_T26 x7_1 0).f2)) ∧ w'.cell? ⟨ad699.block, ad699.off + 3, none⟩ = some (.int .u64 ((rd_T26 x7_1 0).f3)) ∧ w'.cell? ⟨ad699.block, ad699.off + 4, none⟩ = some (.slice A699_4 ((rd_T26 x7_1 0).f4).length c699_4) ∧ w'.cell? ⟨ad699.block, ad699.off + 5, none⟩ = some (.slice A699_5 ((rd_T26 x7_1 0).f5).length c699_5) ∧ w'.cell? ⟨ad699.block, ad699.off + 6, none⟩ = some (.int .u64 ((rd_T26 x7_1 1).f0)) ∧ w'.cell? ⟨ad699.block, ad699.off + 6 + 1, none⟩ = some (.int .u64 ((rd_T26 x7_1 1).f1)) ∧ w'.cell? ⟨ad699.block, ad699.off + 6 + 2, none⟩ = some (.int .u64 ((rd_T26 x7_1 1).f2)) ∧ w'.cell? ⟨ad699.block, ad699.off + 6 + 3, none⟩ = some (.int .u64 ((rd_T26 x7_1 1).f3)) ∧ w'.cell? ⟨ad699.block, ad699.off + 6 + 4, none⟩ = some (.slice A700_4 ((rd_T26 x7_1 1).f4).length c700_4) ∧ w'.cell? ⟨ad699.block, ad699.off + 6 + 5, none⟩ = some (.slice A700_5 ((rd_T26 x7_1 1).f5).length c700_5)) (ds := []) (fst_ 10 0) (by kernel_rfl) rfl rfl ⟨hx699_0, hx699_1, hx699_2, hx699_3, hx699_4, hx699_5, hx700_0, hx700_1, hx700_2, hx700_3, hx700_4, hx700_5⟩ (fun hHeld => ?_); refine with_tabW conductorref10_Fit.tab3 conductorref10_Fit.bits3 (fun HT_ HW_ => ?_)
         generalize wr.drew = w16 at HO_7 HB HL699_4 HL699_5 HL700_4 HL700_5 HR699_4 HR699_5 HR700_4 HR700_5 hx699_0 hx699_1 hx699_2 hx699_3 hx699_4 hx699_5 hx700_0 hx700_1 hx700_2 hx700_3 hx700_4 hx700_5 hHeld ⊢
         iterate 2 (refine pk_ (v := ?_) (a' := ?_) HT_.out rfl rfl (by kernel_rfl) (fun _ _ _ h => h) (Or.inl ⟨by rfl, ?_⟩) ?_ ?_; rotate_left; (· intro w'; go_simp; with_reducible rfl); rotate_left; (· simp only [Act.put, List.setIfInBounds_toArray, List.set_cons_zero, List.set_cons_succ, i64_w, i32_w]; rfl))
         refine pure_ (i := 3) (N := some 20) (v := ?_) (a' := ?_) #[true, true, false, true, false, false, false, false, false, false] rfl rfl (any_of HT_.out (by kernel_rfl)) (fun _ _ _ h => h) (Or.inl ⟨by rfl, ?_⟩) ?_ ?_
         rotate_left
         ·intro w'
          go_simp
          with_reducible rfl
         rotate_left
         ·simp only [Act.put, List.setIfInBounds_toArray, List.set_cons_zero, List.set_cons_succ, i64_w, i32_w]
          rfl
         refine pure_ (i := 4) (N := some 21) (v := ?_) (a' := ?_) #[true, true, false, true, true, false, false, false, false, false] rfl rfl (any_of HT_.out (by kernel_rfl)) (fun _ _ _ h => h) (Or.inl ⟨by rfl, ?_⟩) ?_ ?_
         rotate_left
         ·intro w'
          go_simp
          with_reducible rfl
         rotate_left
         ·simp only [Act.put, List.setIfInBounds_toArray, List.set_cons_zero, List.set_cons_succ, i64_w, i32_w]
          rfl
         refine pure_ (i := 6) (N := some 23) (v := ?_) (a' := ?_) #[true, true, false, true, true, false, true, false, false, false] rfl rfl (any_of HT_.out (by kernel_rfl)) (fun _ _ _ h => h) (Or.inl ⟨by rfl, ?_⟩) ?_ ?_
         rotate_left
         ·intro w'
          go_simp
          with_reducible rfl
         rotate_left
         ·simp only [Act.put, List.setIfInBounds_toArray, List.set_cons_zero, List.set_cons_succ, i64_w, i32_w]
          rfl
         refine take_ (i := 2) (N := some 19) (v := ?_) (a' := ?_) #[true, true, true, true, true, false, true, false, false, false] rfl rfl (take_ofW HT_.out HW_.out (by kernel_rfl)) (fun _ _ _ h => h) (Or.inl ⟨by rfl, ?_⟩) hHeld ?_ ?_
         rotate_left
         ·rintro w' ⟨s0, s1, s2, s3, s4, s5, s6, s7, s8, s9, s10, s11⟩
          go_simp
          with_reducible rfl
         rotate_left
         ·simp only [Act.put, List.setIfInBounds_toArray, List.set_cons_zero, List.set_cons_succ, i64_w, i32_w]
          rfl
         refine take_ (i := 5) (N := some 22) (v := ?_) (a' := ?_) (fst_ 10 7) rfl rfl (take_ofW HT_.out HW_.out (by kernel_rfl)) (fun _ _ _ h => h) (Or.inl ⟨by rfl, ?_⟩) hHeld ?_ ?_
         rotate_left
         ·rintro w' ⟨s0, s1, s2, s3, s4, s5, s6, s7, s8, s9, s10, s11⟩
          go_simp
          with_reducible rfl
         rotate_left
         ·simp only [Act.put, List.setIfInBounds_toArray, List.set_cons_zero, List.set_cons_succ, i64_w, i32_w]
          rfl
         refine one_ (i := 7) (N := some 24) (fst_ 10 8) rfl rfl (one_of HT_.out (by kernel_rfl)) (by decide) (fun K hK => ?_)
         refine goes_ Try.func48 (by kernel_rfl) rfl #[.agg #[.int .u64 ((rd_T26 x7_1 0).f0), .int .u64 ((rd_T26 x7_1 0).f1), .int .u64 ((rd_T26 x7_1 0).f2), .int .u64 ((rd_T26 x7_1 0).f3), .slice A699_4 ((rd_T26 x7_1 0).f4).length c699_4, .slice A699_5 ((rd_T26 x7_1 0).f5).length c699_5], .agg #[.int .u64 ((rd_T26 x7_1 1).f0), .int .u64 ((rd_T26 x7_1 1).f1), .int .u64 ((rd_T26 x7_1 1).f2), .int .u64 ((rd_T26 x7_1 1).f3), .slice A700_4 ((rd_T26 x7_1 1).f4).length c700_4, .slice A700_5 ((rd_T26 x7_1 1).f5).length c700_5], .int .i64 a2] (by rfl) rfl rfl sa_ ?_
         with_reducible refine (conductorref10_Join.calls k1 ((rd_T26 x7_1 0).f0) ((rd_T26 x7_1 0).f1) ((rd_T26 x7_1 0).f2) ((rd_T26 x7_1 0).f3) _ _ ((rd_T26 x7_1 0).f4) _ _ ((rd_T26 x7_1 0).f5) ((rd_T26 x7_1 1).f0) ((rd_T26 x7_1 1).f1) ((rd_T26 x7_1 1).f2) ((rd_T26 x7_1 1).f3) _ _ ((rd_T26 x7_1 1).f4) _ _ ((rd_T26 x7_1 1).f5) a2 t701 t702 t703 t704 t705 t708 _ ?side1 ?side2 ?side3 ?side4 ?side5 ?side6 ?side7 ?side8 A12.out).mono ?_
         (case side1 => exact HR699_4.out)
         (case side2 => exact HC699_4.out)
         (case side3 => exact HR699_5.out)
         (case side4 => exact HC699_5.out)
         (case side5 => exact HR700_4.out)
         (case side6 => exact HC700_4.out)
         (case side7 => exact HR700_5.out)
         (case side8 => exact HC700_5.out)
         rintro e w17 ⟨v706, v709, rfl, ho0, ho1, hb⟩
         have HS0_ := (hb.cell (World.block_lt_of_cell? _ _ (hHeld.1))).trans (hHeld.1)
         have HS1_ := (hb.cell (World.block_lt_of_cell? _ _ (hHeld.2.1))).trans (hHeld.2.1)
         have HS2_ := (hb.cell (World.block_lt_of_cell? _ _ (hHeld.2.2.1))).trans (hHeld.2.2.1)
         have HS3_ := (hb.cell (World.block_lt_of_cell? _ _ (hHeld.2.2.2.1))).trans (hHeld.2.2.2.1)
         have HS4_ := (hb.cell (World.block_lt_of_cell? _ _ (hHeld.2.2.2.2.1))).trans (hHeld.2.2.2.2.1)
         have HS5_ := (hb.cell (World.block_lt_of_cell? _ _ (hHeld.2.2.2.2.2.1))).trans (hHeld.2.2.2.2.2.1)
         have HS6_ := (hb.cell (World.block_lt_of_cell? _ _ (hHeld.2.2.2.2.2.2.1))).trans (hHeld.2.2.2.2.2.2.1)
         have HS7_ := (hb.cell (World.block_lt_of_cell? _ _ (hHeld.2.2.2.2.2.2.2.1))).trans (hHeld.2.2.2.2.2.2.2.1)
         have HS8_ := (hb.cell (World.block_lt_of_cell? _ _ (hHeld.2.2.2.2.2.2.2.2.1))).trans (hHeld.2.2.2.2.2.2.2.2.1)
         have HS9_ := (hb.cell (World.block_lt_of_cell? _ _ (hHeld.2.2.2.2.2.2.2.2.2.1))).trans (hHeld.2.2.2.2.2.2.2.2.2.1)
         have HS10_ := (hb.cell (World.block_lt_of_cell? _ _ (hHeld.2.2.2.2.2.2.2.2.2.2.1))).trans (hHeld.2.2.2.2.2.2.2.2.2.2.1)
         have HS11_ := (hb.cell (World.block_lt_of_cell? _ _ (hHeld.2.2.2.2.2.2.2.2.2.2.2))).trans (hHeld.2.2.2.2.2.2.2.2.2.2.2)
         refine ⟨_, rfl, ?_⟩
         have n0_ := Aside0.mk (Kd.N_mono (Kd.N_told (Kd.N_told (Kd.N_old (by exact HO_7.out) hb) (Kd.R_base ho0)) (Kd.R_base ho1)) (fun _ h_ => h_.1))
         have n1_ := Aside0.mk (Kd.V_mono (Kd.V_told (Kd.V_told (Kd.V_old (by exact HL699_4.out) hb) (Kd.R_base ho0)) (Kd.R_base ho1)) (fun _ h_ => h_.1))
         have n2_ := Aside0.mk (Kd.V_mono (Kd.V_told (Kd.V_told (Kd.V_old (by exact HL699_5.out) hb) (Kd.R_base ho0)) (Kd.R_base ho1)) (fun _ h_ => h_.1))
         have n3_ := Aside0.mk (Kd.V_mono (Kd.V_told (Kd.V_told (Kd.V_old (by exact HL700_4.out) hb) (Kd.R_base ho0)) (Kd.R_base ho1)) (fun _ h_ => h_.1))
         have n4_ := Aside0.mk (Kd.V_mono (Kd.V_told (Kd.V_told (Kd.V_old (by exact HL700_5.out) hb) (Kd.R_base ho0)) (Kd.R_base ho1)) (fun _ h_ => h_.1))
         have n5_ := Aside0.mk (Kd.R_lower (Kd.R_newM (M := fun k_ => (w.heap.size ≤ k_)) ho0 (below_size bl_) (fun k_ h_ => h_)) (below_size bl_))
         have n6_ := Aside0.mk (Kd.R_lower (Kd.R_newM (M := fun k_ => (w.heap.size ≤ k_)) ho1 (below_size bl_) (fun k_ h_ => h_)) (below_size bl_))
         have n7_ := Aside0.mk (Kd.C_below HR699_4.out hb)
         have n8_ := Aside0.mk (Kd.C_below HR699_5.out hb)
         have n9_ := Aside0.mk (Kd.C_below HR700_4.out hb)
         have n10_ := Aside0.mk (Kd.C_below HR700_5.out hb)
         have n11_ := Aside0.mk (below_step bl_ hb)
         clear HO_7; clear HL699_4; clear HL699_5; clear HL700_4; clear HL700_5; clear HR699_4; clear HR699_5; clear HR700_4; clear HR700_5; clear HB; have HO_7 := n0_; have HL699_4 := n1_; have HL699_5 := n2_; have HL700_4 := n3_; have HL700_5 := n4_; have HO707 := n5_; have HO710 := n6_; have HR699_4 := n7_; have HR699_5 := n8_; have HR700_4 := n9_; have HR700_5 := n10_; have HB := n11_; clear n0_ n1_ n2_ n3_ n4_ n5_ n6_ n7_ n8_ n9_ n10_ n11_
         (try clear hb)
         (try clear hb2)
         (try clear hk)
         (try clear hi)
         (try clear ho0)
         (try clear ho1)
         obtain ⟨Ao18, co18, eo18⟩ := Kd.R_slice HO707.out
         (first | subst eo18 | (injection eo18 with f1_ f2_ f3_; have f4_ := f1_.symm; have f5_ := f3_.symm; clear f1_ f2_ f3_; subst f4_; subst f5_))
         obtain ⟨Ao19, co19, eo19⟩ := Kd.R_slice HO710.out
         (first | subst eo19 | (injection eo19 with f1_ f2_ f3_; have f4_ := f1_.symm; have f5_ := f3_.symm; clear f1_ f2_ f3_; subst f4_; subst f5_))
         refine hK.out _ _ ⟨HS0_, HS1_, HS2_, HS3_, HS4_, HS5_, HS6_, HS7_, HS8_, HS9_, HS10_, HS11_⟩ (fun hHeld => ?_)
         clear hK K; refine norm_ (a' := ?_) ?_ ?_; rotate_left
         ·show Act.put _ (some 24) _ = _
          simp only [Act.put, List.setIfInBounds_toArray, List.set_cons_zero, List.set_cons_succ, i64_w, i32_w]
          rfl
         refine one_ (i := 8) (N := some 25) (fst_ 10 9) rfl rfl (one_of HT_.out (by kernel_rfl)) (by decide) (fun K hK => ?_)
         refine Kd.N_lit_step k26 _ 26 ?hg (N' := 25) ?hd (xs := ([(⟨t701, t702, t703, t704, t705, t708⟩ : S26)] : List (S26))) (inner := [.int .u64 t701, .int .u64 t702, .int .u64 t703, .int .u64 t704, .slice Ao18 t705.length co18, .slice Ao19 t708.length co19]) (ok := (fun k_ => (P0_ k_ ∨ w.heap.size ≤ k_) ∧ some k_ ≠ (.slice (some ad699) x7_1.length co15 : Value).ownBlock)) (okp := (fun k_ => (P0_ k_ ∨ w.heap.size ≤ k_) ∧ some k_ ≠ (.slice (some ad699) x7_1.length co15 : Value).ownBlock)) ?hr ?hp (fun _ hk => hk) ((show ∀ k_, w17.heap.size ≤ k_ → (fun k_ => (P0_ k_ ∨ w.heap.size ≤ k_) ∧ some k_ ≠ (.slice (some ad699) x7_1.length co15 : Value).ownBlock) k_ from fun k_ hk => ⟨(.inr (Nat.le_trans (below_size bl_) hk)), Kd.fresh' (Kd.N_lt (by exact HO_7.out)) k_ hk⟩) _ (Nat.le_refl _)) (Below.refl _ _) (Nat.le_refl _) (by simp) ?_; (case hd => rfl); (case hg => rfl); (case hr => first | (go_simp; done) | (go_simp; rfl)); (case hp => exact (Reps.c6 (show Kd.FK k26 _ _ (⟨t701, t702, t703, t704, t705, t708⟩ : S26) [.int .u64 t701, .int .u64 t702, .int .u64 t703, .int .u64 t704, .slice Ao18 t705.length co18, .slice Ao19 t708.length co19] from (k26_mkF _ _ (⟨t701, t702, t703, t704, t705, t708⟩ : S26) (Kd.R_reads' (Kd.R_mono (ok' := (fun k_ => (P0_ k_ ∨ w.heap.size ≤ k_) ∧ some k_ ≠ (.slice (some ad699) x7_1.length co15 : Value).ownBlock)) (Kd.R_apart' (HO707.out) (Kd.N_typed HO_7.out) (by decide)) (fun k_ hk => ⟨(.inr (hk.1.1)), hk.2⟩))).2.1 (Kd.R_F (Kd.R_mono (ok' := (fun k_ => (P0_ k_ ∨ w.heap.size ≤ k_) ∧ some k_ ≠ (.slice (some ad699) x7_1.length co15 : Value).ownBlock)) (Kd.R_apart' (HO707.out) (Kd.N_typed HO_7.out) (by decide)) (fun k_ hk => ⟨(.inr (hk.1.1)), hk.2⟩))) (Kd.R_reads' (Kd.R_mono (ok' := (fun k_ => (P0_ k_ ∨ w.heap.size ≤ k_) ∧ some k_ ≠ (.slice (some ad699) x7_1.length co15 : Value).ownBlock)) (Kd.R_apart' (HO710.out) (Kd.N_typed HO_7.out) (by decide)) (fun k_ hk => ⟨(.inr (hk.1.1)), hk.2⟩))).2.1 (Kd.R_F (Kd.R_mono (ok' := (fun k_ => (P0_ k_ ∨ w.heap.size ≤ k_) ∧ some k_ ≠ (.slice (some ad699) x7_1.length co15 : Value).ownBlock)) (Kd.R_apart' (HO710.out) (Kd.N_typed HO_7.out) (by decide)) (fun k_ hk => ⟨(.inr (hk.1.1)), hk.2⟩))))) (Reps.none _ _)))
         intro v712 w20 ho21 hb hg_ hnew_
         have HS0_ := (hb.cell (World.block_lt_of_cell? _ _ (hHeld.1))).trans (hHeld.1)
         have HS1_ := (hb.cell (World.block_lt_of_cell? _ _ (hHeld.2.1))).trans (hHeld.2.1)
         have HS2_ := (hb.cell (World.block_lt_of_cell? _ _ (hHeld.2.2.1))).trans (hHeld.2.2.1)
         have HS3_ := (hb.cell (World.block_lt_of_cell? _ _ (hHeld.2.2.2.1))).trans (hHeld.2.2.2.1)
         have HS4_ := (hb.cell (World.block_lt_of_cell? _ _ (hHeld.2.2.2.2.1))).trans (hHeld.2.2.2.2.1)
         have HS5_ := (hb.cell (World.block_lt_of_cell? _ _ (hHeld.2.2.2.2.2.1))).trans (hHeld.2.2.2.2.2.1)
         have HS6_ := (hb.cell (World.block_lt_of_cell? _ _ (hHeld.2.2.2.2.2.2.1))).trans (hHeld.2.2.2.2.2.2.1)
         have HS7_ := (hb.cell (World.block_lt_of_cell? _ _ (hHeld.2.2.2.2.2.2.2.1))).trans (hHeld.2.2.2.2.2.2.2.1)
         have HS8_ := (hb.cell (World.block_lt_of_cell? _ _ (hHeld.2.2.2.2.2.2.2.2.1))).trans (hHeld.2.2.2.2.2.2.2.2.1)
         have HS9_ := (hb.cell (World.block_lt_of_cell? _ _ (hHeld.2.2.2.2.2.2.2.2.2.1))).trans (hHeld.2.2.2.2.2.2.2.2.2.1)
         have HS10_ := (hb.cell (World.block_lt_of_cell? _ _ (hHeld.2.2.2.2.2.2.2.2.2.2.1))).trans (hHeld.2.2.2.2.2.2.2.2.2.2.1)
         have HS11_ := (hb.cell (World.block_lt_of_cell? _ _ (hHeld.2.2.2.2.2.2.2.2.2.2.2))).trans (hHeld.2.2.2.2.2.2.2.2.2.2.2)
         clear hg_ hnew_
         (first | rw [← Ny711.out] at ho21 | (simp only [Int.reduceToNat] at ho21; rw [← Ny711.out] at ho21))
         have n0_ := Aside0.mk (Kd.N_elder' (by exact HO_7.out) (Kd.N_base ho21) hb)
         have n1_ := Aside0.mk (Kd.V_elder' (by exact HL699_4.out) (Kd.N_base ho21) hb)
         have n2_ := Aside0.mk (Kd.V_elder' (by exact HL699_5.out) (Kd.N_base ho21) hb)
         have n3_ := Aside0.mk (Kd.V_elder' (by exact HL700_4.out) (Kd.N_base ho21) hb)
         have n4_ := Aside0.mk (Kd.V_elder' (by exact HL700_5.out) (Kd.N_base ho21) hb)
         have n5_ := Aside0.mk (Kd.N_lower ho21 (below_size bl_))
         have n6_ := Aside0.mk (Kd.C_below HR699_4.out hb)
         have n7_ := Aside0.mk (Kd.C_below HR699_5.out hb)
         have n8_ := Aside0.mk (Kd.C_below HR700_4.out hb)
         have n9_ := Aside0.mk (Kd.C_below HR700_5.out hb)
         have n10_ := Aside0.mk (below_step bl_ hb)
         clear HO_7; clear HL699_4; clear HL699_5; clear HL700_4; clear HL700_5; clear HR699_4; clear HR699_5; clear HR700_4; clear HR700_5; clear HB; clear HO707; clear HO710; have HO_7 := n0_; have HL699_4 := n1_; have HL699_5 := n2_; have HL700_4 := n3_; have HL700_5 := n4_; have HO713 := n5_; have HR699_4 := n6_; have HR699_5 := n7_; have HR700_4 := n8_; have HR700_5 := n9_; have HB := n10_; clear n0_ n1_ n2_ n3_ n4_ n5_ n6_ n7_ n8_ n9_ n10_; clear hb ho21
         refine hK.out _ _ ⟨HS0_, HS1_, HS2_, HS3_, HS4_, HS5_, HS6_, HS7_, HS8_, HS9_, HS10_, HS11_⟩ (fun hHeld => ?_)
         clear hK K; refine norm_ (a' := ?_) ?_ ?_; rotate_left
         ·show Act.put _ (some 25) _ = _
          simp only [Act.put, List.setIfInBounds_toArray, List.set_cons_zero, List.set_cons_succ, i64_w, i32_w]
          rfl
         (refine pk_ (v := ?_) (a' := ?_) HT_.out rfl rfl (by kernel_rfl) (fun _ _ _ h => h) (Or.inl ⟨by rfl, ?_⟩) ?_ ?_; rotate_left; (· intro w'; go_simp; with_reducible rfl); rotate_left; (· simp only [Act.put, List.setIfInBounds_toArray, List.set_cons_zero, List.set_cons_succ, i64_w, i32_w]; rfl))
         refine done_ (done_of HT_.out (by kernel_rfl)) ?_
         have q22 : (2 : Int) ≤ ((x7_1.length : Int) : Int) := od_
         obtain ⟨i022, hi022, _, hsz22, _⟩ := info_parts info26
         have hroom22 : x7_1.length ≤ co15 := (Kd.N_reads' HO_7.out).2.1
         have hC22 : Kd.F k26 _ _ (some ad699) x7_1.length x7_1 := (Kd.V_at (base := w.heap.size) (Kd.N_V HO_7.out)).2.2
         have hcut22 := cut_from (P := Try.prog) 22 26 .i64 Try.underlying22 hi022 6 hsz22 (some ad699) x7_1.length co15 2 (by omega) q22
         have hr22 := Kd.F_cut (m := (2 : Int).toNat) (c := co15) hC22 (by omega) hroom22
         obtain ⟨A22, hA22⟩ : ∃ A1, A1 = (if co15 = (2 : Int).toNat then (some ad699) else ((some ad699) : Option Addr).map (·.add ((2 : Int).toNat * 6))) := ⟨_, rfl⟩
         obtain ⟨c22, hc22⟩ : ∃ c1, c1 = co15 - (2 : Int).toNat := ⟨_, rfl⟩
         have hy22 : y714.length = x7_1.length - (2 : Int).toNat := (by rw [Ny714.out, List.length_drop] <;> omega)
         rw [show (x7_1).drop (2 : Int).toNat = y714 from Ny714.out.symm] at hr22
         replace hr22 : Kd.F k26 _ _ A22 y714.length y714 := (by rw [hA22]; exact hr22)
         rw [← hy22, ← hA22, ← hc22] at hcut22
         have HO718 := Aside0.mk (show Kd.V k26 26 _ w.heap.size _ (.slice A22 y714.length c22) y714 from Kd.V_mk (by rw [hy22, hc22]; exact Nat.sub_le_sub_right hroom22 _) hr22)
         have HC718 := Aside0.mk (show y714.length ≤ c22 from by rw [hy22, hc22]; exact Nat.sub_le_sub_right hroom22 _)
         clear hr22 hC22 hroom22 hi022 hsz22 hc22; have KY22 := Aside0.mk hy22; have KA22 := Aside0.mk hA22; clear hy22 hA22; replace q22 := eq_true q22
         try go_wp2_with (first | ((with_reducible refine gate_builtin (b := .append) (xs := #[.tmp 26, .tmp 28]) rfl ?_); at_builtin; refine Kd.N_append_rows k26 (w0 := w) w.heap.size rfl (.tmp 26) (.tmp 28) 22 26 (.agg #[(.int .u64 0), (.int .u64 0), (.int .u64 0), (.int .u64 0), (.slice none 0 0), (.slice none 0 0)]) 80 rfl Try.underlying22 info26 rfl (by decide) (by omega) v712 y711 y714 _ _ _ (fun k_ => (P0_ k_ ∨ w.heap.size ≤ k_)) (fun k_ => ((fun k_ => (P0_ k_ ∨ w.heap.size ≤ k_))) k_ ∧ some k_ ≠ (v712 : Value).ownBlock) rfl rfl ?aO ?aR (fun _ hk => hk) ?aF ?aB ?aS ?aL ?_; (case aR => exact (by skip; exact Kd.V_F (Kd.V_mono (ok' := (fun k_ => ((fun k_ => (P0_ k_ ∨ w.heap.size ≤ k_))) k_ ∧ some k_ ≠ (v712 : Value).ownBlock)) (HO718.out) (fun k_ hk => ⟨hk.1.1.1, hk.2⟩)))); (case aB => exact bl_); (case aF => exact (fun k_ hk => (.inr (Nat.le_trans (below_size bl_) hk)))); (case aO => exact (by exact Kd.N_mono HO713.out (fun _ hk => hk.1))); (case aS => exact (below_size bl_)); (case aL => have := LMc14.out; omega); intro v720 w23 ho hb hg hat; rw [← Ny719.out] at ho; have n0_ := Aside0.mk (Kd.N_afterv (ok := (fun k_ => (P0_ k_ ∨ w.heap.size ≤ k_))) (by exact Kd.N_mono HO_7.out (fun _ hk => ⟨hk.1.1.1, hk.2⟩)) hg hat); have n1_ := Aside0.mk (Kd.V_afterv (ok := (fun k_ => (P0_ k_ ∨ w.heap.size ≤ k_) ∧ some k_ ≠ (.slice (some ad699) x7_1.length co15 : Value).ownBlock)) (by exact Kd.V_mono HL699_4.out (fun _ hk => ⟨⟨hk.1.1.1.1, hk.1.1.1.2⟩, hk.2⟩)) hg hat); have n2_ := Aside0.mk (Kd.V_afterv (ok := (fun k_ => (P0_ k_ ∨ w.heap.size ≤ k_) ∧ some k_ ≠ (.slice (some ad699) x7_1.length co15 : Value).ownBlock)) (by exact Kd.V_mono HL699_5.out (fun _ hk => ⟨⟨hk.1.1.1.1, hk.1.1.1.2⟩, hk.2⟩)) hg hat); have n3_ := Aside0.mk (Kd.V_afterv (ok := (fun k_ => (P0_ k_ ∨ w.heap.size ≤ k_) ∧ some k_ ≠ (.slice (some ad699) x7_1.length co15 : Value).ownBlock)) (by exact Kd.V_mono HL700_4.out (fun _ hk => ⟨⟨hk.1.1.1.1, hk.1.1.1.2⟩, hk.2⟩)) hg hat); have n4_ := Aside0.mk (Kd.V_afterv (ok := (fun k_ => (P0_ k_ ∨ w.heap.size ≤ k_) ∧ some k_ ≠ (.slice (some ad699) x7_1.length co15 : Value).ownBlock)) (by exact Kd.V_mono HL700_5.out (fun _ hk => ⟨⟨hk.1.1.1.1, hk.1.1.1.2⟩, hk.2⟩)) hg hat); have n5_ := Aside0.mk (Kd.V_afterv (ok := (fun k_ => (P0_ k_ ∨ w.heap.size ≤ k_))) (by exact Kd.V_mono HO718.out (fun _ hk => ⟨hk.1.1.1, hk.2⟩)) hg hat); have n6_ := Aside0.mk (hb); have n7_ := Aside0.mk (ho); clear HO_7; clear HL699_4; clear HL699_5; clear HL700_4; clear HL700_5; clear HO718; clear HB; clear HO713; have HO_7 := n0_; have HL699_4 := n1_; have HL699_5 := n2_; have HL700_4 := n3_; have HL700_5 := n4_; have HO718 := n5_; have HB := n6_; have HO721 := n7_; clear n0_ n1_ n2_ n3_ n4_ n5_ n6_ n7_; clear ho hb hg hat))
         go_roundg k1
         case measure => have := HK1.out; omega
         case rel => exact ⟨(y719), H', ⟨by have := HK1.out; omega⟩, ⟨by exact HO721.out⟩, ⟨bl_⟩⟩
        ·rw [if_neg c14] at H
         exact absurd H (by simp)
       ·rw [if_neg c13] at H
        exact absurd H (by simp)
      ·rw [if_neg c11] at H
       exact absurd H (by simp)
     ·rw [if_neg c10] at H
      exact absurd H (by simp)
    ·rw [if_neg c9] at H
     have c9b0 : decide ((ji8) < (x7_1.length : Int)) = false := decide_eq_false c9
     clear c9; obtain rfl := Option.some.inj H; obtain ⟨Ao24, co24, eo24⟩ := Kd.N_slice HO_7.out; subst eo24
     go_wp2
     go_ret
     exact ⟨_, by first | rfl | (simp [errW_none, errW_some] <;> rfl) | (simp only [← hji8]; first | rfl | (simp [errW_none, errW_some] <;> rfl)) | (simp [*, errW_none, errW_some] <;> rfl), by exact HO_7.out, bl_⟩
 ·rw [if_neg c4] at H
  exact absurd H (by simp)
attribute [local go_sem high] eqA41
def api_Span_70.l0 : Nat → List (S41) → List (S41) → Int → Int → Option (Bool)
 | 0, _, _, _, _ => none
 | k + 1, x0, x1, x12, x13 => if x13 < x12 then (if 0 ≤ x13 then (if x13 < (x0.length : Int) then (if x13 < (x1.length : Int) then (if (!((((rd_T41 x0 x13).f0).toList) == (((rd_T41 x1 x13).f0).toList)) || (!((((rd_T41 x0 x13).f1).toList) == (((rd_T41 x1 x13).f1).toList)))) = true then (some false) else (api_Span_70.l0 k x0 x1 x12 (wrap64 (x13 + 1)))) else (none)) else (none)) else (none)) else (some true)
def api_Span_70.f (k : Nat) (l0 : List (S41)) (l1 : List (S41)) : Option (Bool) := if (l0.length : Int) = (l1.length : Int) then (api_Span_70.l0 k l0 l1 (l0.length : Int) 0) else (some false)
set_option maxHeartbeats 8000000 in
set_option maxRecDepth 100000 in
theorem api_Span_70.calls (k : Nat) (A0 : Option Addr) (c0 : Nat) (l0 : List (S41)) (A1 : Option Addr) (c1 : Nat) (l1 : List (S41)) (r : Bool) (w : World) (hr0 : Kd.C k41 w A0 l0.length l0) (hc0 : l0.length ≤ c0) (hr1 : Kd.C k41 w A1 l1.length l1) (hc1 : l1.length ≤ c1) (h : api_Span_70.f k l0 l1 = some r) :
  Calls Try.prog 70 #[.slice A0 l0.length c0, .slice A1 l1.length c1] w fun e w' => e = .returned (.bool r) ∧ Drawn0 w w' := by
 have hu41 := Try.underlying41
 have HR0 := Aside0.mk hr0; have HC0 := Aside0.mk hc0; clear hr0 hc0; have HR1 := Aside0.mk hr1; have HC1 := Aside0.mk hc1; clear hr1 hc1
 have H : (if (l0.length : Int) = (l1.length : Int) then (api_Span_70.l0 k l0 l1 (l0.length : Int) 0) else (some false)) = some r := h
 clear h
 by_cases c3 : (l0.length : Int) = (l1.length : Int)
 ·rw [if_pos c3] at H
  have c3b0 : ((l0.length : Int) == (l1.length : Int)) = true := beq_iff_eq.mpr c3
  have c3b1 : ((l0.length : Int) != (l1.length : Int)) = false := bne_eq_false_iff_eq.mpr c3
  have c3b2 : (l0.length == l1.length) = true := by first | simpa using c3 | (simp at c3 ⊢; omega)
  clear c3; have H' := Aside0.mk H; clear H
  go_enter Try.func70, Try.ntmps70
  go_wp2
  repeat (go_quiet (fail); try go_wp2)
  go_loopg [13] k (fun kq v13 w' => ∃ (x13_1 : Int), v13 = .int .i64 x13_1 ∧ Aside0 (api_Span_70.l0 kq l0 l1 (l0.length : Int) x13_1 = some r) ∧ Aside0 (kq ≤ k) ∧ Drawn0 w w')
  case atStart => exact ⟨(0), (by first | rfl | (simp; done) | (simp [*]; done)), H', ⟨Nat.le_refl _⟩, by repeat (first | exact Drawn0.refl _ | apply Drawn0.step)⟩
  case round =>
   clear H'
   obtain ⟨x13_1, rfl, HA, HK1, ⟨m1, rfl⟩⟩ := hrel
   cases gk with
   | zero => exact absurd HA.out (by simp [api_Span_70.l0])
   | succ k1 =>
    have H := HA.out
    clear HA
    simp only [api_Span_70.l0] at H
    by_cases c4 : x13_1 < (l0.length : Int)
    ·rw [if_pos c4] at H
     have c4b0 : decide (x13_1 < (l0.length : Int)) = true := decide_eq_true c4
     clear c4
     by_cases c5 : 0 ≤ x13_1
     ·rw [if_pos c5] at H
      have c5b0 : decide (0 ≤ x13_1) = true := decide_eq_true c5
      clear c5
      by_cases c6 : x13_1 < (l0.length : Int)
      ·rw [if_pos c6] at H
       have c6b0 : decide (x13_1 < (l0.length : Int)) = true := decide_eq_true c6
       clear c6
       by_cases c7 : x13_1 < (l1.length : Int)
       ·rw [if_pos c7] at H
        have c7b0 : decide (x13_1 < (l1.length : Int)) = true := decide_eq_true c7
        clear c7
        by_cases c8 : (!((((rd_T41 l0 x13_1).f0).toList) == (((rd_T41 l1 x13_1).f0).toList)) || (!((((rd_T41 l0 x13_1).f1).toList) == (((rd_T41 l1 x13_1).f1).toList)))) = true
        ·rw [if_pos c8] at H
         have c8b0 : (!((((rd_T41 l0 x13_1).f0).toList) == (((rd_T41 l1 x13_1).f0).toList)) || (!((((rd_T41 l0 x13_1).f1).toList) == (((rd_T41 l1 x13_1).f1).toList)))) = true := c8
         clear c8; obtain rfl := Option.some.inj H
         have p101 : 0 ≤ (x13_1 : Int) := od_
         have q101 : x13_1 < (l0.length : Int) := od_
         obtain ⟨ad101, e101, hx101_0, hx101_1⟩ := at_T41 HR0.out x13_1 p101 q101; cases e101; replace p101 := eq_true p101; replace q101 := eq_true q101
         have p102 : 0 ≤ (x13_1 : Int) := od_
         have q102 : x13_1 < (l1.length : Int) := od_
         obtain ⟨ad102, e102, hx102_0, hx102_1⟩ := at_T41 HR1.out x13_1 p102 q102; cases e102; replace p102 := eq_true p102; replace q102 := eq_true q102
         go_wp2
         repeat (go_quiet (fail); try go_wp2)
         go_ret
         exact ⟨by first | rfl | (simp; done) | (simp [*]; done), by repeat (first | exact Drawn0.refl _ | apply Drawn0.step)⟩
        ·rw [if_neg c8] at H
         have c8b0 : (!((((rd_T41 l0 x13_1).f0).toList) == (((rd_T41 l1 x13_1).f0).toList)) || (!((((rd_T41 l0 x13_1).f1).toList) == (((rd_T41 l1 x13_1).f1).toList)))) = false := by simpa using c8
         clear c8; have H' := Aside0.mk H; clear H
         have p101 : 0 ≤ (x13_1 : Int) := od_
         have q101 : x13_1 < (l0.length : Int) := od_
         obtain ⟨ad101, e101, hx101_0, hx101_1⟩ := at_T41 HR0.out x13_1 p101 q101; cases e101; replace p101 := eq_true p101; replace q101 := eq_true q101
         have p102 : 0 ≤ (x13_1 : Int) := od_
         have q102 : x13_1 < (l1.length : Int) := od_
         obtain ⟨ad102, e102, hx102_0, hx102_1⟩ := at_T41 HR1.out x13_1 p102 q102; cases e102; replace p102 := eq_true p102; replace q102 := eq_true q102
         go_wp2
         repeat (go_quiet (fail); try go_wp2)
         go_roundg k1
         case measure => have := HK1.out; omega
         case rel => exact ⟨(wrap64 (x13_1 + 1)), (by first | rfl | (simp; done) | (simp [*]; done)), H', ⟨by have := HK1.out; omega⟩, by repeat (first | exact Drawn0.refl _ | apply Drawn0.step)⟩
       ·rw [if_neg c7] at H
        exact absurd H (by simp)
      ·rw [if_neg c6] at H
       exact absurd H (by simp)
     ·rw [if_neg c5] at H
      exact absurd H (by simp)
    ·rw [if_neg c4] at H
     have c4b0 : decide (x13_1 < (l0.length : Int)) = false := decide_eq_false c4
     clear c4; obtain rfl := Option.some.inj H
     go_wp2
     repeat (go_quiet (fail); try go_wp2)
     go_ret
     exact ⟨by first | rfl | (simp; done) | (simp [*]; done), by repeat (first | exact Drawn0.refl _ | apply Drawn0.step)⟩
 ·rw [if_neg c3] at H
  have c3b0 : ((l0.length : Int) == (l1.length : Int)) = false := beq_eq_false_iff_ne.mpr c3
  have c3b1 : ((l0.length : Int) != (l1.length : Int)) = true := bne_iff_ne.mpr c3
  have c3b2 : (l0.length == l1.length) = false := by first | simpa using c3 | (simp at c3 ⊢; omega)
  obtain rfl := Option.some.inj H
  go_enter Try.func70, Try.ntmps70
  go_wp2
  repeat (go_quiet (fail); try go_wp2)
  go_ret
  exact ⟨by first | rfl | (simp; done) | (simp [*]; done), by repeat (first | exact Drawn0.refl _ | apply Drawn0.step)⟩
def span_Same.f (k : Nat) (l0 : List (S41)) (l1 : List (S41)) : Option (Bool) := (api_Span_70.f k l0 l1).bind fun t103 => (some t103)
set_option maxHeartbeats 8000000 in
set_option maxRecDepth 100000 in
theorem span_Same.calls (k : Nat) (A0 : Option Addr) (c0 : Nat) (l0 : List (S41)) (A1 : Option Addr) (c1 : Nat) (l1 : List (S41)) (r : Bool) (w : World) (hr0 : Kd.C k41 w A0 l0.length l0) (hc0 : l0.length ≤ c0) (hr1 : Kd.C k41 w A1 l1.length l1) (hc1 : l1.length ≤ c1) (h : span_Same.f k l0 l1 = some r) :
  Calls Try.prog 43 #[.slice A0 l0.length c0, .slice A1 l1.length c1] w fun e w' => e = .returned (.bool r) ∧ Drawn0 w w' := by
 have HR0 := Aside0.mk hr0; have HC0 := Aside0.mk hc0; clear hr0 hc0; have HR1 := Aside0.mk hr1; have HC1 := Aside0.mk hc1; clear hr1 hc1
 have H : ((api_Span_70.f k l0 l1).bind fun t103 => (some t103)) = some r := h
 clear h; replace H := Option.bind_eq_some_iff.mp H; obtain ⟨t103, A30, H⟩ := H
 replace H : (some t103) = some r := H
 have A3 := Aside0.mk A30; clear A30; obtain rfl := Option.some.inj H
 go_enter Try.func43, Try.ntmps43
 go_wp2_with (first | ((with_reducible refine gate_callee (f := 70) rfl ?_); refine goesL_ (some 7) rfl rfl Try.func70 (by kernel_rfl) rfl #[.slice A0 l0.length c0, .slice A1 l1.length c1] rfl sa_ ?_; (with_reducible refine (api_Span_70.calls k _ _ l0 _ _ l1 t103 _ ?side1 ?side2 ?side3 ?side4 A3.out).mono ?_); (case side1 => exact HR0.out); (case side2 => exact HC0.out); (case side3 => exact HR1.out); (case side4 => exact HC1.out); rintro e w' ⟨rfl, ⟨nd, rfl⟩⟩; refine ⟨_, rfl, ?_⟩))
 go_ret
 exact ⟨by first | rfl | (simp; done) | (simp [*]; done), by repeat (first | exact Drawn0.refl _ | apply Drawn0.step)⟩
def ssi_Same_1.f (k : Nat) (a0_0 : Int) (a0_1 : Int) (a0_2 : Int) (a0_3 : Int) (l0_4 : List (S41)) (l0_5 : List (S41)) (a1_0 : Int) (a1_1 : Int) (a1_2 : Int) (a1_3 : Int) (l1_4 : List (S41)) (l1_5 : List (S41)) : Option (Bool) := if a0_0 = a1_0 then (if a0_1 = a1_1 then (if a0_2 = a1_2 then (if a0_3 = a1_3 then ((span_Same.f k l0_4 l1_4).bind fun t106 => (if t106 = true then ((span_Same.f k l0_5 l1_5).bind fun t107 => (some t107)) else (some false))) else (some false)) else (some false)) else (some false)) else (some false)
set_option maxHeartbeats 8000000 in
set_option maxRecDepth 100000 in
theorem ssi_Same_1.calls (k : Nat) (a0_0 : Int) (a0_1 : Int) (a0_2 : Int) (a0_3 : Int) (A0_4 : Option Addr) (c0_4 : Nat) (l0_4 : List (S41)) (A0_5 : Option Addr) (c0_5 : Nat) (l0_5 : List (S41)) (a1_0 : Int) (a1_1 : Int) (a1_2 : Int) (a1_3 : Int) (A1_4 : Option Addr) (c1_4 : Nat) (l1_4 : List (S41)) (A1_5 : Option Addr) (c1_5 : Nat) (l1_5 : List (S41)) (r : Bool) (w : World) (hr0_4 : Kd.C k41 w A0_4 l0_4.length l0_4) (hc0_4 : l0_4.length ≤ c0_4) (hr0_5 : Kd.C k41 w A0_5 l0_5.length l0_5) (hc0_5 : l0_5.length ≤ c0_5) (hr1_4 : Kd.C k41 w A1_4 l1_4.length l1_4) (hc1_4 : l1_4.length ≤ c1_4) (hr1_5 : Kd.C k41 w A1_5 l1_5.length l1_5) (hc1_5 : l1_5.length ≤ c1_5) (h : ssi_Same_1.f k a0_0 a0_1 a0_2 a0_3 l0_4 l0_5 a1_0 a1_1 a1_2 a1_3 l1_4 l1_5 = some r) :
  Calls Try.prog 75 #[.agg #[.int .u64 a0_0, .int .u64 a0_1, .int .u64 a0_2, .int .u64 a0_3, .slice A0_4 l0_4.length c0_4, .slice A0_5 l0_5.length c0_5], .agg #[.int .u64 a1_0, .int .u64 a1_1, .int .u64 a1_2, .int .u64 a1_3, .slice A1_4 l1_4.length c1_4, .slice A1_5 l1_5.length c1_5]] w fun e w' => e = .returned (.bool r) ∧ Below w.heap.size w w' := by
 have hu26 := Try.underlying26
 have HR0_4 := Aside0.mk hr0_4; have HC0_4 := Aside0.mk hc0_4; clear hr0_4 hc0_4; have HR0_5 := Aside0.mk hr0_5; have HC0_5 := Aside0.mk hc0_5; clear hr0_5 hc0_5; have HR1_4 := Aside0.mk hr1_4; have HC1_4 := Aside0.mk hc1_4; clear hr1_4 hc1_4; have HR1_5 := Aside0.mk hr1_5; have HC1_5 := Aside0.mk hc1_5; clear hr1_5 hc1_5
 have HB := Aside0.mk (Below.refl w.heap.size w)
 have H : (if a0_0 = a1_0 then (if a0_1 = a1_1 then (if a0_2 = a1_2 then (if a0_3 = a1_3 then ((span_Same.f k l0_4 l1_4).bind fun t106 => (if t106 = true then ((span_Same.f k l0_5 l1_5).bind fun t107 => (some t107)) else (some false))) else (some false)) else (some false)) else (some false)) else (some false)) = some r := h
 clear h
 by_cases c3 : a0_0 = a1_0
 ·rw [if_pos c3] at H
  have c3b0 : (a0_0 == a1_0) = true := beq_iff_eq.mpr c3
  have c3b1 : (a0_0 != a1_0) = false := bne_eq_false_iff_eq.mpr c3
  clear c3
  by_cases c4 : a0_1 = a1_1
  ·rw [if_pos c4] at H
   have c4b0 : (a0_1 == a1_1) = true := beq_iff_eq.mpr c4
   have c4b1 : (a0_1 != a1_1) = false := bne_eq_false_iff_eq.mpr c4
   clear c4
   by_cases c5 : a0_2 = a1_2
   ·rw [if_pos c5] at H
    have c5b0 : (a0_2 == a1_2) = true := beq_iff_eq.mpr c5
    have c5b1 : (a0_2 != a1_2) = false := bne_eq_false_iff_eq.mpr c5
    clear c5
    by_cases c6 : a0_3 = a1_3
    ·rw [if_pos c6] at H
     have c6b0 : (a0_3 == a1_3) = true := beq_iff_eq.mpr c6
     have c6b1 : (a0_3 != a1_3) = false := bne_eq_false_iff_eq.mpr c6
     clear c6; replace H := Option.bind_eq_some_iff.mp H; obtain ⟨t106, A70, H⟩ := H
     replace H : (if t106 = true then ((span_Same.f k l0_5 l1_5).bind fun t107 => (some t107)) else (some false)) = some r := H
     have A7 := Aside0.mk A70; clear A70
     by_cases c8 : t106 = true
     ·subst c8
      have H1 : ((span_Same.f k l0_5 l1_5).bind fun t107 => (some t107)) = some r := by rw [if_pos rfl] at H; exact H
      clear H; have H := H1; clear H1; replace H := Option.bind_eq_some_iff.mp H; obtain ⟨t107, A90, H⟩ := H
      replace H : (some t107) = some r := H
      have A9 := Aside0.mk A90; clear A90; obtain rfl := Option.some.inj H
      go_enter Try.func75, Try.ntmps75
      go_wp2_with (first | ((with_reducible refine gate_dst (N := 2) rfl ?_); refine box_event ?hg (N := 2) ?hd (cs := #[.int .u64 a0_0, .int .u64 a0_1, .int .u64 a0_2, .int .u64 a0_3, .slice A0_4 l0_4.length c0_4, .slice A0_5 l0_5.length c0_5]) (t := 26) ?hr ?_; (case hd => rfl); (case hg => rfl); (case hr => first | (go_simp; done) | (go_simp; rfl)); intro gb104 hg w10 hbox hb; have n0_ := Aside0.mk (below_step bl_ hb); have n1_ := Aside0.mk (hbox); have n2_ := Aside0.mk (bsz_ hg : w.heap.size ≤ gb104); have n3_ := Aside0.mk (bsz_ hg : w.heap.size ≤ gb104); clear HB; have HB := n0_; have BK104 := n1_; have GW104 := n2_; have GE104 := n3_; clear n0_ n1_ n2_ n3_; clear hb hbox hg) | ((with_reducible refine gate_dst (N := 3) rfl ?_); refine box_event ?hg (N := 3) ?hd (cs := #[.int .u64 a1_0, .int .u64 a1_1, .int .u64 a1_2, .int .u64 a1_3, .slice A1_4 l1_4.length c1_4, .slice A1_5 l1_5.length c1_5]) (t := 26) ?hr ?_; (case hd => rfl); (case hg => rfl); (case hr => first | (go_simp; done) | (go_simp; rfl)); intro gb105 hg w11 hbox hb; have n0_ := Aside0.mk (blk_below (g := gb104) (o := .cells #[.int .u64 a0_0, .int .u64 a0_1, .int .u64 a0_2, .int .u64 a0_3, .slice A0_4 l0_4.length c0_4, .slice A0_5 l0_5.length c0_5] 26 (0, 0)) (by (with_reducible repeat (first | refine blk_drewN ?_ _ | refine blk_drew ?_ | refine blk_alloc ?_ _)); exact BK104.out) hb); have n1_ := Aside0.mk (below_step bl_ hb); have n2_ := Aside0.mk (hbox); have n3_ := Aside0.mk (bsz_ hg : w.heap.size ≤ gb105); have n4_ := Aside0.mk (bsz_ hg : w.heap.size ≤ gb105); have n5_ := Aside0.mk ((by rw [hg]; exact Nat.ne_of_lt (blk_lt (g := gb104) (o := .cells #[.int .u64 a0_0, .int .u64 a0_1, .int .u64 a0_2, .int .u64 a0_3, .slice A0_4 l0_4.length c0_4, .slice A0_5 l0_5.length c0_5] 26 (0, 0)) (by (with_reducible repeat (first | refine blk_drewN ?_ _ | refine blk_drew ?_ | refine blk_alloc ?_ _)); exact BK104.out)) : gb104 ≠ gb105)); have n6_ := Aside0.mk ((by rw [hg]; exact Nat.ne_of_gt (blk_lt (g := gb104) (o := .cells #[.int .u64 a0_0, .int .u64 a0_1, .int .u64 a0_2, .int .u64 a0_3, .slice A0_4 l0_4.length c0_4, .slice A0_5 l0_5.length c0_5] 26 (0, 0)) (by (with_reducible repeat (first | refine blk_drewN ?_ _ | refine blk_drew ?_ | refine blk_alloc ?_ _)); exact BK104.out)) : gb105 ≠ gb104)); clear BK104; clear HB; have BK104 := n0_; have HB := n1_; have BK105 := n2_; have GW105 := n3_; have GE105 := n4_; have NB104_105 := n5_; have NB105_104 := n6_; clear n0_ n1_ n2_ n3_ n4_ n5_ n6_; clear hb hbox hg; have hnb12 := NB104_105.out; have hnc12 := NB105_104.out; obtain ⟨hcz13_0, hcz13_1, hcz13_2, hcz13_3, hcz13_4, hcz13_5, hfz13_0, hfz13_1, hfz13_2, hfz13_3, hfz13_4, hfz13_5⟩ := blk6_ BK104.out; obtain ⟨hcz14_0, hcz14_1, hcz14_2, hcz14_3, hcz14_4, hcz14_5, hfz14_0, hfz14_1, hfz14_2, hfz14_3, hfz14_4, hfz14_5⟩ := blk6_ BK105.out) | (go_at_call 43; (with_reducible refine (span_Same.calls k _ _ l0_4 _ _ l1_4 true _ ?side1 ?side2 ?side3 ?side4 A7.out).mono ?_); (case side1 => exact (Kd.C_below HR0_4.out HB.out)); (case side2 => exact HC0_4.out); (case side3 => exact (Kd.C_below HR1_4.out HB.out)); (case side4 => exact HC1_4.out); rintro e w' ⟨rfl, ⟨nd, rfl⟩⟩) | (go_at_call 43; (with_reducible refine (span_Same.calls k _ _ l0_5 _ _ l1_5 t107 _ ?side1 ?side2 ?side3 ?side4 A9.out).mono ?_); (case side1 => exact (Kd.C_below HR0_5.out bl_)); (case side2 => exact HC0_5.out); (case side3 => exact (Kd.C_below HR1_5.out bl_)); (case side4 => exact HC1_5.out); rintro e w' ⟨rfl, ⟨nd, rfl⟩⟩))
      go_ret
      exact ⟨by first | rfl | (simp [errW_none, errW_some] <;> rfl) | (simp [*, errW_none, errW_some] <;> rfl), bl_⟩
     ·replace c8 := Bool.eq_false_iff.mpr c8
      subst c8
      have H1 : (some false) = some r := by rw [if_neg (show ¬ (false = true) by decide)] at H; exact H
      clear H; have H := H1; clear H1; obtain rfl := Option.some.inj H
      go_enter Try.func75, Try.ntmps75
      go_wp2_with (first | ((with_reducible refine gate_dst (N := 2) rfl ?_); refine box_event ?hg (N := 2) ?hd (cs := #[.int .u64 a0_0, .int .u64 a0_1, .int .u64 a0_2, .int .u64 a0_3, .slice A0_4 l0_4.length c0_4, .slice A0_5 l0_5.length c0_5]) (t := 26) ?hr ?_; (case hd => rfl); (case hg => rfl); (case hr => first | (go_simp; done) | (go_simp; rfl)); intro gb104 hg w15 hbox hb; have n0_ := Aside0.mk (below_step bl_ hb); have n1_ := Aside0.mk (hbox); have n2_ := Aside0.mk (bsz_ hg : w.heap.size ≤ gb104); have n3_ := Aside0.mk (bsz_ hg : w.heap.size ≤ gb104); clear HB; have HB := n0_; have BK104 := n1_; have GW104 := n2_; have GE104 := n3_; clear n0_ n1_ n2_ n3_; clear hb hbox hg) | ((with_reducible refine gate_dst (N := 3) rfl ?_); refine box_event ?hg (N := 3) ?hd (cs := #[.int .u64 a1_0, .int .u64 a1_1, .int .u64 a1_2, .int .u64 a1_3, .slice A1_4 l1_4.length c1_4, .slice A1_5 l1_5.length c1_5]) (t := 26) ?hr ?_; (case hd => rfl); (case hg => rfl); (case hr => first | (go_simp; done) | (go_simp; rfl)); intro gb105 hg w16 hbox hb; have n0_ := Aside0.mk (blk_below (g := gb104) (o := .cells #[.int .u64 a0_0, .int .u64 a0_1, .int .u64 a0_2, .int .u64 a0_3, .slice A0_4 l0_4.length c0_4, .slice A0_5 l0_5.length c0_5] 26 (0, 0)) (by (with_reducible repeat (first | refine blk_drewN ?_ _ | refine blk_drew ?_ | refine blk_alloc ?_ _)); exact BK104.out) hb); have n1_ := Aside0.mk (below_step bl_ hb); have n2_ := Aside0.mk (hbox); have n3_ := Aside0.mk (bsz_ hg : w.heap.size ≤ gb105); have n4_ := Aside0.mk (bsz_ hg : w.heap.size ≤ gb105); have n5_ := Aside0.mk ((by rw [hg]; exact Nat.ne_of_lt (blk_lt (g := gb104) (o := .cells #[.int .u64 a0_0, .int .u64 a0_1, .int .u64 a0_2, .int .u64 a0_3, .slice A0_4 l0_4.length c0_4, .slice A0_5 l0_5.length c0_5] 26 (0, 0)) (by (with_reducible repeat (first | refine blk_drewN ?_ _ | refine blk_drew ?_ | refine blk_alloc ?_ _)); exact BK104.out)) : gb104 ≠ gb105)); have n6_ := Aside0.mk ((by rw [hg]; exact Nat.ne_of_gt (blk_lt (g := gb104) (o := .cells #[.int .u64 a0_0, .int .u64 a0_1, .int .u64 a0_2, .int .u64 a0_3, .slice A0_4 l0_4.length c0_4, .slice A0_5 l0_5.length c0_5] 26 (0, 0)) (by (with_reducible repeat (first | refine blk_drewN ?_ _ | refine blk_drew ?_ | refine blk_alloc ?_ _)); exact BK104.out)) : gb105 ≠ gb104)); clear BK104; clear HB; have BK104 := n0_; have HB := n1_; have BK105 := n2_; have GW105 := n3_; have GE105 := n4_; have NB104_105 := n5_; have NB105_104 := n6_; clear n0_ n1_ n2_ n3_ n4_ n5_ n6_; clear hb hbox hg; have hnb17 := NB104_105.out; have hnc17 := NB105_104.out; obtain ⟨hcz18_0, hcz18_1, hcz18_2, hcz18_3, hcz18_4, hcz18_5, hfz18_0, hfz18_1, hfz18_2, hfz18_3, hfz18_4, hfz18_5⟩ := blk6_ BK104.out; obtain ⟨hcz19_0, hcz19_1, hcz19_2, hcz19_3, hcz19_4, hcz19_5, hfz19_0, hfz19_1, hfz19_2, hfz19_3, hfz19_4, hfz19_5⟩ := blk6_ BK105.out) | (go_at_call 43; (with_reducible refine (span_Same.calls k _ _ l0_4 _ _ l1_4 false _ ?side1 ?side2 ?side3 ?side4 A7.out).mono ?_); (case side1 => exact (Kd.C_below HR0_4.out HB.out)); (case side2 => exact HC0_4.out); (case side3 => exact (Kd.C_below HR1_4.out HB.out)); (case side4 => exact HC1_4.out); rintro e w' ⟨rfl, ⟨nd, rfl⟩⟩))
      go_ret
      exact ⟨by first | rfl | (simp [errW_none, errW_some] <;> rfl) | (simp [*, errW_none, errW_some] <;> rfl), bl_⟩
    ·rw [if_neg c6] at H
     have c6b0 : (a0_3 == a1_3) = false := beq_eq_false_iff_ne.mpr c6
     have c6b1 : (a0_3 != a1_3) = true := bne_iff_ne.mpr c6
     obtain rfl := Option.some.inj H
     go_enter Try.func75, Try.ntmps75
     go_wp2_with (first | ((with_reducible refine gate_dst (N := 2) rfl ?_); refine box_event ?hg (N := 2) ?hd (cs := #[.int .u64 a0_0, .int .u64 a0_1, .int .u64 a0_2, .int .u64 a0_3, .slice A0_4 l0_4.length c0_4, .slice A0_5 l0_5.length c0_5]) (t := 26) ?hr ?_; (case hd => rfl); (case hg => rfl); (case hr => first | (go_simp; done) | (go_simp; rfl)); intro gb104 hg w20 hbox hb; have n0_ := Aside0.mk (below_step bl_ hb); have n1_ := Aside0.mk (hbox); have n2_ := Aside0.mk (bsz_ hg : w.heap.size ≤ gb104); have n3_ := Aside0.mk (bsz_ hg : w.heap.size ≤ gb104); clear HB; have HB := n0_; have BK104 := n1_; have GW104 := n2_; have GE104 := n3_; clear n0_ n1_ n2_ n3_; clear hb hbox hg) | ((with_reducible refine gate_dst (N := 3) rfl ?_); refine box_event ?hg (N := 3) ?hd (cs := #[.int .u64 a1_0, .int .u64 a1_1, .int .u64 a1_2, .int .u64 a1_3, .slice A1_4 l1_4.length c1_4, .slice A1_5 l1_5.length c1_5]) (t := 26) ?hr ?_; (case hd => rfl); (case hg => rfl); (case hr => first | (go_simp; done) | (go_simp; rfl)); intro gb105 hg w21 hbox hb; have n0_ := Aside0.mk (blk_below (g := gb104) (o := .cells #[.int .u64 a0_0, .int .u64 a0_1, .int .u64 a0_2, .int .u64 a0_3, .slice A0_4 l0_4.length c0_4, .slice A0_5 l0_5.length c0_5] 26 (0, 0)) (by (with_reducible repeat (first | refine blk_drewN ?_ _ | refine blk_drew ?_ | refine blk_alloc ?_ _)); exact BK104.out) hb); have n1_ := Aside0.mk (below_step bl_ hb); have n2_ := Aside0.mk (hbox); have n3_ := Aside0.mk (bsz_ hg : w.heap.size ≤ gb105); have n4_ := Aside0.mk (bsz_ hg : w.heap.size ≤ gb105); have n5_ := Aside0.mk ((by rw [hg]; exact Nat.ne_of_lt (blk_lt (g := gb104) (o := .cells #[.int .u64 a0_0, .int .u64 a0_1, .int .u64 a0_2, .int .u64 a0_3, .slice A0_4 l0_4.length c0_4, .slice A0_5 l0_5.length c0_5] 26 (0, 0)) (by (with_reducible repeat (first | refine blk_drewN ?_ _ | refine blk_drew ?_ | refine blk_alloc ?_ _)); exact BK104.out)) : gb104 ≠ gb105)); have n6_ := Aside0.mk ((by rw [hg]; exact Nat.ne_of_gt (blk_lt (g := gb104) (o := .cells #[.int .u64 a0_0, .int .u64 a0_1, .int .u64 a0_2, .int .u64 a0_3, .slice A0_4 l0_4.length c0_4, .slice A0_5 l0_5.length c0_5] 26 (0, 0)) (by (with_reducible repeat (first | refine blk_drewN ?_ _ | refine blk_drew ?_ | refine blk_alloc ?_ _)); exact BK104.out)) : gb105 ≠ gb104)); clear BK104; clear HB; have BK104 := n0_; have HB := n1_; have BK105 := n2_; have GW105 := n3_; have GE105 := n4_; have NB104_105 := n5_; have NB105_104 := n6_; clear n0_ n1_ n2_ n3_ n4_ n5_ n6_; clear hb hbox hg; have hnb22 := NB104_105.out; have hnc22 := NB105_104.out; obtain ⟨hcz23_0, hcz23_1, hcz23_2, hcz23_3, hcz23_4, hcz23_5, hfz23_0, hfz23_1, hfz23_2, hfz23_3, hfz23_4, hfz23_5⟩ := blk6_ BK104.out; obtain ⟨hcz24_0, hcz24_1, hcz24_2, hcz24_3, hcz24_4, hcz24_5, hfz24_0, hfz24_1, hfz24_2, hfz24_3, hfz24_4, hfz24_5⟩ := blk6_ BK105.out))
     go_ret
     exact ⟨by first | rfl | (simp [errW_none, errW_some] <;> rfl) | (simp [*, errW_none, errW_some] <;> rfl), bl_⟩
   ·rw [if_neg c5] at H
    have c5b0 : (a0_2 == a1_2) = false := beq_eq_false_iff_ne.mpr c5
    have c5b1 : (a0_2 != a1_2) = true := bne_iff_ne.mpr c5
    obtain rfl := Option.some.inj H
    go_enter Try.func75, Try.ntmps75
    go_wp2_with (first | ((with_reducible refine gate_dst (N := 2) rfl ?_); refine box_event ?hg (N := 2) ?hd (cs := #[.int .u64 a0_0, .int .u64 a0_1, .int .u64 a0_2, .int .u64 a0_3, .slice A0_4 l0_4.length c0_4, .slice A0_5 l0_5.length c0_5]) (t := 26) ?hr ?_; (case hd => rfl); (case hg => rfl); (case hr => first | (go_simp; done) | (go_simp; rfl)); intro gb104 hg w25 hbox hb; have n0_ := Aside0.mk (below_step bl_ hb); have n1_ := Aside0.mk (hbox); have n2_ := Aside0.mk (bsz_ hg : w.heap.size ≤ gb104); have n3_ := Aside0.mk (bsz_ hg : w.heap.size ≤ gb104); clear HB; have HB := n0_; have BK104 := n1_; have GW104 := n2_; have GE104 := n3_; clear n0_ n1_ n2_ n3_; clear hb hbox hg) | ((with_reducible refine gate_dst (N := 3) rfl ?_); refine box_event ?hg (N := 3) ?hd (cs := #[.int .u64 a1_0, .int .u64 a1_1, .int .u64 a1_2, .int .u64 a1_3, .slice A1_4 l1_4.length c1_4, .slice A1_5 l1_5.length c1_5]) (t := 26) ?hr ?_; (case hd => rfl); (case hg => rfl); (case hr => first | (go_simp; done) | (go_simp; rfl)); intro gb105 hg w26 hbox hb; have n0_ := Aside0.mk (blk_below (g := gb104) (o := .cells #[.int .u64 a0_0, .int .u64 a0_1, .int .u64 a0_2, .int .u64 a0_3, .slice A0_4 l0_4.length c0_4, .slice A0_5 l0_5.length c0_5] 26 (0, 0)) (by (with_reducible repeat (first | refine blk_drewN ?_ _ | refine blk_drew ?_ | refine blk_alloc ?_ _)); exact BK104.out) hb); have n1_ := Aside0.mk (below_step bl_ hb); have n2_ := Aside0.mk (hbox); have n3_ := Aside0.mk (bsz_ hg : w.heap.size ≤ gb105); have n4_ := Aside0.mk (bsz_ hg : w.heap.size ≤ gb105); have n5_ := Aside0.mk ((by rw [hg]; exact Nat.ne_of_lt (blk_lt (g := gb104) (o := .cells #[.int .u64 a0_0, .int .u64 a0_1, .int .u64 a0_2, .int .u64 a0_3, .slice A0_4 l0_4.length c0_4, .slice A0_5 l0_5.length c0_5] 26 (0, 0)) (by (with_reducible repeat (first | refine blk_drewN ?_ _ | refine blk_drew ?_ | refine blk_alloc ?_ _)); exact BK104.out)) : gb104 ≠ gb105)); have n6_ := Aside0.mk ((by rw [hg]; exact Nat.ne_of_gt (blk_lt (g := gb104) (o := .cells #[.int .u64 a0_0, .int .u64 a0_1, .int .u64 a0_2, .int .u64 a0_3, .slice A0_4 l0_4.length c0_4, .slice A0_5 l0_5.length c0_5] 26 (0, 0)) (by (with_reducible repeat (first | refine blk_drewN ?_ _ | refine blk_drew ?_ | refine blk_alloc ?_ _)); exact BK104.out)) : gb105 ≠ gb104)); clear BK104; clear HB; have BK104 := n0_; have HB := n1_; have BK105 := n2_; have GW105 := n3_; have GE105 := n4_; have NB104_105 := n5_; have NB105_104 := n6_; clear n0_ n1_ n2_ n3_ n4_ n5_ n6_; clear hb hbox hg; have hnb27 := NB104_105.out; have hnc27 := NB105_104.out; obtain ⟨hcz28_0, hcz28_1, hcz28_2, hcz28_3, hcz28_4, hcz28_5, hfz28_0, hfz28_1, hfz28_2, hfz28_3, hfz28_4, hfz28_5⟩ := blk6_ BK104.out; obtain ⟨hcz29_0, hcz29_1, hcz29_2, hcz29_3, hcz29_4, hcz29_5, hfz29_0, hfz29_1, hfz29_2, hfz29_3, hfz29_4, hfz29_5⟩ := blk6_ BK105.out))
    go_ret
    exact ⟨by first | rfl | (simp [errW_none, errW_some] <;> rfl) | (simp [*, errW_none, errW_some] <;> rfl), bl_⟩
  ·rw [if_neg c4] at H
   have c4b0 : (a0_1 == a1_1) = false := beq_eq_false_iff_ne.mpr c4
   have c4b1 : (a0_1 != a1_1) = true := bne_iff_ne.mpr c4
   obtain rfl := Option.some.inj H
   go_enter Try.func75, Try.ntmps75
   go_wp2_with (first | ((with_reducible refine gate_dst (N := 2) rfl ?_); refine box_event ?hg (N := 2) ?hd (cs := #[.int .u64 a0_0, .int .u64 a0_1, .int .u64 a0_2, .int .u64 a0_3, .slice A0_4 l0_4.length c0_4, .slice A0_5 l0_5.length c0_5]) (t := 26) ?hr ?_; (case hd => rfl); (case hg => rfl); (case hr => first | (go_simp; done) | (go_simp; rfl)); intro gb104 hg w30 hbox hb; have n0_ := Aside0.mk (below_step bl_ hb); have n1_ := Aside0.mk (hbox); have n2_ := Aside0.mk (bsz_ hg : w.heap.size ≤ gb104); have n3_ := Aside0.mk (bsz_ hg : w.heap.size ≤ gb104); clear HB; have HB := n0_; have BK104 := n1_; have GW104 := n2_; have GE104 := n3_; clear n0_ n1_ n2_ n3_; clear hb hbox hg) | ((with_reducible refine gate_dst (N := 3) rfl ?_); refine box_event ?hg (N := 3) ?hd (cs := #[.int .u64 a1_0, .int .u64 a1_1, .int .u64 a1_2, .int .u64 a1_3, .slice A1_4 l1_4.length c1_4, .slice A1_5 l1_5.length c1_5]) (t := 26) ?hr ?_; (case hd => rfl); (case hg => rfl); (case hr => first | (go_simp; done) | (go_simp; rfl)); intro gb105 hg w31 hbox hb; have n0_ := Aside0.mk (blk_below (g := gb104) (o := .cells #[.int .u64 a0_0, .int .u64 a0_1, .int .u64 a0_2, .int .u64 a0_3, .slice A0_4 l0_4.length c0_4, .slice A0_5 l0_5.length c0_5] 26 (0, 0)) (by (with_reducible repeat (first | refine blk_drewN ?_ _ | refine blk_drew ?_ | refine blk_alloc ?_ _)); exact BK104.out) hb); have n1_ := Aside0.mk (below_step bl_ hb); have n2_ := Aside0.mk (hbox); have n3_ := Aside0.mk (bsz_ hg : w.heap.size ≤ gb105); have n4_ := Aside0.mk (bsz_ hg : w.heap.size ≤ gb105); have n5_ := Aside0.mk ((by rw [hg]; exact Nat.ne_of_lt (blk_lt (g := gb104) (o := .cells #[.int .u64 a0_0, .int .u64 a0_1, .int .u64 a0_2, .int .u64 a0_3, .slice A0_4 l0_4.length c0_4, .slice A0_5 l0_5.length c0_5] 26 (0, 0)) (by (with_reducible repeat (first | refine blk_drewN ?_ _ | refine blk_drew ?_ | refine blk_alloc ?_ _)); exact BK104.out)) : gb104 ≠ gb105)); have n6_ := Aside0.mk ((by rw [hg]; exact Nat.ne_of_gt (blk_lt (g := gb104) (o := .cells #[.int .u64 a0_0, .int .u64 a0_1, .int .u64 a0_2, .int .u64 a0_3, .slice A0_4 l0_4.length c0_4, .slice A0_5 l0_5.length c0_5] 26 (0, 0)) (by (with_reducible repeat (first | refine blk_drewN ?_ _ | refine blk_drew ?_ | refine blk_alloc ?_ _)); exact BK104.out)) : gb105 ≠ gb104)); clear BK104; clear HB; have BK104 := n0_; have HB := n1_; have BK105 := n2_; have GW105 := n3_; have GE105 := n4_; have NB104_105 := n5_; have NB105_104 := n6_; clear n0_ n1_ n2_ n3_ n4_ n5_ n6_; clear hb hbox hg; have hnb32 := NB104_105.out; have hnc32 := NB105_104.out; obtain ⟨hcz33_0, hcz33_1, hcz33_2, hcz33_3, hcz33_4, hcz33_5, hfz33_0, hfz33_1, hfz33_2, hfz33_3, hfz33_4, hfz33_5⟩ := blk6_ BK104.out; obtain ⟨hcz34_0, hcz34_1, hcz34_2, hcz34_3, hcz34_4, hcz34_5, hfz34_0, hfz34_1, hfz34_2, hfz34_3, hfz34_4, hfz34_5⟩ := blk6_ BK105.out))
   go_ret
   exact ⟨by first | rfl | (simp [errW_none, errW_some] <;> rfl) | (simp [*, errW_none, errW_some] <;> rfl), bl_⟩
 ·rw [if_neg c3] at H
  have c3b0 : (a0_0 == a1_0) = false := beq_eq_false_iff_ne.mpr c3
  have c3b1 : (a0_0 != a1_0) = true := bne_iff_ne.mpr c3
  obtain rfl := Option.some.inj H
  go_enter Try.func75, Try.ntmps75
  go_wp2_with (first | ((with_reducible refine gate_dst (N := 2) rfl ?_); refine box_event ?hg (N := 2) ?hd (cs := #[.int .u64 a0_0, .int .u64 a0_1, .int .u64 a0_2, .int .u64 a0_3, .slice A0_4 l0_4.length c0_4, .slice A0_5 l0_5.length c0_5]) (t := 26) ?hr ?_; (case hd => rfl); (case hg => rfl); (case hr => first | (go_simp; done) | (go_simp; rfl)); intro gb104 hg w35 hbox hb; have n0_ := Aside0.mk (below_step bl_ hb); have n1_ := Aside0.mk (hbox); have n2_ := Aside0.mk (bsz_ hg : w.heap.size ≤ gb104); have n3_ := Aside0.mk (bsz_ hg : w.heap.size ≤ gb104); clear HB; have HB := n0_; have BK104 := n1_; have GW104 := n2_; have GE104 := n3_; clear n0_ n1_ n2_ n3_; clear hb hbox hg) | ((with_reducible refine gate_dst (N := 3) rfl ?_); refine box_event ?hg (N := 3) ?hd (cs := #[.int .u64 a1_0, .int .u64 a1_1, .int .u64 a1_2, .int .u64 a1_3, .slice A1_4 l1_4.length c1_4, .slice A1_5 l1_5.length c1_5]) (t := 26) ?hr ?_; (case hd => rfl); (case hg => rfl); (case hr => first | (go_simp; done) | (go_simp; rfl)); intro gb105 hg w36 hbox hb; have n0_ := Aside0.mk (blk_below (g := gb104) (o := .cells #[.int .u64 a0_0, .int .u64 a0_1, .int .u64 a0_2, .int .u64 a0_3, .slice A0_4 l0_4.length c0_4, .slice A0_5 l0_5.length c0_5] 26 (0, 0)) (by (with_reducible repeat (first | refine blk_drewN ?_ _ | refine blk_drew ?_ | refine blk_alloc ?_ _)); exact BK104.out) hb); have n1_ := Aside0.mk (below_step bl_ hb); have n2_ := Aside0.mk (hbox); have n3_ := Aside0.mk (bsz_ hg : w.heap.size ≤ gb105); have n4_ := Aside0.mk (bsz_ hg : w.heap.size ≤ gb105); have n5_ := Aside0.mk ((by rw [hg]; exact Nat.ne_of_lt (blk_lt (g := gb104) (o := .cells #[.int .u64 a0_0, .int .u64 a0_1, .int .u64 a0_2, .int .u64 a0_3, .slice A0_4 l0_4.length c0_4, .slice A0_5 l0_5.length c0_5] 26 (0, 0)) (by (with_reducible repeat (first | refine blk_drewN ?_ _ | refine blk_drew ?_ | refine blk_alloc ?_ _)); exact BK104.out)) : gb104 ≠ gb105)); have n6_ := Aside0.mk ((by rw [hg]; exact Nat.ne_of_gt (blk_lt (g := gb104) (o := .cells #[.int .u64 a0_0, .int .u64 a0_1, .int .u64 a0_2, .int .u64 a0_3, .slice A0_4 l0_4.length c0_4, .slice A0_5 l0_5.length c0_5] 26 (0, 0)) (by (with_reducible repeat (first | refine blk_drewN ?_ _ | refine blk_drew ?_ | refine blk_alloc ?_ _)); exact BK104.out)) : gb105 ≠ gb104)); clear BK104; clear HB; have BK104 := n0_; have HB := n1_; have BK105 := n2_; have GW105 := n3_; have GE105 := n4_; have NB104_105 := n5_; have NB105_104 := n6_; clear n0_ n1_ n2_ n3_ n4_ n5_ n6_; clear hb hbox hg; have hnb37 := NB104_105.out; have hnc37 := NB105_104.out; obtain ⟨hcz38_0, hcz38_1, hcz38_2, hcz38_3, hcz38_4, hcz38_5, hfz38_0, hfz38_1, hfz38_2, hfz38_3, hfz38_4, hfz38_5⟩ := blk6_ BK104.out; obtain ⟨hcz39_0, hcz39_1, hcz39_2, hcz39_3, hcz39_4, hcz39_5, hfz39_0, hfz39_1, hfz39_2, hfz39_3, hfz39_4, hfz39_5⟩ := blk6_ BK105.out))
  go_ret
  exact ⟨by first | rfl | (simp [errW_none, errW_some] <;> rfl) | (simp [*, errW_none, errW_some] <;> rfl), bl_⟩
-- NOT PRINTED: function 82 (bytealg_abigen_runtime_cmpstring)
-- NOT PRINTED: function 77 (bytealg_CompareString)
end Go.Proofs.Ytjefihcbhdennaa.S
