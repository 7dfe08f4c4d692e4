/- Texts of this session, merged for the law StoreDoes: C18, C19, C20, C14, C17, C21, C23, C24, C25, C26, TB, TC. No condition. -/
import Derived.Test.YteofdgonpbmdlaaZStoreDoesd
import Derived.Test.YteofdgonpbmdlaaZStoreDoesp
import Derived.Test.YteofdgonpbmdlaaZStoreDoesq
import Derived.Test.YteofdgonpbmdlaaZStoreDoesr
import Derived.Lib.MinMaxS
set_option linter.unusedVariables false
set_option linter.unusedSimpArgs false
namespace Go.Proofs.Yteofdgonpbmdlaa.C
open Go.RowKit Go.Proofs.YteofdgonpbmdlaaW.PrintWords Go.Proofs.YteofdgonpbmdlaaW.PrintLast Go.Proofs.YteofdgonpbmdlaaW.PrintMore
attribute [local go_sem] max2_int min2_int max_two min_two max_three min_three max_four min_four
set_option linter.unusedVariables false
set_option linter.unusedSimpArgs false
mutual
def conductorref07_Trim.j0 : Nat → List (S28) → Int → List (S28) → Bool → Int → Bool → List Int → Option ((List (S28)))
 | 0, _, _, _, _, _, _, _ => none
 | k + 1, x0, x1, x5, x22, x286000, x286001, x286002 => if x22 = true then (if x5.length < 3518437208883 then (conductorref07_Trim.j1 k x0 x1 (x5 ++ [(⟨x286000, x286001, x286002⟩ : S28)])) else (none)) else (conductorref07_Trim.j1 k x0 x1 x5)
def conductorref07_Trim.j1 : Nat → List (S28) → Int → List (S28) → Option ((List (S28)))
 | 0, _, _, _ => none
 | k + 1, x0, x1, x5 => conductorref07_Trim.l0 k x1 x5 x0 (x0.length : Int) 0
def conductorref07_Trim.l0 : Nat → Int → List (S28) → List (S28) → Int → Int → Option ((List (S28)))
 | 0, _, _, _, _, _ => none
 | k + 1, x1, x5, x27, x28, x29 => if x29 < x28 then (if 0 ≤ x29 then (if x29 < (x27.length : Int) then (if ((rd_T28 x27 x29).f0) > x1 then (if x5.length < 3518437208883 then (conductorref07_Trim.l0 k x1 (x5 ++ [(⟨(rd_T28 x27 x29).f0, (rd_T28 x27 x29).f1, (rd_T28 x27 x29).f2⟩ : S28)]) x27 x28 (wrap64 (x29 + 1))) else (none)) else (conductorref07_Trim.l0 k x1 x5 x27 x28 (wrap64 (x29 + 1)))) else (none)) else (none)) else (some x5)
end
def conductorref07_Trim.f (k : Nat) (l0 : List (S28)) (a1 : Int) : Option ((List (S28))) := (some (([] : List (S28)) : List (S28))).bind fun y276 => ((conductorref07_Find.f k l0 a1).bind fun bt279 => (if bt279.2.2.2 = true then (conductorref07_Trim.j0 k l0 a1 y276 (!bt279.2.1) bt279.1 bt279.2.1 bt279.2.2.1) else (conductorref07_Trim.j0 k l0 a1 y276 false bt279.1 bt279.2.1 bt279.2.2.1)))
theorem conductorref07_Trim.mono_l : ∀ k, (∀ y0 y1 y2 y3 y4 y5 y6, LeO (conductorref07_Trim.j0 k y0 y1 y2 y3 y4 y5 y6) (conductorref07_Trim.j0 (k + 1) y0 y1 y2 y3 y4 y5 y6)) ∧ (∀ y0 y1 y2, LeO (conductorref07_Trim.j1 k y0 y1 y2) (conductorref07_Trim.j1 (k + 1) y0 y1 y2)) ∧ (∀ y0 y1 y2 y3 y4, LeO (conductorref07_Trim.l0 k y0 y1 y2 y3 y4) (conductorref07_Trim.l0 (k + 1) y0 y1 y2 y3 y4))
 | 0 => ⟨fun _ _ _ _ _ _ _ r h => by simp [conductorref07_Trim.j0] at h, fun _ _ _ r h => by simp [conductorref07_Trim.j1] at h, fun _ _ _ _ _ r h => by simp [conductorref07_Trim.l0] at h⟩
 | k + 1 => by
  obtain ⟨ih0, ih1, ih2⟩ := conductorref07_Trim.mono_l k
  refine ⟨?_, ?_, ?_⟩
  ·intro y0 y1 y2 y3 y4 y5 y6
   unfold conductorref07_Trim.j0
   repeat' first
   | (with_reducible exact ih0 _ _ _ _ _ _ _)
   | (with_reducible exact ih1 _ _ _)
   | (with_reducible exact ih2 _ _ _ _ _)
   | (with_reducible exact conductorref07_Find.mono _ _ _)
   | (with_reducible exact LeO.refl _)
   | (with_reducible exact LeO.none _)
   | (with_reducible refine LeO.ite ?_ ?_)
   | (with_reducible refine LeO.bind ?_ (fun _ => ?_))
   | exact ih0 _ _ _ _ _ _ _
   | exact ih1 _ _ _
   | exact ih2 _ _ _ _ _
   | exact conductorref07_Find.mono _ _ _
   | exact LeO.none _
   | refine LeO.ite ?_ ?_
   | refine LeO.bind ?_ (fun _ => ?_)
  ·intro y0 y1 y2
   unfold conductorref07_Trim.j1
   repeat' first
   | (with_reducible exact ih0 _ _ _ _ _ _ _)
   | (with_reducible exact ih1 _ _ _)
   | (with_reducible exact ih2 _ _ _ _ _)
   | (with_reducible exact conductorref07_Find.mono _ _ _)
   | (with_reducible exact LeO.refl _)
   | (with_reducible exact LeO.none _)
   | (with_reducible refine LeO.ite ?_ ?_)
   | (with_reducible refine LeO.bind ?_ (fun _ => ?_))
   | exact ih0 _ _ _ _ _ _ _
   | exact ih1 _ _ _
   | exact ih2 _ _ _ _ _
   | exact conductorref07_Find.mono _ _ _
   | exact LeO.none _
   | refine LeO.ite ?_ ?_
   | refine LeO.bind ?_ (fun _ => ?_)
  ·intro y0 y1 y2 y3 y4
   unfold conductorref07_Trim.l0
   repeat' first
   | (with_reducible exact ih0 _ _ _ _ _ _ _)
   | (with_reducible exact ih1 _ _ _)
   | (with_reducible exact ih2 _ _ _ _ _)
   | (with_reducible exact conductorref07_Find.mono _ _ _)
   | (with_reducible exact LeO.refl _)
   | (with_reducible exact LeO.none _)
   | (with_reducible refine LeO.ite ?_ ?_)
   | (with_reducible refine LeO.bind ?_ (fun _ => ?_))
   | exact ih0 _ _ _ _ _ _ _
   | exact ih1 _ _ _
   | exact ih2 _ _ _ _ _
   | exact conductorref07_Find.mono _ _ _
   | exact LeO.none _
   | refine LeO.ite ?_ ?_
   | refine LeO.bind ?_ (fun _ => ?_)
theorem conductorref07_Trim.mono : ∀ a0 a1 k, LeO (conductorref07_Trim.f k a0 a1) (conductorref07_Trim.f (k + 1) a0 a1) := by
 intro a0 a1 k
 obtain ⟨ih0, ih1, ih2⟩ := conductorref07_Trim.mono_l k
 unfold conductorref07_Trim.f
 repeat' first
   | (with_reducible exact ih0 _ _ _ _ _ _ _)
   | (with_reducible exact ih1 _ _ _)
   | (with_reducible exact ih2 _ _ _ _ _)
   | (with_reducible exact conductorref07_Find.mono _ _ _)
   | (with_reducible exact LeO.refl _)
   | (with_reducible exact LeO.none _)
   | (with_reducible refine LeO.ite ?_ ?_)
   | (with_reducible refine LeO.bind ?_ (fun _ => ?_))
   | exact ih0 _ _ _ _ _ _ _
   | exact ih1 _ _ _
   | exact ih2 _ _ _ _ _
   | exact conductorref07_Find.mono _ _ _
   | exact LeO.none _
   | refine LeO.ite ?_ ?_
   | refine LeO.bind ?_ (fun _ => ?_)
set_option maxHeartbeats 8000000 in
set_option maxRecDepth 100000 in
theorem conductorref07_Trim.calls (k : Nat) (P0_ : Nat → Prop) (A0 : Option Addr) (c0 : Nat) (l0 : List (S28)) (a1 : Int) (r : List (S28)) (w : World) (hs0 : Kd.V k28 28 w w.heap.size (fun k_ => P0_ k_) (.slice A0 l0.length c0) l0) (h : conductorref07_Trim.f k l0 a1 = some r) :
  Calls Try.prog 32 #[.slice A0 l0.length c0, .int .u64 a1] w fun e w' => ∃ v0_ : Value, e = .returned (v0_) ∧ Kd.N k28 28 w' w.heap.size (fun k_ => (P0_ k_ ∨ w.heap.size ≤ k_)) v0_ r ∧ Below w.heap.size w w' := by
 have hu28 := Try.underlying28
 have HO0 := Aside0.mk (show Kd.V k28 28 w w.heap.size (fun k_ => (P0_ k_ ∨ w.heap.size ≤ k_)) (.slice A0 l0.length c0) l0 from Kd.V_mono hs0 (fun k_ hk => .inl hk))
 have HB := Aside0.mk (Below.refl w.heap.size w)
 have H : ((some (([] : List (S28)) : List (S28))).bind fun y276 => ((conductorref07_Find.f k l0 a1).bind fun bt279 => (if bt279.2.2.2 = true then (conductorref07_Trim.j0 k l0 a1 y276 (!bt279.2.1) bt279.1 bt279.2.1 bt279.2.2.1) else (conductorref07_Trim.j0 k l0 a1 y276 false bt279.1 bt279.2.1 bt279.2.2.1)))) = some r := h
 clear h
 obtain ⟨y276, hy276⟩ : ∃ y_ : List (S28), y_ = (([] : List (S28))) := ⟨_, rfl⟩
 replace H : ((conductorref07_Find.f k l0 a1).bind fun bt279 => (if bt279.2.2.2 = true then (conductorref07_Trim.j0 k l0 a1 y276 (!bt279.2.1) bt279.1 bt279.2.1 bt279.2.2.1) else (conductorref07_Trim.j0 k l0 a1 y276 false bt279.1 bt279.2.1 bt279.2.2.1))) = some r := by first | (rw [hy276]; with_reducible exact H) | (have H2_ := (Option.bind_some _ _).symm.trans H; rw [hy276]; with_reducible exact H2_) | (have H2_ := (Option.bind_some _ _).symm.trans H; with_reducible exact H2_) | with_reducible exact H | (rw [hy276]; exact H) | exact H
 have Ny276 := Aside0.mk hy276; clear hy276; replace H := Option.bind_eq_some_iff.mp H; obtain ⟨⟨t279, t280, t281, t284⟩, A30, H⟩ := H
 replace H : (if t284 = true then (conductorref07_Trim.j0 k l0 a1 y276 (!t280) t279 t280 t281) else (conductorref07_Trim.j0 k l0 a1 y276 false t279 t280 t281)) = some r := H
 have A3 := Aside0.mk A30; clear A30; have HC4 := Aside0.mk H; clear H
 go_enter Try.func32, Try.ntmps32
 go_upto_region 3 with (first | ((with_reducible refine gate_dst (N := 10) rfl ?_); refine Kd.N_lit k28 _ 28 ?hg (N' := 10) ?hd (xs := ([] : List (S28))) (inner := []) (ok := (fun k_ => (P0_ k_ ∨ w.heap.size ≤ k_))) (okp := (fun k_ => (P0_ k_ ∨ w.heap.size ≤ k_))) ?hr ?hp (fun _ hk => hk) ((show ∀ k_, w.heap.size ≤ k_ → (fun k_ => (P0_ k_ ∨ w.heap.size ≤ k_)) k_ from fun k_ hk => (.inr (Nat.le_trans (below_size bl_) hk))) _ (Nat.le_refl _)) (Below.refl _ _) (Nat.le_refl _) (by simp) ?_; (case hd => rfl); (case hg => rfl); (case hr => first | (go_simp; done) | (go_simp; rfl)); (case hp => exact (Reps.none _ _)); intro v277 w5 ho6 hb hg_ hnew_; clear hg_ hnew_; (first | rw [← Ny276.out] at ho6 | (simp only [Int.reduceToNat] at ho6; rw [← Ny276.out] at ho6)); have n0_ := Aside0.mk (Kd.V_elder' (by exact HO0.out) (Kd.N_base ho6) hb); have n1_ := Aside0.mk (Kd.N_lower ho6 (below_size bl_)); have n2_ := Aside0.mk (below_step bl_ hb); clear HO0; clear HB; have HO0 := n0_; have HO278 := n1_; have HB := n2_; clear n0_ n1_ n2_; clear hb ho6) | ((with_reducible refine gate_callee (f := 21) rfl ?_); refine goesL_ (some 14) rfl rfl Try.func21 (by kernel_rfl) rfl #[.slice A0 l0.length c0, .int .u64 a1] rfl sa_ ?_; (with_reducible refine (conductorref07_Find.calls k (fun k_ => ((P0_ k_ ∨ w.heap.size ≤ k_) ∧ some k_ ≠ (v277 : Value).ownBlock)) _ _ l0 a1 t279 t280 t281 t284 _ ?side1 A3.out).mono ?_); (case side1 => exact HO0.out); rintro e w7 ⟨v282, rfl, ho0, hb⟩; refine ⟨_, rfl, ?_⟩; have n0_ := Aside0.mk (Kd.V_below (by exact HO0.out) hb); have n1_ := Aside0.mk (Kd.N_below (by exact HO278.out) hb); have n2_ := Aside0.mk (Kd.V_lower (Kd.V_mono (ok' := fun k_ => (P0_ k_ ∨ w.heap.size ≤ k_) ∧ some k_ ≠ (v277 : Value).ownBlock) ho0 (fun k_ hk_ => ⟨Or.elim hk_ (fun hs_ => hs_.1) (fun hn_ => (.inr (Nat.le_trans (below_size bl_) hn_))), Or.elim hk_ (fun hs_ => hs_.2) (fun hn_ => (Kd.fresh' (Kd.N_lt (by exact HO278.out)) k_ hn_))⟩)) (below_size bl_)); have n3_ := Aside0.mk (below_step bl_ hb); clear HO0; clear HO278; clear HB; have HO0 := n0_; have HO278 := n1_; have HO283 := n2_; have HB := n3_; clear n0_ n1_ n2_ n3_; (try clear hb); (try clear hb2); (try clear hk); (try clear hi); (try clear ho0)) | ((with_reducible refine gate_dst (N := 6) rfl ?_); refine box_event ?hg (N := 6) ?hd (cs := #[.int .u64 0, .bool false, .slice none 0 0]) (t := 28) ?hr ?_; (case hd => rfl); (case hg => rfl); (case hr => first | (go_simp; done) | (go_simp; rfl)); intro gb285 hg w8 hbox hb; have n0_ := Aside0.mk (Kd.V_below (Kd.V_elderB (by exact HO0.out) gb285 (Nat.le_of_eq hg.symm)) hb); have n1_ := Aside0.mk (Kd.N_below (Kd.N_elderB (by exact HO278.out) gb285 (Nat.le_of_eq hg.symm)) hb); have n2_ := Aside0.mk (Kd.V_below (Kd.V_elderB (by exact HO283.out) gb285 (Nat.le_of_eq hg.symm)) hb); have n3_ := Aside0.mk (below_step bl_ hb); have n4_ := Aside0.mk (hbox); have n5_ := Aside0.mk (bsz_ hg : w.heap.size ≤ gb285); have n6_ := Aside0.mk (bsz_ hg : w.heap.size ≤ gb285); clear HO0; clear HO278; clear HO283; clear HB; have HO0 := n0_; have HO278 := n1_; have HO283 := n2_; have HB := n3_; have BK285 := n4_; have GW285 := n5_; have GE285 := n6_; clear n0_ n1_ n2_ n3_ n4_ n5_ n6_; clear hb hbox hg; obtain ⟨hcz9_0, hcz9_1, hcz9_2, hfz9_0, hfz9_1, hfz9_2⟩ := blk3_ BK285.out; obtain ⟨Ao10, co10, eo10⟩ := Kd.V_slice HO283.out; subst eo10))
 (try simp only [Act.put, List.setIfInBounds_toArray, List.set_cons_zero, List.set_cons_succ])
 go_cut [22] (fun v22 wc => ∃ (kq : Nat) (x22_3 : Bool), v22 = .bool x22_3 ∧ Aside0 (conductorref07_Trim.j0 kq l0 a1 y276 x22_3 t279 t280 t281 = some r) ∧ Aside0 (kq ≤ k) ∧ Aside0 (Kd.V k28 28 wc w.heap.size (fun k_ => (P0_ k_ ∨ w.heap.size ≤ k_) ∧ some k_ ≠ (v277 : Value).ownBlock ∧ k_ ≠ gb285) (.slice A0 l0.length c0) l0) ∧ Aside0 (Kd.N k28 28 wc w.heap.size (fun k_ => (P0_ k_ ∨ w.heap.size ≤ k_) ∧ k_ ≠ gb285) v277 y276) ∧ Aside0 (Kd.V (Kd.int .u8) 5 wc w.heap.size (fun k_ => (P0_ k_ ∨ w.heap.size ≤ k_) ∧ some k_ ≠ (v277 : Value).ownBlock ∧ k_ ≠ gb285) (.slice Ao10 t281.length co10) t281) ∧ Aside0 (wc.heap[gb285]? = some (.cells #[.int .u64 t279, .bool t280, (.slice Ao10 t281.length co10)] 28 (0, 0))) ∧ Aside0 (Below w.heap.size w wc))
 case first =>
  have H := HC4.out
  clear HC4
  by_cases c11 : t284 = true
  ·subst c11
   have H1 : (conductorref07_Trim.j0 k l0 a1 y276 (!t280) t279 t280 t281) = some r := by rw [if_pos rfl] at H; exact H
   clear H; have H := H1; clear H1; have H' := Aside0.mk H; clear H; obtain ⟨hcz12_0, hcz12_1, hcz12_2, hfz12_0, hfz12_1, hfz12_2⟩ := blk3_ BK285.out
   go_wp2
   go_meet
   case rel => exact ⟨_, (!t280), (by first | rfl | (simp; done) | (simp [*]; done)), H', ⟨by first | omega | exact Nat.le_refl _⟩, ⟨by exact Kd.V_mono (Kd.V_far (p := ⟨gb285, 2, none⟩) (Kd.V_far (p := ⟨gb285, 1, none⟩) (Kd.V_far (p := ⟨gb285, 0, none⟩) (Kd.V_mono HO0.out (fun k_ hk => (⟨hk, hk.2⟩ : _ ∧ k_ ≠ gb285))) (fun _ hk => hk.2) (.int .u64 t279)) (fun _ hk => hk.2) (.bool t280)) (fun _ hk => hk.2) (.slice Ao10 t281.length co10)) (fun _ hk => ⟨hk.1.1.1, ⟨hk.1.1.2, hk.1.2⟩⟩)⟩, ⟨by exact Kd.N_mono (Kd.N_far (p := ⟨gb285, 2, none⟩) (Kd.N_far (p := ⟨gb285, 1, none⟩) (Kd.N_far (p := ⟨gb285, 0, none⟩) (Kd.N_mono HO278.out (fun k_ hk => (⟨hk, hk.2⟩ : _ ∧ k_ ≠ gb285))) (fun _ hk => hk.2) (.int .u64 t279)) (fun _ hk => hk.2) (.bool t280)) (fun _ hk => hk.2) (.slice Ao10 t281.length co10)) (fun _ hk => ⟨hk.1.1, hk.1.2⟩)⟩, ⟨by exact Kd.V_mono (Kd.V_far (p := ⟨gb285, 2, none⟩) (Kd.V_far (p := ⟨gb285, 1, none⟩) (Kd.V_far (p := ⟨gb285, 0, none⟩) (Kd.V_mono HO283.out (fun k_ hk => (⟨hk, hk.2⟩ : _ ∧ k_ ≠ gb285))) (fun _ hk => hk.2) (.int .u64 t279)) (fun _ hk => hk.2) (.bool t280)) (fun _ hk => hk.2) (.slice Ao10 t281.length co10)) (fun _ hk => ⟨hk.1.1.1, ⟨hk.1.1.2, hk.1.2⟩⟩)⟩, ⟨by (with_reducible repeat (first | refine blk_drewN ?_ _ | refine blk_drew ?_ | refine blk_alloc ?_ _)); refine blk_put (cs := #[.int .u64 t279, .bool t280, .slice none 0 0]) ?_ 2 _ rfl; refine blk_put (cs := #[.int .u64 t279, .bool false, .slice none 0 0]) ?_ 1 _ rfl; refine blk_put (cs := #[.int .u64 0, .bool false, .slice none 0 0]) ?_ 0 _ rfl; exact BK285.out⟩, ⟨bl_⟩⟩
  ·replace c11 := Bool.eq_false_iff.mpr c11
   subst c11
   have H1 : (conductorref07_Trim.j0 k l0 a1 y276 false t279 t280 t281) = some r := by rw [if_neg (show ¬ (false = true) by decide)] at H; exact H
   clear H; have H := H1; clear H1; have H' := Aside0.mk H; clear H
   go_wp2
   go_meet
   case rel => exact ⟨_, (false), (by first | rfl | (simp; done) | (simp [*]; done)), H', ⟨by first | omega | exact Nat.le_refl _⟩, ⟨by exact Kd.V_mono (Kd.V_far (p := ⟨gb285, 2, none⟩) (Kd.V_far (p := ⟨gb285, 1, none⟩) (Kd.V_far (p := ⟨gb285, 0, none⟩) (Kd.V_mono HO0.out (fun k_ hk => (⟨hk, hk.2⟩ : _ ∧ k_ ≠ gb285))) (fun _ hk => hk.2) (.int .u64 t279)) (fun _ hk => hk.2) (.bool t280)) (fun _ hk => hk.2) (.slice Ao10 t281.length co10)) (fun _ hk => ⟨hk.1.1.1, ⟨hk.1.1.2, hk.1.2⟩⟩)⟩, ⟨by exact Kd.N_mono (Kd.N_far (p := ⟨gb285, 2, none⟩) (Kd.N_far (p := ⟨gb285, 1, none⟩) (Kd.N_far (p := ⟨gb285, 0, none⟩) (Kd.N_mono HO278.out (fun k_ hk => (⟨hk, hk.2⟩ : _ ∧ k_ ≠ gb285))) (fun _ hk => hk.2) (.int .u64 t279)) (fun _ hk => hk.2) (.bool t280)) (fun _ hk => hk.2) (.slice Ao10 t281.length co10)) (fun _ hk => ⟨hk.1.1, hk.1.2⟩)⟩, ⟨by exact Kd.V_mono (Kd.V_far (p := ⟨gb285, 2, none⟩) (Kd.V_far (p := ⟨gb285, 1, none⟩) (Kd.V_far (p := ⟨gb285, 0, none⟩) (Kd.V_mono HO283.out (fun k_ hk => (⟨hk, hk.2⟩ : _ ∧ k_ ≠ gb285))) (fun _ hk => hk.2) (.int .u64 t279)) (fun _ hk => hk.2) (.bool t280)) (fun _ hk => hk.2) (.slice Ao10 t281.length co10)) (fun _ hk => ⟨hk.1.1.1, ⟨hk.1.1.2, hk.1.2⟩⟩)⟩, ⟨by (with_reducible repeat (first | refine blk_drewN ?_ _ | refine blk_drew ?_ | refine blk_alloc ?_ _)); refine blk_put (cs := #[.int .u64 t279, .bool t280, .slice none 0 0]) ?_ 2 _ rfl; refine blk_put (cs := #[.int .u64 t279, .bool false, .slice none 0 0]) ?_ 1 _ rfl; refine blk_put (cs := #[.int .u64 0, .bool false, .slice none 0 0]) ?_ 0 _ rfl; exact BK285.out⟩, ⟨bl_⟩⟩
 case rest =>
  clear HC4
  try clear c1
  try clear c2
  try clear p2
  try clear c3
  try clear c11
  try clear hcz12_0
  try clear hcz12_1
  try clear hcz12_2
  try clear hcz9_0
  try clear hcz9_1
  try clear hcz9_2
  try clear hfz12_0
  try clear hfz12_1
  try clear hfz12_2
  try clear hfz9_0
  try clear hfz9_1
  try clear hfz9_2
  obtain ⟨kq, x22_3, rfl, HA, HJ3, HO_0, HO_5, HO_286002, BK285, HB⟩ := hcut
  cases kq with
  | zero => exact absurd HA.out (by simp [conductorref07_Trim.j0])
  | succ kj3 =>
   have H := HA.out
   clear HA
   simp only [conductorref07_Trim.j0] at H
   have HC13 := Aside0.mk H; clear H
   go_upto_if 22 with (fail)
   go_cut [5] (fun v5 wc => ∃ (kq : Nat) (x5_12 : List (S28)), Aside0 (conductorref07_Trim.j1 kq l0 a1 x5_12 = some r) ∧ Aside0 (kq ≤ kj3) ∧ Aside0 (Kd.V k28 28 wc w.heap.size (fun k_ => (P0_ k_ ∨ w.heap.size ≤ k_) ∧ some k_ ≠ (v5 : Value).ownBlock ∧ k_ ≠ gb285) (.slice A0 l0.length c0) l0) ∧ Aside0 (Kd.N k28 28 wc w.heap.size (fun k_ => (P0_ k_ ∨ w.heap.size ≤ k_) ∧ k_ ≠ gb285) v5 x5_12) ∧ Aside0 (Kd.V (Kd.int .u8) 5 wc w.heap.size (fun k_ => (P0_ k_ ∨ w.heap.size ≤ k_) ∧ some k_ ≠ (v5 : Value).ownBlock ∧ k_ ≠ gb285) (.slice Ao10 t281.length co10) t281) ∧ Aside0 (wc.heap[gb285]? = some (.cells #[.int .u64 t279, .bool t280, (.slice Ao10 t281.length co10)] 28 (0, 0))) ∧ Aside0 (Below w.heap.size w wc))
   case first =>
    have H := HC13.out
    clear HC13
    by_cases c14 : x22_3 = true
    ·subst c14
     have H1 : (if y276.length < 3518437208883 then (conductorref07_Trim.j1 kj3 l0 a1 (y276 ++ [(⟨t279, t280, t281⟩ : S28)])) else (none)) = some r := by rw [if_pos rfl] at H; exact H
     clear H; have H := H1; clear H1
     by_cases c15 : y276.length < 3518437208883
     ·rw [if_pos c15] at H
      have LMc15 := Aside0.mk c15; clear c15
      obtain ⟨y286, hy286⟩ : ∃ y_ : List (S28), y_ = (y276 ++ [(⟨t279, t280, t281⟩ : S28)]) := ⟨_, rfl⟩
      replace H : (conductorref07_Trim.j1 kj3 l0 a1 y286) = some r := by first | (rw [hy286]; with_reducible exact H) | (have H2_ := (Option.bind_some _ _).symm.trans H; rw [hy286]; with_reducible exact H2_) | (have H2_ := (Option.bind_some _ _).symm.trans H; with_reducible exact H2_) | with_reducible exact H | (rw [hy286]; exact H) | exact H
      have Ny286 := Aside0.mk hy286; clear hy286; have H' := Aside0.mk H; clear H; obtain ⟨hcz16_0, hcz16_1, hcz16_2, hfz16_0, hfz16_1, hfz16_2⟩ := blk3_ BK285.out
      go_wp2_with (first | ((with_reducible refine gate_builtin (b := .append) (xs := #[.tmp 23, .tmp 25]) rfl ?_); at_builtin; refine Kd.N_append k28 (w0 := w) w.heap.size rfl (.tmp 23) (.tmp 25) 22 28 (.agg #[(.int .u64 0), (.bool false), (.slice none 0 0)]) 40 rfl Try.underlying22 info28 rfl (by decide) (by omega) v277 y276 (⟨t279, t280, t281⟩ : S28) [.int .u64 t279, .bool t280, .slice Ao10 t281.length co10] (fun k_ => (P0_ k_ ∨ w.heap.size ≤ k_) ∧ k_ ≠ gb285) (fun k_ => ((fun k_ => (P0_ k_ ∨ w.heap.size ≤ k_) ∧ k_ ≠ gb285)) k_ ∧ some k_ ≠ (v277 : Value).ownBlock) rfl rfl ?aP (fun _ hk => hk) ?aF ?aO ?aB ?aS ?aL ?_; (case aP => exact (k28_mkF _ _ (⟨t279, t280, t281⟩ : S28) (Kd.V_reads' (Kd.V_mono (ok' := (fun k_ => ((fun k_ => (P0_ k_ ∨ w.heap.size ≤ k_) ∧ k_ ≠ gb285)) k_ ∧ some k_ ≠ (v277 : Value).ownBlock)) (HO_286002.out) (fun k_ hk => ⟨⟨hk.1, hk.2.2⟩, hk.2.1⟩))).2.1 (Kd.V_F (Kd.V_mono (ok' := (fun k_ => ((fun k_ => (P0_ k_ ∨ w.heap.size ≤ k_) ∧ k_ ≠ gb285)) k_ ∧ some k_ ≠ (v277 : Value).ownBlock)) (HO_286002.out) (fun k_ hk => ⟨⟨hk.1, hk.2.2⟩, hk.2.1⟩))))); (case aB => exact bl_); (case aF => exact (fun k_ hk => ⟨(.inr (Nat.le_trans (below_size bl_) hk)), Kd.freshB (g := gb285) (o := .cells #[.int .u64 t279, .bool t280, .slice Ao10 t281.length co10] 28 (0, 0)) (by (with_reducible repeat (first | refine blk_drewN ?_ _ | refine blk_drew ?_ | refine blk_alloc ?_ _)); exact BK285.out) k_ hk⟩)); (case aO => exact (by exact HO_5.out)); (case aS => exact (below_size bl_)); (case aL => have := LMc15.out; omega); intro v287 w17 ho hb hg hat; rw [← Ny286.out] at ho; have n0_ := Aside0.mk (Kd.V_afterv (ok := (fun k_ => (P0_ k_ ∨ w.heap.size ≤ k_) ∧ k_ ≠ gb285)) (by exact Kd.V_mono HO_0.out (fun _ hk => ⟨⟨hk.1, hk.2.2⟩, hk.2.1⟩)) hg hat); have n1_ := Aside0.mk (Kd.V_afterv (ok := (fun k_ => (P0_ k_ ∨ w.heap.size ≤ k_) ∧ k_ ≠ gb285)) (by exact Kd.V_mono HO_286002.out (fun _ hk => ⟨⟨hk.1, hk.2.2⟩, hk.2.1⟩)) hg hat); have n2_ := Aside0.mk (blk_grown (g := gb285) (o := .cells #[.int .u64 t279, .bool t280, .slice Ao10 t281.length co10] 28 (0, 0)) (by (with_reducible repeat (first | refine blk_drewN ?_ _ | refine blk_drew ?_ | refine blk_alloc ?_ _)); exact BK285.out) hg (Kd.N_away HO_5.out (fun _ hk => hk.2))); have n3_ := Aside0.mk (hb); have n4_ := Aside0.mk (ho); clear HO_0; clear HO_286002; clear BK285; clear HB; clear HO_5; have HO_0 := n0_; have HO_286002 := n1_; have BK285 := n2_; have HB := n3_; have HO288 := n4_; clear n0_ n1_ n2_ n3_ n4_; clear ho hb hg hat))
      go_meet
      case rel => exact ⟨_, (y286), H', ⟨by have := HJ3.out; first | omega | exact Nat.le_refl _⟩, ⟨by exact Kd.V_mono HO_0.out (fun _ hk => ⟨hk.1.1, ⟨hk.2, hk.1.2⟩⟩)⟩, ⟨by exact HO288.out⟩, ⟨by exact Kd.V_mono HO_286002.out (fun _ hk => ⟨hk.1.1, ⟨hk.2, hk.1.2⟩⟩)⟩, ⟨by (with_reducible repeat (first | refine blk_drewN ?_ _ | refine blk_drew ?_ | refine blk_alloc ?_ _)); exact BK285.out⟩, ⟨bl_⟩⟩
     ·rw [if_neg c15] at H
      exact absurd H (by simp)
    ·replace c14 := Bool.eq_false_iff.mpr c14
     subst c14
     have H1 : (conductorref07_Trim.j1 kj3 l0 a1 y276) = some r := by rw [if_neg (show ¬ (false = true) by decide)] at H; exact H
     clear H; have H := H1; clear H1; have H' := Aside0.mk H; clear H
     go_wp2
     go_meet
     case rel => exact ⟨_, (y276), H', ⟨by have := HJ3.out; first | omega | exact Nat.le_refl _⟩, ⟨by exact HO_0.out⟩, ⟨by exact HO_5.out⟩, ⟨by exact HO_286002.out⟩, ⟨by (with_reducible repeat (first | refine blk_drewN ?_ _ | refine blk_drew ?_ | refine blk_alloc ?_ _)); exact BK285.out⟩, ⟨bl_⟩⟩
   case rest =>
    clear HC13
    try clear c1
    try clear c2
    try clear p2
    try clear c3
    try clear c11
    try clear c14
    try clear c15
    try clear hcz12_0
    try clear hcz12_1
    try clear hcz12_2
    try clear hcz16_0
    try clear hcz16_1
    try clear hcz16_2
    try clear hcz9_0
    try clear hcz9_1
    try clear hcz9_2
    try clear hfz12_0
    try clear hfz12_1
    try clear hfz12_2
    try clear hfz16_0
    try clear hfz16_1
    try clear hfz16_2
    try clear hfz9_0
    try clear hfz9_1
    try clear hfz9_2
    try clear p2
    obtain ⟨kq, x5_12, HA, HJ12, HO_0, HO_5, HO_286002, BK285, HB⟩ := hcut
    cases kq with
    | zero => exact absurd HA.out (by simp [conductorref07_Trim.j1])
    | succ kj12 =>
     have H := HA.out
     clear HA
     simp only [conductorref07_Trim.j1] at H
     have H' := Aside0.mk H; clear H
     go_wp2
     go_loopg [5, 29] kj12 (fun kq v5 v29 w' => ∃ (x5_3 : List (S28)) (x29_3 : Int), v29 = .int .i64 x29_3 ∧ Aside0 (conductorref07_Trim.l0 kq a1 x5_3 l0 (l0.length : Int) x29_3 = some r) ∧ Aside0 (kq ≤ kj12) ∧ Aside0 (Kd.N k28 28 w' w.heap.size (fun k_ => (P0_ k_ ∨ w.heap.size ≤ k_) ∧ k_ ≠ gb285) v5 x5_3) ∧ Aside0 (Kd.V k28 28 w' w.heap.size (fun k_ => (P0_ k_ ∨ w.heap.size ≤ k_) ∧ some k_ ≠ (v5 : Value).ownBlock ∧ k_ ≠ gb285) (.slice A0 l0.length c0) l0) ∧ Aside0 (Kd.V (Kd.int .u8) 5 w' w.heap.size (fun k_ => (P0_ k_ ∨ w.heap.size ≤ k_) ∧ some k_ ≠ (v5 : Value).ownBlock ∧ k_ ≠ gb285) (.slice Ao10 t281.length co10) t281) ∧ Aside0 (w'.heap[gb285]? = some (.cells #[.int .u64 t279, .bool t280, (.slice Ao10 t281.length co10)] 28 (0, 0))) ∧ Aside0 (Below w.heap.size w w'))
     case atStart => exact ⟨(x5_12), (0), (by first | rfl | (simp; done) | (simp [*]; done)), H', ⟨Nat.le_refl _⟩, ⟨by exact HO_5.out⟩, ⟨by exact HO_0.out⟩, ⟨by exact HO_286002.out⟩, ⟨by (with_reducible repeat (first | refine blk_drewN ?_ _ | refine blk_drew ?_ | refine blk_alloc ?_ _)); exact BK285.out⟩, ⟨bl_⟩⟩
     case round =>
      clear H'
      try clear c1
      try clear c2
      try clear p2
      try clear c3
      try clear c11
      try clear c14
      try clear c15
      try clear hcz12_0
      try clear hcz12_1
      try clear hcz12_2
      try clear hcz16_0
      try clear hcz16_1
      try clear hcz16_2
      try clear hcz9_0
      try clear hcz9_1
      try clear hcz9_2
      try clear hfz12_0
      try clear hfz12_1
      try clear hfz12_2
      try clear hfz16_0
      try clear hfz16_1
      try clear hfz16_2
      try clear hfz9_0
      try clear hfz9_1
      try clear hfz9_2
      try clear p2
      obtain ⟨x5_3, x29_3, rfl, HA, HK3, HO_5, HO_27, HO_286002, BK285, HB⟩ := hrel
      cases gk with
      | zero => exact absurd HA.out (by simp [conductorref07_Trim.l0])
      | succ k3 =>
       have H := HA.out
       clear HA
       simp only [conductorref07_Trim.l0] at H
       by_cases c18 : x29_3 < (l0.length : Int)
       ·rw [if_pos c18] at H
        have c18b0 : decide (x29_3 < (l0.length : Int)) = true := decide_eq_true c18
        clear c18
        by_cases c19 : 0 ≤ x29_3
        ·rw [if_pos c19] at H
         have c19b0 : decide (0 ≤ x29_3) = true := decide_eq_true c19
         clear c19
         by_cases c20 : x29_3 < (l0.length : Int)
         ·rw [if_pos c20] at H
          have c20b0 : decide (x29_3 < (l0.length : Int)) = true := decide_eq_true c20
          clear c20
          by_cases c21 : ((rd_T28 l0 x29_3).f0) > a1
          ·rw [if_pos c21] at H
           have c21b0 : decide (a1 < ((rd_T28 l0 x29_3).f0)) = true := decide_eq_true c21
           clear c21
           by_cases c22 : x5_3.length < 3518437208883
           ·rw [if_pos c22] at H
            have LMc22 := Aside0.mk c22; clear c22
            obtain ⟨y291, hy291⟩ : ∃ y_ : List (S28), y_ = (x5_3 ++ [(⟨(rd_T28 l0 x29_3).f0, (rd_T28 l0 x29_3).f1, (rd_T28 l0 x29_3).f2⟩ : S28)]) := ⟨_, rfl⟩
            replace H : (conductorref07_Trim.l0 k3 a1 y291 l0 (l0.length : Int) (wrap64 (x29_3 + 1))) = some r := by first | (rw [hy291]; with_reducible exact H) | (have H2_ := (Option.bind_some _ _).symm.trans H; rw [hy291]; with_reducible exact H2_) | (have H2_ := (Option.bind_some _ _).symm.trans H; with_reducible exact H2_) | with_reducible exact H | (rw [hy291]; exact H) | exact H
            have Ny291 := Aside0.mk hy291; clear hy291; have H' := Aside0.mk H; clear H
            have p289 : 0 ≤ (x29_3 : Int) := od_
            have q289 : x29_3 < (l0.length : Int) := od_
            obtain ⟨ad289, A289_2, c289_2, e289, hx289_0, hx289_1, hx289_2, hl289_2, hi289_2⟩ := at_T28 (Kd.V_reads' HO_27.out).2.2 x29_3 p289 q289
            cases e289
            obtain ⟨ce289, hce289, hMe289, hcc289⟩ := Kd.V_get HO_27.out z28 x29_3 p289 (by first | exact q289 | exact od_ | (have e_ := (Kd.V_reads' HO_27.out).1; omega))
            obtain ⟨ua289_2, uc289_2, rfl, ul289_2, ge289_2⟩ := k28_openF hMe289
            have hv289_2 := hcc289 2 _ rfl
            rw [add_field _ _ 2 (by omega)] at hv289_2
            replace hv289_2 := Option.some.inj (hv289_2.symm.trans hx289_2)
            injection hv289_2 with hva_ hvn_ hvc_
            rw [hva_] at ge289_2
            rw [hvc_] at ul289_2
            have HL289_2 := Aside0.mk (show Kd.V (Kd.int .u8) 5 _ w.heap.size _ _ ((rd_T28 l0 x29_3).f2) from Kd.V_mk ul289_2 ge289_2)
            clear hva_ hvn_ hvc_ ge289_2 ul289_2; clear hcc289 hce289; have HR289_2 := Aside0.mk hi289_2; have HC289_2 := Aside0.mk hl289_2; clear hi289_2 hl289_2; replace p289 := eq_true p289; replace q289 := eq_true q289
            go_wp2_with (first | ((with_reducible refine gate_dst (N := 9) rfl ?_); refine box_event ?hg (N := 9) ?hd (cs := #[.int .u64 0, .bool false, .slice none 0 0]) (t := 28) ?hr ?_; (case hd => rfl); (case hg => rfl); (case hr => first | (go_simp; done) | (go_simp; rfl)); intro gb290 hg w23 hbox hb; have n0_ := Aside0.mk (Kd.N_below (Kd.N_elderB (by exact HO_5.out) gb290 (Nat.le_of_eq hg.symm)) hb); have n1_ := Aside0.mk (Kd.V_below (Kd.V_elderB (by exact HO_27.out) gb290 (Nat.le_of_eq hg.symm)) hb); have n2_ := Aside0.mk (Kd.V_below (Kd.V_elderB (by exact HO_286002.out) gb290 (Nat.le_of_eq hg.symm)) hb); have n3_ := Aside0.mk (Kd.V_below (Kd.V_elderB (by exact HL289_2.out) gb290 (Nat.le_of_eq hg.symm)) hb); have n4_ := Aside0.mk (blk_below (g := gb285) (o := .cells #[.int .u64 t279, .bool t280, .slice Ao10 t281.length co10] 28 (0, 0)) (by (with_reducible repeat (first | refine blk_drewN ?_ _ | refine blk_drew ?_ | refine blk_alloc ?_ _)); exact BK285.out) hb); have n5_ := Aside0.mk (Kd.C_below (by repeat (first | (with_reducible exact HR289_2.out) | (with_reducible refine Kd.C_alloc ?_ _) | (with_reducible refine Kd.C_drewN ?_ _) | (with_reducible refine Kd.C_drew ?_) | exact HR289_2.out)) hb); have n6_ := Aside0.mk (below_step bl_ hb); have n7_ := Aside0.mk (hbox); have n8_ := Aside0.mk (bsz_ hg : w.heap.size ≤ gb290); have n9_ := Aside0.mk (bsz_ hg : w.heap.size ≤ gb290); have n10_ := Aside0.mk ((by rw [hg]; exact Nat.ne_of_lt (blk_lt (g := gb285) (o := .cells #[.int .u64 t279, .bool t280, .slice Ao10 t281.length co10] 28 (0, 0)) (by (with_reducible repeat (first | refine blk_drewN ?_ _ | refine blk_drew ?_ | refine blk_alloc ?_ _)); exact BK285.out)) : gb285 ≠ gb290)); have n11_ := Aside0.mk ((by rw [hg]; exact Nat.ne_of_gt (blk_lt (g := gb285) (o := .cells #[.int .u64 t279, .bool t280, .slice Ao10 t281.length co10] 28 (0, 0)) (by (with_reducible repeat (first | refine blk_drewN ?_ _ | refine blk_drew ?_ | refine blk_alloc ?_ _)); exact BK285.out)) : gb290 ≠ gb285)); clear HO_5; clear HO_27; clear HO_286002; clear HL289_2; clear BK285; clear HR289_2; clear HB; have HO_5 := n0_; have HO_27 := n1_; have HO_286002 := n2_; have HL289_2 := n3_; have BK285 := n4_; have HR289_2 := n5_; have HB := n6_; have BK290 := n7_; have GW290 := n8_; have GE290 := n9_; have NB285_290 := n10_; have NB290_285 := n11_; clear n0_ n1_ n2_ n3_ n4_ n5_ n6_ n7_ n8_ n9_ n10_ n11_; clear hb hbox hg; have hnb24 := NB290_285.out; have hnc24 := NB285_290.out; obtain ⟨hcz25_0, hcz25_1, hcz25_2, hfz25_0, hfz25_1, hfz25_2⟩ := blk3_ BK290.out) | ((with_reducible refine gate_store (t := 28) (p := 9) rfl ?_); refine store_event (t := 28) (p := 9) (v := ?vo_w26) (w1 := (((w23.setCell ⟨gb290, 0, none⟩ (.int .u64 ((rd_T28 l0 x29_3).f0))).setCell ⟨gb290, 1, none⟩ (.bool ((rd_T28 l0 x29_3).f1))).setCell ⟨gb290, 2, none⟩ (.slice A289_2 ((rd_T28 l0 x29_3).f2).length c289_2))) ?hg ?ho ?hn ?hr ?_; (case ho => rfl); (case hg => rfl); (case hn => rfl); (case hr => first | (go_simp; done) | (go_simp; rfl)); intro w26 hw; have n0_ : Aside0 (Kd.N k28 28 w26 w.heap.size (fun k_ => (P0_ k_ ∨ w.heap.size ≤ k_) ∧ k_ ≠ gb285 ∧ k_ ≠ gb290) u5 x5_3) := ⟨(by rw [hw]; exact (by exact Kd.N_mono (Kd.N_far (p := ⟨gb290, 2, none⟩) (Kd.N_far (p := ⟨gb290, 1, none⟩) (Kd.N_far (p := ⟨gb290, 0, none⟩) (Kd.N_mono HO_5.out (fun k_ hk => (⟨hk, hk.2⟩ : _ ∧ k_ ≠ gb290))) (fun _ hk => hk.2) (.int .u64 ((rd_T28 l0 x29_3).f0))) (fun _ hk => hk.2) (.bool ((rd_T28 l0 x29_3).f1))) (fun _ hk => hk.2) (.slice A289_2 ((rd_T28 l0 x29_3).f2).length c289_2)) (fun _ hk => ⟨hk.1.1.1, ⟨hk.1.1.2, hk.1.2⟩⟩)))⟩; have n1_ : Aside0 (Kd.V k28 28 w26 w.heap.size (fun k_ => (P0_ k_ ∨ w.heap.size ≤ k_) ∧ some k_ ≠ (u5 : Value).ownBlock ∧ k_ ≠ gb285 ∧ k_ ≠ gb290) (.slice (some ad289) l0.length c0) l0) := ⟨(by rw [hw]; exact (by exact Kd.V_mono (Kd.V_far (p := ⟨gb290, 2, none⟩) (Kd.V_far (p := ⟨gb290, 1, none⟩) (Kd.V_far (p := ⟨gb290, 0, none⟩) (Kd.V_mono HO_27.out (fun k_ hk => (⟨hk, hk.2⟩ : _ ∧ k_ ≠ gb290))) (fun _ hk => hk.2) (.int .u64 ((rd_T28 l0 x29_3).f0))) (fun _ hk => hk.2) (.bool ((rd_T28 l0 x29_3).f1))) (fun _ hk => hk.2) (.slice A289_2 ((rd_T28 l0 x29_3).f2).length c289_2)) (fun _ hk => ⟨hk.1.1.1, ⟨hk.1.1.2.1, ⟨hk.1.1.2.2, hk.1.2⟩⟩⟩)))⟩; have n2_ : Aside0 (Kd.V (Kd.int .u8) 5 w26 w.heap.size (fun k_ => (P0_ k_ ∨ w.heap.size ≤ k_) ∧ some k_ ≠ (u5 : Value).ownBlock ∧ k_ ≠ gb285 ∧ k_ ≠ gb290) (.slice Ao10 t281.length co10) t281) := ⟨(by rw [hw]; exact (by exact Kd.V_mono (Kd.V_far (p := ⟨gb290, 2, none⟩) (Kd.V_far (p := ⟨gb290, 1, none⟩) (Kd.V_far (p := ⟨gb290, 0, none⟩) (Kd.V_mono HO_286002.out (fun k_ hk => (⟨hk, hk.2⟩ : _ ∧ k_ ≠ gb290))) (fun _ hk => hk.2) (.int .u64 ((rd_T28 l0 x29_3).f0))) (fun _ hk => hk.2) (.bool ((rd_T28 l0 x29_3).f1))) (fun _ hk => hk.2) (.slice A289_2 ((rd_T28 l0 x29_3).f2).length c289_2)) (fun _ hk => ⟨hk.1.1.1, ⟨hk.1.1.2.1, ⟨hk.1.1.2.2, hk.1.2⟩⟩⟩)))⟩; have n3_ : Aside0 (Kd.V (Kd.int .u8) 5 w26 w.heap.size (fun k_ => (P0_ k_ ∨ w.heap.size ≤ k_) ∧ some k_ ≠ (u5 : Value).ownBlock ∧ k_ ≠ gb285 ∧ k_ ≠ gb290) (.slice A289_2 ((rd_T28 l0 x29_3).f2).length c289_2) ((rd_T28 l0 x29_3).f2)) := ⟨(by rw [hw]; exact (by exact Kd.V_mono (Kd.V_far (p := ⟨gb290, 2, none⟩) (Kd.V_far (p := ⟨gb290, 1, none⟩) (Kd.V_far (p := ⟨gb290, 0, none⟩) (Kd.V_mono HL289_2.out (fun k_ hk => (⟨hk, hk.2⟩ : _ ∧ k_ ≠ gb290))) (fun _ hk => hk.2) (.int .u64 ((rd_T28 l0 x29_3).f0))) (fun _ hk => hk.2) (.bool ((rd_T28 l0 x29_3).f1))) (fun _ hk => hk.2) (.slice A289_2 ((rd_T28 l0 x29_3).f2).length c289_2)) (fun _ hk => ⟨hk.1.1.1, ⟨hk.1.1.2.1, ⟨hk.1.1.2.2, hk.1.2⟩⟩⟩)))⟩; have n4_ : Aside0 (w26.heap[gb285]? = some (.cells #[.int .u64 t279, .bool t280, .slice Ao10 t281.length co10] 28 (0, 0))) := ⟨(by rw [hw]; exact (by (with_reducible repeat (first | refine blk_drewN ?_ _ | refine blk_drew ?_ | refine blk_alloc ?_ _)); refine blk_far ?_ NB285_290.out _; (with_reducible repeat (first | refine blk_drewN ?_ _ | refine blk_drew ?_ | refine blk_alloc ?_ _)); refine blk_far ?_ NB285_290.out _; (with_reducible repeat (first | refine blk_drewN ?_ _ | refine blk_drew ?_ | refine blk_alloc ?_ _)); refine blk_far ?_ NB285_290.out _; (with_reducible repeat (first | refine blk_drewN ?_ _ | refine blk_drew ?_ | refine blk_alloc ?_ _)); exact BK285.out))⟩; have n5_ : Aside0 (w26.heap[gb290]? = some (.cells #[.int .u64 ((rd_T28 l0 x29_3).f0), .bool ((rd_T28 l0 x29_3).f1), .slice A289_2 ((rd_T28 l0 x29_3).f2).length c289_2] 28 (0, 0))) := ⟨(by rw [hw]; exact (by (with_reducible repeat (first | refine blk_drewN ?_ _ | refine blk_drew ?_ | refine blk_alloc ?_ _)); refine blk_put (cs := #[.int .u64 ((rd_T28 l0 x29_3).f0), .bool ((rd_T28 l0 x29_3).f1), .slice none 0 0]) ?_ 2 _ rfl; refine blk_put (cs := #[.int .u64 ((rd_T28 l0 x29_3).f0), .bool false, .slice none 0 0]) ?_ 1 _ rfl; refine blk_put (cs := #[.int .u64 0, .bool false, .slice none 0 0]) ?_ 0 _ rfl; exact BK290.out))⟩; have n6_ : Aside0 (Below w.heap.size w w26) := ⟨(by rw [hw]; exact bl_)⟩; clear hw; clear HO_5; clear HO_27; clear HO_286002; clear HL289_2; clear BK285; clear BK290; clear HB; have HO_5 := n0_; have HO_27 := n1_; have HO_286002 := n2_; have HL289_2 := n3_; have BK285 := n4_; have BK290 := n5_; have HB := n6_; clear n0_ n1_ n2_ n3_ n4_ n5_ n6_; obtain ⟨hcz27_0, hcz27_1, hcz27_2, hfz27_0, hfz27_1, hfz27_2⟩ := blk3_ BK290.out) | ((with_reducible refine gate_builtin (b := .append) (xs := #[.tmp 37, .tmp 39]) rfl ?_); at_builtin; refine Kd.N_append k28 (w0 := w) w.heap.size rfl (.tmp 37) (.tmp 39) 22 28 (.agg #[(.int .u64 0), (.bool false), (.slice none 0 0)]) 40 rfl Try.underlying22 info28 rfl (by decide) (by omega) u5 x5_3 (⟨(rd_T28 l0 x29_3).f0, (rd_T28 l0 x29_3).f1, (rd_T28 l0 x29_3).f2⟩ : S28) [.int .u64 ((rd_T28 l0 x29_3).f0), .bool ((rd_T28 l0 x29_3).f1), .slice A289_2 ((rd_T28 l0 x29_3).f2).length c289_2] (fun k_ => (P0_ k_ ∨ w.heap.size ≤ k_) ∧ k_ ≠ gb285 ∧ k_ ≠ gb290) (fun k_ => ((fun k_ => (P0_ k_ ∨ w.heap.size ≤ k_) ∧ k_ ≠ gb285 ∧ k_ ≠ gb290)) k_ ∧ some k_ ≠ (u5 : Value).ownBlock) rfl rfl ?aP (fun _ hk => hk) ?aF ?aO ?aB ?aS ?aL ?_; (case aP => exact (k28_mkF _ _ (⟨(rd_T28 l0 x29_3).f0, (rd_T28 l0 x29_3).f1, (rd_T28 l0 x29_3).f2⟩ : S28) (Kd.V_reads' (Kd.V_mono (ok' := (fun k_ => ((fun k_ => (P0_ k_ ∨ w.heap.size ≤ k_) ∧ k_ ≠ gb285 ∧ k_ ≠ gb290)) k_ ∧ some k_ ≠ (u5 : Value).ownBlock)) (HL289_2.out) (fun k_ hk => ⟨⟨hk.1, ⟨hk.2.2.1, hk.2.2.2⟩⟩, hk.2.1⟩))).2.1 (Kd.V_F (Kd.V_mono (ok' := (fun k_ => ((fun k_ => (P0_ k_ ∨ w.heap.size ≤ k_) ∧ k_ ≠ gb285 ∧ k_ ≠ gb290)) k_ ∧ some k_ ≠ (u5 : Value).ownBlock)) (HL289_2.out) (fun k_ hk => ⟨⟨hk.1, ⟨hk.2.2.1, hk.2.2.2⟩⟩, hk.2.1⟩))))); (case aB => exact bl_); (case aF => exact (fun k_ hk => ⟨(.inr (Nat.le_trans (below_size bl_) hk)), Kd.freshB (g := gb285) (o := .cells #[.int .u64 t279, .bool t280, .slice Ao10 t281.length co10] 28 (0, 0)) (by (with_reducible repeat (first | refine blk_drewN ?_ _ | refine blk_drew ?_ | refine blk_alloc ?_ _)); exact BK285.out) k_ hk, Kd.freshB (g := gb290) (o := .cells #[.int .u64 ((rd_T28 l0 x29_3).f0), .bool ((rd_T28 l0 x29_3).f1), .slice A289_2 ((rd_T28 l0 x29_3).f2).length c289_2] 28 (0, 0)) (by (with_reducible repeat (first | refine blk_drewN ?_ _ | refine blk_drew ?_ | refine blk_alloc ?_ _)); exact BK290.out) k_ hk⟩)); (case aO => exact (by exact HO_5.out)); (case aS => exact (below_size bl_)); (case aL => have := LMc22.out; omega); intro v292 w28 ho hb hg hat; rw [← Ny291.out] at ho; have n0_ := Aside0.mk (Kd.V_afterv (ok := (fun k_ => (P0_ k_ ∨ w.heap.size ≤ k_) ∧ k_ ≠ gb285 ∧ k_ ≠ gb290)) (by exact Kd.V_mono HO_27.out (fun _ hk => ⟨⟨hk.1, ⟨hk.2.2.1, hk.2.2.2⟩⟩, hk.2.1⟩)) hg hat); have n1_ := Aside0.mk (Kd.V_afterv (ok := (fun k_ => (P0_ k_ ∨ w.heap.size ≤ k_) ∧ k_ ≠ gb285 ∧ k_ ≠ gb290)) (by exact Kd.V_mono HO_286002.out (fun _ hk => ⟨⟨hk.1, ⟨hk.2.2.1, hk.2.2.2⟩⟩, hk.2.1⟩)) hg hat); have n2_ := Aside0.mk (blk_grown (g := gb285) (o := .cells #[.int .u64 t279, .bool t280, .slice Ao10 t281.length co10] 28 (0, 0)) (by (with_reducible repeat (first | refine blk_drewN ?_ _ | refine blk_drew ?_ | refine blk_alloc ?_ _)); exact BK285.out) hg (Kd.N_away HO_5.out (fun _ hk => hk.2.1))); have n3_ := Aside0.mk (Kd.V_afterv (ok := (fun k_ => (P0_ k_ ∨ w.heap.size ≤ k_) ∧ k_ ≠ gb285 ∧ k_ ≠ gb290)) (by exact Kd.V_mono HL289_2.out (fun _ hk => ⟨⟨hk.1, ⟨hk.2.2.1, hk.2.2.2⟩⟩, hk.2.1⟩)) hg hat); have n4_ := Aside0.mk (blk_grown (g := gb290) (o := .cells #[.int .u64 ((rd_T28 l0 x29_3).f0), .bool ((rd_T28 l0 x29_3).f1), .slice A289_2 ((rd_T28 l0 x29_3).f2).length c289_2] 28 (0, 0)) (by (with_reducible repeat (first | refine blk_drewN ?_ _ | refine blk_drew ?_ | refine blk_alloc ?_ _)); exact BK290.out) hg (Kd.N_away HO_5.out (fun _ hk => hk.2.2))); have n5_ := Aside0.mk (hb); have n6_ := Aside0.mk (ho); clear HO_27; clear HO_286002; clear BK285; clear HL289_2; clear BK290; clear HB; clear HO_5; have HO_27 := n0_; have HO_286002 := n1_; have BK285 := n2_; have HL289_2 := n3_; have BK290 := n4_; have HB := n5_; have HO293 := n6_; clear n0_ n1_ n2_ n3_ n4_ n5_ n6_; clear ho hb hg hat))
            go_roundg k3
            case measure => have := HJ3.out; have := HJ12.out; have := HK3.out; omega
            case rel => exact ⟨(y291), (wrap64 (x29_3 + 1)), (by first | rfl | (simp; done) | (simp [*]; done)), H', ⟨by have := HJ3.out; have := HJ12.out; have := HK3.out; omega⟩, ⟨by exact Kd.N_mono HO293.out (fun _ hk => ⟨hk.1, hk.2.1⟩)⟩, ⟨by exact Kd.V_mono HO_27.out (fun _ hk => ⟨hk.1.1, ⟨hk.2, hk.1.2.1⟩⟩)⟩, ⟨by exact Kd.V_mono HO_286002.out (fun _ hk => ⟨hk.1.1, ⟨hk.2, hk.1.2.1⟩⟩)⟩, ⟨by (with_reducible repeat (first | refine blk_drewN ?_ _ | refine blk_drew ?_ | refine blk_alloc ?_ _)); exact BK285.out⟩, ⟨bl_⟩⟩
           ·rw [if_neg c22] at H
            exact absurd H (by simp)
          ·rw [if_neg c21] at H
           have c21b0 : decide (a1 < ((rd_T28 l0 x29_3).f0)) = false := decide_eq_false c21
           clear c21; have H' := Aside0.mk H; clear H
           have p289 : 0 ≤ (x29_3 : Int) := od_
           have q289 : x29_3 < (l0.length : Int) := od_
           obtain ⟨ad289, A289_2, c289_2, e289, hx289_0, hx289_1, hx289_2, hl289_2, hi289_2⟩ := at_T28 (Kd.V_reads' HO_27.out).2.2 x29_3 p289 q289
           cases e289
           obtain ⟨ce289, hce289, hMe289, hcc289⟩ := Kd.V_get HO_27.out z28 x29_3 p289 (by first | exact q289 | exact od_ | (have e_ := (Kd.V_reads' HO_27.out).1; omega))
           obtain ⟨ua289_2, uc289_2, rfl, ul289_2, ge289_2⟩ := k28_openF hMe289
           have hv289_2 := hcc289 2 _ rfl
           rw [add_field _ _ 2 (by omega)] at hv289_2
           replace hv289_2 := Option.some.inj (hv289_2.symm.trans hx289_2)
           injection hv289_2 with hva_ hvn_ hvc_
           rw [hva_] at ge289_2
           rw [hvc_] at ul289_2
           have HL289_2 := Aside0.mk (show Kd.V (Kd.int .u8) 5 _ w.heap.size _ _ ((rd_T28 l0 x29_3).f2) from Kd.V_mk ul289_2 ge289_2)
           clear hva_ hvn_ hvc_ ge289_2 ul289_2; clear hcc289 hce289; have HR289_2 := Aside0.mk hi289_2; have HC289_2 := Aside0.mk hl289_2; clear hi289_2 hl289_2; replace p289 := eq_true p289; replace q289 := eq_true q289
           go_wp2_with (first | ((with_reducible refine gate_dst (N := 9) rfl ?_); refine box_event ?hg (N := 9) ?hd (cs := #[.int .u64 0, .bool false, .slice none 0 0]) (t := 28) ?hr ?_; (case hd => rfl); (case hg => rfl); (case hr => first | (go_simp; done) | (go_simp; rfl)); intro gb290 hg w29 hbox hb; have n0_ := Aside0.mk (Kd.N_below (Kd.N_elderB (by exact HO_5.out) gb290 (Nat.le_of_eq hg.symm)) hb); have n1_ := Aside0.mk (Kd.V_below (Kd.V_elderB (by exact HO_27.out) gb290 (Nat.le_of_eq hg.symm)) hb); have n2_ := Aside0.mk (Kd.V_below (Kd.V_elderB (by exact HO_286002.out) gb290 (Nat.le_of_eq hg.symm)) hb); have n3_ := Aside0.mk (Kd.V_below (Kd.V_elderB (by exact HL289_2.out) gb290 (Nat.le_of_eq hg.symm)) hb); have n4_ := Aside0.mk (blk_below (g := gb285) (o := .cells #[.int .u64 t279, .bool t280, .slice Ao10 t281.length co10] 28 (0, 0)) (by (with_reducible repeat (first | refine blk_drewN ?_ _ | refine blk_drew ?_ | refine blk_alloc ?_ _)); exact BK285.out) hb); have n5_ := Aside0.mk (Kd.C_below (by repeat (first | (with_reducible exact HR289_2.out) | (with_reducible refine Kd.C_alloc ?_ _) | (with_reducible refine Kd.C_drewN ?_ _) | (with_reducible refine Kd.C_drew ?_) | exact HR289_2.out)) hb); have n6_ := Aside0.mk (below_step bl_ hb); have n7_ := Aside0.mk (hbox); have n8_ := Aside0.mk (bsz_ hg : w.heap.size ≤ gb290); have n9_ := Aside0.mk (bsz_ hg : w.heap.size ≤ gb290); have n10_ := Aside0.mk ((by rw [hg]; exact Nat.ne_of_lt (blk_lt (g := gb285) (o := .cells #[.int .u64 t279, .bool t280, .slice Ao10 t281.length co10] 28 (0, 0)) (by (with_reducible repeat (first | refine blk_drewN ?_ _ | refine blk_drew ?_ | refine blk_alloc ?_ _)); exact BK285.out)) : gb285 ≠ gb290)); have n11_ := Aside0.mk ((by rw [hg]; exact Nat.ne_of_gt (blk_lt (g := gb285) (o := .cells #[.int .u64 t279, .bool t280, .slice Ao10 t281.length co10] 28 (0, 0)) (by (with_reducible repeat (first | refine blk_drewN ?_ _ | refine blk_drew ?_ | refine blk_alloc ?_ _)); exact BK285.out)) : gb290 ≠ gb285)); clear HO_5; clear HO_27; clear HO_286002; clear HL289_2; clear BK285; clear HR289_2; clear HB; have HO_5 := n0_; have HO_27 := n1_; have HO_286002 := n2_; have HL289_2 := n3_; have BK285 := n4_; have HR289_2 := n5_; have HB := n6_; have BK290 := n7_; have GW290 := n8_; have GE290 := n9_; have NB285_290 := n10_; have NB290_285 := n11_; clear n0_ n1_ n2_ n3_ n4_ n5_ n6_ n7_ n8_ n9_ n10_ n11_; clear hb hbox hg; have hnb30 := NB290_285.out; have hnc30 := NB285_290.out; obtain ⟨hcz31_0, hcz31_1, hcz31_2, hfz31_0, hfz31_1, hfz31_2⟩ := blk3_ BK290.out))
           go_roundg k3
           case measure => have := HJ3.out; have := HJ12.out; have := HK3.out; omega
           case rel => exact ⟨(x5_3), (wrap64 (x29_3 + 1)), (by first | rfl | (simp; done) | (simp [*]; done)), H', ⟨by have := HJ3.out; have := HJ12.out; have := HK3.out; omega⟩, ⟨by exact Kd.N_mono (Kd.N_far (p := ⟨gb290, 2, none⟩) (Kd.N_far (p := ⟨gb290, 1, none⟩) (Kd.N_far (p := ⟨gb290, 0, none⟩) (Kd.N_mono HO_5.out (fun k_ hk => (⟨hk, hk.2⟩ : _ ∧ k_ ≠ gb290))) (fun _ hk => hk.2) (.int .u64 ((rd_T28 l0 x29_3).f0))) (fun _ hk => hk.2) (.bool ((rd_T28 l0 x29_3).f1))) (fun _ hk => hk.2) (.slice A289_2 ((rd_T28 l0 x29_3).f2).length c289_2)) (fun _ hk => ⟨hk.1.1.1, hk.1.1.2⟩)⟩, ⟨by exact Kd.V_mono (Kd.V_far (p := ⟨gb290, 2, none⟩) (Kd.V_far (p := ⟨gb290, 1, none⟩) (Kd.V_far (p := ⟨gb290, 0, none⟩) (Kd.V_mono HO_27.out (fun k_ hk => (⟨hk, hk.2⟩ : _ ∧ k_ ≠ gb290))) (fun _ hk => hk.2) (.int .u64 ((rd_T28 l0 x29_3).f0))) (fun _ hk => hk.2) (.bool ((rd_T28 l0 x29_3).f1))) (fun _ hk => hk.2) (.slice A289_2 ((rd_T28 l0 x29_3).f2).length c289_2)) (fun _ hk => ⟨hk.1.1.1, ⟨hk.1.1.2.1, hk.1.1.2.2⟩⟩)⟩, ⟨by exact Kd.V_mono (Kd.V_far (p := ⟨gb290, 2, none⟩) (Kd.V_far (p := ⟨gb290, 1, none⟩) (Kd.V_far (p := ⟨gb290, 0, none⟩) (Kd.V_mono HO_286002.out (fun k_ hk => (⟨hk, hk.2⟩ : _ ∧ k_ ≠ gb290))) (fun _ hk => hk.2) (.int .u64 ((rd_T28 l0 x29_3).f0))) (fun _ hk => hk.2) (.bool ((rd_T28 l0 x29_3).f1))) (fun _ hk => hk.2) (.slice A289_2 ((rd_T28 l0 x29_3).f2).length c289_2)) (fun _ hk => ⟨hk.1.1.1, ⟨hk.1.1.2.1, hk.1.1.2.2⟩⟩)⟩, ⟨by (with_reducible repeat (first | refine blk_drewN ?_ _ | refine blk_drew ?_ | refine blk_alloc ?_ _)); refine blk_far ?_ NB285_290.out _; (with_reducible repeat (first | refine blk_drewN ?_ _ | refine blk_drew ?_ | refine blk_alloc ?_ _)); refine blk_far ?_ NB285_290.out _; (with_reducible repeat (first | refine blk_drewN ?_ _ | refine blk_drew ?_ | refine blk_alloc ?_ _)); refine blk_far ?_ NB285_290.out _; (with_reducible repeat (first | refine blk_drewN ?_ _ | refine blk_drew ?_ | refine blk_alloc ?_ _)); exact BK285.out⟩, ⟨bl_⟩⟩
         ·rw [if_neg c20] at H
          exact absurd H (by simp)
        ·rw [if_neg c19] at H
         exact absurd H (by simp)
       ·rw [if_neg c18] at H
        have c18b0 : decide (x29_3 < (l0.length : Int)) = false := decide_eq_false c18
        clear c18; obtain rfl := Option.some.inj H
        go_wp2
        go_ret
        exact ⟨_, by first | rfl | (simp [errW_none, errW_some] <;> rfl) | (simp [*, errW_none, errW_some] <;> rfl), by exact Kd.N_mono HO_5.out (fun _ hk => hk.1), bl_⟩
def conductorlaw07_ChainTrims.j0 : Nat → List (S28) → Int → Bool → Option (Bool)
 | 0, _, _, _ => none
 | k + 1, x0, x1, x17 => if x17 = true then ((conductorlaw07_live.f k).bind fun t297 => (some t297)) else ((some (([] : List (S28)) : List (S28))).bind fun y298 => (if y298.length + x0.length < 3518437208883 then ((chain_Trim.f k x0 x1).bind fun t304 => ((conductorref07_Trim.f k x0 x1).bind fun t307 => ((conductorref07_Same.f k t304 t307).bind fun t310 => (if t310 = true then ((conductorref07_Same.f k x0 (y298 ++ x0)).bind fun t311 => (some t311)) else (some false))))) else (none)))
def conductorlaw07_ChainTrims.f (k : Nat) (l0 : List (S28)) (a1 : Int) : Option (Bool) := (conductorlaw07_live.f k).bind fun t294 => (if t294 = true then ((conductorlaw07_few.f k l0).bind fun t295 => (if t295 = true then ((conductorref07_Right.f k l0).bind fun t296 => (conductorlaw07_ChainTrims.j0 k l0 a1 (!t296))) else (conductorlaw07_ChainTrims.j0 k l0 a1 true))) else (conductorlaw07_ChainTrims.j0 k l0 a1 true))
theorem conductorlaw07_ChainTrims.mono_l : ∀ k, (∀ y0 y1 y2, LeO (conductorlaw07_ChainTrims.j0 k y0 y1 y2) (conductorlaw07_ChainTrims.j0 (k + 1) y0 y1 y2))
 | 0 => fun _ _ _ r h => by simp [conductorlaw07_ChainTrims.j0] at h
 | k + 1 => by
  have ih0 := conductorlaw07_ChainTrims.mono_l k
  ·intro y0 y1 y2
   unfold conductorlaw07_ChainTrims.j0
   repeat' first
   | (with_reducible exact ih0 _ _ _)
   | (with_reducible exact chain_Trim.mono _ _ _)
   | (with_reducible exact conductorlaw07_few.mono _ _)
   | (with_reducible exact conductorlaw07_live.mono _)
   | (with_reducible exact conductorref07_Right.mono _ _)
   | (with_reducible exact conductorref07_Same.mono _ _ _)
   | (with_reducible exact conductorref07_Trim.mono _ _ _)
   | (with_reducible exact LeO.refl _)
   | (with_reducible exact LeO.none _)
   | (with_reducible refine LeO.ite ?_ ?_)
   | (with_reducible refine LeO.bind ?_ (fun _ => ?_))
   | exact ih0 _ _ _
   | exact chain_Trim.mono _ _ _
   | exact conductorlaw07_few.mono _ _
   | exact conductorlaw07_live.mono _
   | exact conductorref07_Right.mono _ _
   | exact conductorref07_Same.mono _ _ _
   | exact conductorref07_Trim.mono _ _ _
   | exact LeO.none _
   | refine LeO.ite ?_ ?_
   | refine LeO.bind ?_ (fun _ => ?_)
theorem conductorlaw07_ChainTrims.mono : ∀ a0 a1 k, LeO (conductorlaw07_ChainTrims.f k a0 a1) (conductorlaw07_ChainTrims.f (k + 1) a0 a1) := by
 intro a0 a1 k
 have ih0 := conductorlaw07_ChainTrims.mono_l k
 unfold conductorlaw07_ChainTrims.f
 repeat' first
   | (with_reducible exact ih0 _ _ _)
   | (with_reducible exact chain_Trim.mono _ _ _)
   | (with_reducible exact conductorlaw07_few.mono _ _)
   | (with_reducible exact conductorlaw07_live.mono _)
   | (with_reducible exact conductorref07_Right.mono _ _)
   | (with_reducible exact conductorref07_Same.mono _ _ _)
   | (with_reducible exact conductorref07_Trim.mono _ _ _)
   | (with_reducible exact LeO.refl _)
   | (with_reducible exact LeO.none _)
   | (with_reducible refine LeO.ite ?_ ?_)
   | (with_reducible refine LeO.bind ?_ (fun _ => ?_))
   | exact ih0 _ _ _
   | exact chain_Trim.mono _ _ _
   | exact conductorlaw07_few.mono _ _
   | exact conductorlaw07_live.mono _
   | exact conductorref07_Right.mono _ _
   | exact conductorref07_Same.mono _ _ _
   | exact conductorref07_Trim.mono _ _ _
   | exact LeO.none _
   | refine LeO.ite ?_ ?_
   | refine LeO.bind ?_ (fun _ => ?_)
def conductorlaw07_ChainReads.j0 : Nat → List (S28) → Int → Int → Bool → Option (Bool)
 | 0, _, _, _, _ => none
 | k + 1, x0, x1, x2, x28 => if x28 = true then ((conductorlaw07_live.f k).bind fun t315 => (some t315)) else ((chain_Trim.f k x0 x1).bind fun t316 => ((chain_Get.f x0 x2).bind fun bt319 => ((chain_Get.f t316 x2).bind fun bt323 => ((conductorref01_Equal.f bt319.1 bt323.1).bind fun t327 => (if t327 = true then (if (bt319.2 == bt323.2) = true then ((chain_Right.f k t316).bind fun t328 => (some t328)) else (some false)) else (some false))))))
def conductorlaw07_ChainReads.f (k : Nat) (l0 : List (S28)) (a1 : Int) (a2 : Int) : Option (Bool) := (conductorlaw07_live.f k).bind fun t312 => (if t312 = true then ((conductorlaw07_few.f k l0).bind fun t313 => (if t313 = true then ((chain_Right.f k l0).bind fun t314 => (if t314 = true then (conductorlaw07_ChainReads.j0 k l0 a1 a2 (decide (a2 < a1))) else (conductorlaw07_ChainReads.j0 k l0 a1 a2 true))) else (conductorlaw07_ChainReads.j0 k l0 a1 a2 true))) else (conductorlaw07_ChainReads.j0 k l0 a1 a2 true))
theorem conductorlaw07_ChainReads.mono_l : ∀ k, (∀ y0 y1 y2 y3, LeO (conductorlaw07_ChainReads.j0 k y0 y1 y2 y3) (conductorlaw07_ChainReads.j0 (k + 1) y0 y1 y2 y3))
 | 0 => fun _ _ _ _ r h => by simp [conductorlaw07_ChainReads.j0] at h
 | k + 1 => by
  have ih0 := conductorlaw07_ChainReads.mono_l k
  ·intro y0 y1 y2 y3
   unfold conductorlaw07_ChainReads.j0
   repeat' first
   | (with_reducible exact ih0 _ _ _ _)
   | (with_reducible exact chain_Right.mono _ _)
   | (with_reducible exact chain_Trim.mono _ _ _)
   | (with_reducible exact conductorlaw07_few.mono _ _)
   | (with_reducible exact conductorlaw07_live.mono _)
   | (with_reducible exact LeO.refl _)
   | (with_reducible exact LeO.none _)
   | (with_reducible refine LeO.ite ?_ ?_)
   | (with_reducible refine LeO.bind ?_ (fun _ => ?_))
   | exact ih0 _ _ _ _
   | exact chain_Right.mono _ _
   | exact chain_Trim.mono _ _ _
   | exact conductorlaw07_few.mono _ _
   | exact conductorlaw07_live.mono _
   | exact LeO.none _
   | refine LeO.ite ?_ ?_
   | refine LeO.bind ?_ (fun _ => ?_)
theorem conductorlaw07_ChainReads.mono : ∀ a0 a1 a2 k, LeO (conductorlaw07_ChainReads.f k a0 a1 a2) (conductorlaw07_ChainReads.f (k + 1) a0 a1 a2) := by
 intro a0 a1 a2 k
 have ih0 := conductorlaw07_ChainReads.mono_l k
 unfold conductorlaw07_ChainReads.f
 repeat' first
   | (with_reducible exact ih0 _ _ _ _)
   | (with_reducible exact chain_Right.mono _ _)
   | (with_reducible exact chain_Trim.mono _ _ _)
   | (with_reducible exact conductorlaw07_few.mono _ _)
   | (with_reducible exact conductorlaw07_live.mono _)
   | (with_reducible exact LeO.refl _)
   | (with_reducible exact LeO.none _)
   | (with_reducible refine LeO.ite ?_ ?_)
   | (with_reducible refine LeO.bind ?_ (fun _ => ?_))
   | exact ih0 _ _ _ _
   | exact chain_Right.mono _ _
   | exact chain_Trim.mono _ _ _
   | exact conductorlaw07_few.mono _ _
   | exact conductorlaw07_live.mono _
   | exact LeO.none _
   | refine LeO.ite ?_ ?_
   | refine LeO.bind ?_ (fun _ => ?_)
end Go.Proofs.Yteofdgonpbmdlaa.C
namespace Go.Proofs.Yteofdgonpbmdlaa.C
open Go.RowKit Go.Proofs.YteofdgonpbmdlaaW.PrintWords Go.Proofs.YteofdgonpbmdlaaW.PrintLast Go.Proofs.YteofdgonpbmdlaaW.PrintMore
attribute [local go_sem] max2_int min2_int max_two min_two max_three min_three max_four min_four   -- for this text's walks alone
set_option linter.unusedVariables false
set_option linter.unusedSimpArgs false
def conductorlaw07_ChainFinds.j0 : Nat → List (S28) → Int → Bool → Option (Bool)
 | 0, _, _, _ => none
 | k + 1, x0, x1, x24 => if x24 = true then ((conductorlaw07_live.f k).bind fun t210 => (some t210)) else ((chain_Find.f x0 x1).bind fun bt211 => ((conductorref07_Find.f k x0 x1).bind fun bt218 => ((chain_Get.f x0 x1).bind fun bt225 => ((conductorref07_Get.f k x0 x1).bind fun bt229 => ((conductorref07_SameOne.f bt211.1 bt211.2.1 bt211.2.2.1 bt218.1 bt218.2.1 bt218.2.2.1).bind fun t233 => (if t233 = true then (if (bt211.2.2.2 == bt218.2.2.2) = true then ((conductorref01_Equal.f bt225.1 bt229.1).bind fun t234 => (if t234 = true then (if (bt225.2 == bt229.2) = true then ((chain_Last.f x0).bind fun t235 => ((conductorref07_Last.f k x0).bind fun t236 => (some (t235 == t236)))) else (some false)) else (some false))) else (some false)) else (some false)))))))
def conductorlaw07_ChainFinds.f (k : Nat) (l0 : List (S28)) (a1 : Int) : Option (Bool) := (conductorlaw07_live.f k).bind fun t207 => (if t207 = true then ((conductorlaw07_few.f k l0).bind fun t208 => (if t208 = true then ((conductorref07_Right.f k l0).bind fun t209 => (conductorlaw07_ChainFinds.j0 k l0 a1 (!t209))) else (conductorlaw07_ChainFinds.j0 k l0 a1 true))) else (conductorlaw07_ChainFinds.j0 k l0 a1 true))
theorem conductorlaw07_ChainFinds.mono_l : ∀ k, (∀ y0 y1 y2, LeO (conductorlaw07_ChainFinds.j0 k y0 y1 y2) (conductorlaw07_ChainFinds.j0 (k + 1) y0 y1 y2))
 | 0 => fun _ _ _ r h => by simp [conductorlaw07_ChainFinds.j0] at h
 | k + 1 => by
  have ih0 := conductorlaw07_ChainFinds.mono_l k
  ·intro y0 y1 y2
   unfold conductorlaw07_ChainFinds.j0
   repeat' first
   | (with_reducible exact ih0 _ _ _)
   | (with_reducible exact conductorlaw07_few.mono _ _)
   | (with_reducible exact conductorlaw07_live.mono _)
   | (with_reducible exact conductorref07_Find.mono _ _ _)
   | (with_reducible exact conductorref07_Get.mono _ _ _)
   | (with_reducible exact conductorref07_Last.mono _ _)
   | (with_reducible exact conductorref07_Right.mono _ _)
   | (with_reducible exact LeO.refl _)
   | (with_reducible exact LeO.none _)
   | (with_reducible refine LeO.ite ?_ ?_)
   | (with_reducible refine LeO.bind ?_ (fun _ => ?_))
   | exact ih0 _ _ _
   | exact conductorlaw07_few.mono _ _
   | exact conductorlaw07_live.mono _
   | exact conductorref07_Find.mono _ _ _
   | exact conductorref07_Get.mono _ _ _
   | exact conductorref07_Last.mono _ _
   | exact conductorref07_Right.mono _ _
   | exact LeO.none _
   | refine LeO.ite ?_ ?_
   | refine LeO.bind ?_ (fun _ => ?_)
theorem conductorlaw07_ChainFinds.mono : ∀ a0 a1 k, LeO (conductorlaw07_ChainFinds.f k a0 a1) (conductorlaw07_ChainFinds.f (k + 1) a0 a1) := by
 intro a0 a1 k
 have ih0 := conductorlaw07_ChainFinds.mono_l k
 unfold conductorlaw07_ChainFinds.f
 repeat' first
   | (with_reducible exact ih0 _ _ _)
   | (with_reducible exact conductorlaw07_few.mono _ _)
   | (with_reducible exact conductorlaw07_live.mono _)
   | (with_reducible exact conductorref07_Find.mono _ _ _)
   | (with_reducible exact conductorref07_Get.mono _ _ _)
   | (with_reducible exact conductorref07_Last.mono _ _)
   | (with_reducible exact conductorref07_Right.mono _ _)
   | (with_reducible exact LeO.refl _)
   | (with_reducible exact LeO.none _)
   | (with_reducible refine LeO.ite ?_ ?_)
   | (with_reducible refine LeO.bind ?_ (fun _ => ?_))
   | exact ih0 _ _ _
   | exact conductorlaw07_few.mono _ _
   | exact conductorlaw07_live.mono _
   | exact conductorref07_Find.mono _ _ _
   | exact conductorref07_Get.mono _ _ _
   | exact conductorref07_Last.mono _ _
   | exact conductorref07_Right.mono _ _
   | exact LeO.none _
   | refine LeO.ite ?_ ?_
   | refine LeO.bind ?_ (fun _ => ?_)
end Go.Proofs.Yteofdgonpbmdlaa.C
namespace Go.Proofs.Yteofdgonpbmdlaa.C
open Go.RowKit Go.Proofs.YteofdgonpbmdlaaW.PrintWords Go.Proofs.YteofdgonpbmdlaaW.PrintLast Go.Proofs.YteofdgonpbmdlaaW.PrintMore
attribute [local go_sem] max2_int min2_int max_two min_two max_three min_three max_four min_four
set_option linter.unusedVariables false
set_option linter.unusedSimpArgs false
def conductorlaw07_ChainPuts.j0 : Nat → List (S28) → Bool → Int → Bool → List Int → Option (Bool)
 | 0, _, _, _, _, _ => none
 | k + 1, x0, x22, x257000, x257001, x257002 => if x22 = true then ((conductorlaw07_live.f k).bind fun t259 => (some t259)) else ((some (([] : List (S28)) : List (S28))).bind fun y260 => (if y260.length + x0.length < 3518437208883 then ((chain_Put.f k x0 x257000 x257001 x257002).bind fun bt266 => ((conductorref07_Put.f k x0 x257000 x257001 x257002).bind fun bt270 => ((conductorref07_Same.f k bt266.1 bt270.1).bind fun t274 => (if t274 = true then (if bt266.2 = bt270.2 then ((conductorref07_Same.f k x0 (y260 ++ x0)).bind fun t275 => (some t275)) else (some false)) else (some false))))) else (none)))
def conductorlaw07_ChainPuts.f (k : Nat) (l0 : List (S28)) (a1_0 : Int) (a1_1 : Bool) (l1_2 : List Int) : Option (Bool) := (conductorlaw07_live.f k).bind fun t257 => (if t257 = true then ((conductorlaw07_few.f k l0).bind fun t258 => (if t258 = true then (conductorlaw07_ChainPuts.j0 k l0 (decide ((l1_2.length : Int) > 1000)) a1_0 a1_1 l1_2) else (conductorlaw07_ChainPuts.j0 k l0 true a1_0 a1_1 l1_2))) else (conductorlaw07_ChainPuts.j0 k l0 true a1_0 a1_1 l1_2))
theorem conductorlaw07_ChainPuts.mono_l : ∀ k, (∀ y0 y1 y2 y3 y4, LeO (conductorlaw07_ChainPuts.j0 k y0 y1 y2 y3 y4) (conductorlaw07_ChainPuts.j0 (k + 1) y0 y1 y2 y3 y4))
 | 0 => fun _ _ _ _ _ r h => by simp [conductorlaw07_ChainPuts.j0] at h
 | k + 1 => by
  have ih0 := conductorlaw07_ChainPuts.mono_l k
  ·intro y0 y1 y2 y3 y4
   unfold conductorlaw07_ChainPuts.j0
   repeat' first
   | (with_reducible exact ih0 _ _ _ _ _)
   | (with_reducible exact chain_Put.mono _ _ _ _ _)
   | (with_reducible exact conductorlaw07_few.mono _ _)
   | (with_reducible exact conductorlaw07_live.mono _)
   | (with_reducible exact conductorref07_Put.mono _ _ _ _ _)
   | (with_reducible exact conductorref07_Same.mono _ _ _)
   | (with_reducible exact LeO.refl _)
   | (with_reducible exact LeO.none _)
   | (with_reducible refine LeO.ite ?_ ?_)
   | (with_reducible refine LeO.bind ?_ (fun _ => ?_))
   | exact ih0 _ _ _ _ _
   | exact chain_Put.mono _ _ _ _ _
   | exact conductorlaw07_few.mono _ _
   | exact conductorlaw07_live.mono _
   | exact conductorref07_Put.mono _ _ _ _ _
   | exact conductorref07_Same.mono _ _ _
   | exact LeO.none _
   | refine LeO.ite ?_ ?_
   | refine LeO.bind ?_ (fun _ => ?_)
theorem conductorlaw07_ChainPuts.mono : ∀ a0 a1 a2 a3 k, LeO (conductorlaw07_ChainPuts.f k a0 a1 a2 a3) (conductorlaw07_ChainPuts.f (k + 1) a0 a1 a2 a3) := by
 intro a0 a1 a2 a3 k
 have ih0 := conductorlaw07_ChainPuts.mono_l k
 unfold conductorlaw07_ChainPuts.f
 repeat' first
   | (with_reducible exact ih0 _ _ _ _ _)
   | (with_reducible exact chain_Put.mono _ _ _ _ _)
   | (with_reducible exact conductorlaw07_few.mono _ _)
   | (with_reducible exact conductorlaw07_live.mono _)
   | (with_reducible exact conductorref07_Put.mono _ _ _ _ _)
   | (with_reducible exact conductorref07_Same.mono _ _ _)
   | (with_reducible exact LeO.refl _)
   | (with_reducible exact LeO.none _)
   | (with_reducible refine LeO.ite ?_ ?_)
   | (with_reducible refine LeO.bind ?_ (fun _ => ?_))
   | exact ih0 _ _ _ _ _
   | exact chain_Put.mono _ _ _ _ _
   | exact conductorlaw07_few.mono _ _
   | exact conductorlaw07_live.mono _
   | exact conductorref07_Put.mono _ _ _ _ _
   | exact conductorref07_Same.mono _ _ _
   | exact LeO.none _
   | refine LeO.ite ?_ ?_
   | refine LeO.bind ?_ (fun _ => ?_)
def conductorlaw07_ChainStays.j0 : Nat → List (S28) → Int → Bool → Int → Bool → List Int → Option (Bool)
 | 0, _, _, _, _, _, _ => none
 | k + 1, x0, x2, x25, x330000, x330001, x330002 => if x25 = true then ((conductorlaw07_live.f k).bind fun t332 => (some t332)) else ((chain_Put.f k x0 x330000 x330001 x330002).bind fun bt333 => (if bt333.2 = 0 then ((chain_Get.f x0 x2).bind fun bt337 => ((chain_Get.f bt333.1 x2).bind fun bt341 => (if x2 ≥ x330000 then (if (bt341.2 != x330001) = true then (if x330001 = true then (some true) else ((conductorref01_Equal.f bt341.1 x330002).bind fun t345 => (some t345))) else (some false)) else ((conductorref01_Equal.f bt337.1 bt341.1).bind fun t346 => (if t346 = true then (some (bt337.2 == bt341.2)) else (some false)))))) else (some ((bt333.1.length : Int) == 0))))
def conductorlaw07_ChainStays.f (k : Nat) (l0 : List (S28)) (a1_0 : Int) (a1_1 : Bool) (l1_2 : List Int) (a2 : Int) : Option (Bool) := (conductorlaw07_live.f k).bind fun t330 => (if t330 = true then ((conductorlaw07_few.f k l0).bind fun t331 => (if t331 = true then (conductorlaw07_ChainStays.j0 k l0 a2 (decide ((l1_2.length : Int) > 1000)) a1_0 a1_1 l1_2) else (conductorlaw07_ChainStays.j0 k l0 a2 true a1_0 a1_1 l1_2))) else (conductorlaw07_ChainStays.j0 k l0 a2 true a1_0 a1_1 l1_2))
theorem conductorlaw07_ChainStays.mono_l : ∀ k, (∀ y0 y1 y2 y3 y4 y5, LeO (conductorlaw07_ChainStays.j0 k y0 y1 y2 y3 y4 y5) (conductorlaw07_ChainStays.j0 (k + 1) y0 y1 y2 y3 y4 y5))
 | 0 => fun _ _ _ _ _ _ r h => by simp [conductorlaw07_ChainStays.j0] at h
 | k + 1 => by
  have ih0 := conductorlaw07_ChainStays.mono_l k
  ·intro y0 y1 y2 y3 y4 y5
   unfold conductorlaw07_ChainStays.j0
   repeat' first
   | (with_reducible exact ih0 _ _ _ _ _ _)
   | (with_reducible exact chain_Put.mono _ _ _ _ _)
   | (with_reducible exact conductorlaw07_few.mono _ _)
   | (with_reducible exact conductorlaw07_live.mono _)
   | (with_reducible exact LeO.refl _)
   | (with_reducible exact LeO.none _)
   | (with_reducible refine LeO.ite ?_ ?_)
   | (with_reducible refine LeO.bind ?_ (fun _ => ?_))
   | exact ih0 _ _ _ _ _ _
   | exact chain_Put.mono _ _ _ _ _
   | exact conductorlaw07_few.mono _ _
   | exact conductorlaw07_live.mono _
   | exact LeO.none _
   | refine LeO.ite ?_ ?_
   | refine LeO.bind ?_ (fun _ => ?_)
theorem conductorlaw07_ChainStays.mono : ∀ a0 a1 a2 a3 a4 k, LeO (conductorlaw07_ChainStays.f k a0 a1 a2 a3 a4) (conductorlaw07_ChainStays.f (k + 1) a0 a1 a2 a3 a4) := by
 intro a0 a1 a2 a3 a4 k
 have ih0 := conductorlaw07_ChainStays.mono_l k
 unfold conductorlaw07_ChainStays.f
 repeat' first
   | (with_reducible exact ih0 _ _ _ _ _ _)
   | (with_reducible exact chain_Put.mono _ _ _ _ _)
   | (with_reducible exact conductorlaw07_few.mono _ _)
   | (with_reducible exact conductorlaw07_live.mono _)
   | (with_reducible exact LeO.refl _)
   | (with_reducible exact LeO.none _)
   | (with_reducible refine LeO.ite ?_ ?_)
   | (with_reducible refine LeO.bind ?_ (fun _ => ?_))
   | exact ih0 _ _ _ _ _ _
   | exact chain_Put.mono _ _ _ _ _
   | exact conductorlaw07_few.mono _ _
   | exact conductorlaw07_live.mono _
   | exact LeO.none _
   | refine LeO.ite ?_ ?_
   | refine LeO.bind ?_ (fun _ => ?_)
mutual
def conductorlaw07_ChainFew.j0 : Nat → List (S28) → Int → Int → Bool → Option (Bool)
 | 0, _, _, _, _ => none
 | k + 1, x0, x1, x2, x27 => if x27 = true then ((conductorlaw07_live.f k).bind fun t352 => (some t352)) else ((chain_Trim.f k x0 x1).bind fun t353 => (conductorlaw07_ChainFew.l0 k x0 x1 x2 t353 0 t353 (t353.length : Int) 0))
def conductorlaw07_ChainFew.l0 : Nat → List (S28) → Int → Int → List (S28) → Int → List (S28) → Int → Int → Option (Bool)
 | 0, _, _, _, _, _, _, _, _ => none
 | k + 1, x0, x1, x2, x7, x8, x32, x33, x34 => if x34 < x33 then (if 0 ≤ x34 then (if x34 < (x32.length : Int) then (if ((rd_T28 x32 x34).f0) ≤ x1 then (if (rd_T28 x32 x34).f1 = true then (some false) else (conductorlaw07_ChainFew.l0 k x0 x1 x2 x7 (wrap64 (x8 + 1)) x32 x33 (wrap64 (x34 + 1)))) else (conductorlaw07_ChainFew.l0 k x0 x1 x2 x7 x8 x32 x33 (wrap64 (x34 + 1)))) else (none)) else (none)) else (if x8 ≤ 1 then ((chain_Trim.f k x0 x2).bind fun t358 => ((chain_Trim.f k t358 x1).bind fun t361 => ((conductorref07_Same.f k t361 x7).bind fun t364 => (if t364 = true then ((chain_Trim.f k x7 x1).bind fun t365 => ((conductorref07_Same.f k t365 x7).bind fun t368 => (if t368 = true then ((chain_Size.f k x7).bind fun t369 => ((chain_Size.f k x0).bind fun t370 => (some (decide (t369 ≤ t370))))) else (some false)))) else (some false))))) else (some false))
end
def conductorlaw07_ChainFew.f (k : Nat) (l0 : List (S28)) (a1 : Int) (a2 : Int) : Option (Bool) := (conductorlaw07_live.f k).bind fun t349 => (if t349 = true then ((conductorlaw07_few.f k l0).bind fun t350 => (if t350 = true then ((chain_Right.f k l0).bind fun t351 => (if t351 = true then (conductorlaw07_ChainFew.j0 k l0 a1 a2 (decide (a2 > a1))) else (conductorlaw07_ChainFew.j0 k l0 a1 a2 true))) else (conductorlaw07_ChainFew.j0 k l0 a1 a2 true))) else (conductorlaw07_ChainFew.j0 k l0 a1 a2 true))
theorem conductorlaw07_ChainFew.mono_l : ∀ k, (∀ y0 y1 y2 y3, LeO (conductorlaw07_ChainFew.j0 k y0 y1 y2 y3) (conductorlaw07_ChainFew.j0 (k + 1) y0 y1 y2 y3)) ∧ (∀ y0 y1 y2 y3 y4 y5 y6 y7, LeO (conductorlaw07_ChainFew.l0 k y0 y1 y2 y3 y4 y5 y6 y7) (conductorlaw07_ChainFew.l0 (k + 1) y0 y1 y2 y3 y4 y5 y6 y7))
 | 0 => ⟨fun _ _ _ _ r h => by simp [conductorlaw07_ChainFew.j0] at h, fun _ _ _ _ _ _ _ _ r h => by simp [conductorlaw07_ChainFew.l0] at h⟩
 | k + 1 => by
  obtain ⟨ih0, ih1⟩ := conductorlaw07_ChainFew.mono_l k
  refine ⟨?_, ?_⟩
  ·intro y0 y1 y2 y3
   unfold conductorlaw07_ChainFew.j0
   repeat' first
   | (with_reducible exact ih0 _ _ _ _)
   | (with_reducible exact ih1 _ _ _ _ _ _ _ _)
   | (with_reducible exact chain_Right.mono _ _)
   | (with_reducible exact chain_Size.mono _ _)
   | (with_reducible exact chain_Trim.mono _ _ _)
   | (with_reducible exact conductorlaw07_few.mono _ _)
   | (with_reducible exact conductorlaw07_live.mono _)
   | (with_reducible exact conductorref07_Same.mono _ _ _)
   | (with_reducible exact LeO.refl _)
   | (with_reducible exact LeO.none _)
   | (with_reducible refine LeO.ite ?_ ?_)
   | (with_reducible refine LeO.bind ?_ (fun _ => ?_))
   | exact ih0 _ _ _ _
   | exact ih1 _ _ _ _ _ _ _ _
   | exact chain_Right.mono _ _
   | exact chain_Size.mono _ _
   | exact chain_Trim.mono _ _ _
   | exact conductorlaw07_few.mono _ _
   | exact conductorlaw07_live.mono _
   | exact conductorref07_Same.mono _ _ _
   | exact LeO.none _
   | refine LeO.ite ?_ ?_
   | refine LeO.bind ?_ (fun _ => ?_)
  ·intro y0 y1 y2 y3 y4 y5 y6 y7
   unfold conductorlaw07_ChainFew.l0
   repeat' first
   | (with_reducible exact ih0 _ _ _ _)
   | (with_reducible exact ih1 _ _ _ _ _ _ _ _)
   | (with_reducible exact chain_Right.mono _ _)
   | (with_reducible exact chain_Size.mono _ _)
   | (with_reducible exact chain_Trim.mono _ _ _)
   | (with_reducible exact conductorlaw07_few.mono _ _)
   | (with_reducible exact conductorlaw07_live.mono _)
   | (with_reducible exact conductorref07_Same.mono _ _ _)
   | (with_reducible exact LeO.refl _)
   | (with_reducible exact LeO.none _)
   | (with_reducible refine LeO.ite ?_ ?_)
   | (with_reducible refine LeO.bind ?_ (fun _ => ?_))
   | exact ih0 _ _ _ _
   | exact ih1 _ _ _ _ _ _ _ _
   | exact chain_Right.mono _ _
   | exact chain_Size.mono _ _
   | exact chain_Trim.mono _ _ _
   | exact conductorlaw07_few.mono _ _
   | exact conductorlaw07_live.mono _
   | exact conductorref07_Same.mono _ _ _
   | exact LeO.none _
   | refine LeO.ite ?_ ?_
   | refine LeO.bind ?_ (fun _ => ?_)
theorem conductorlaw07_ChainFew.mono : ∀ a0 a1 a2 k, LeO (conductorlaw07_ChainFew.f k a0 a1 a2) (conductorlaw07_ChainFew.f (k + 1) a0 a1 a2) := by
 intro a0 a1 a2 k
 obtain ⟨ih0, ih1⟩ := conductorlaw07_ChainFew.mono_l k
 unfold conductorlaw07_ChainFew.f
 repeat' first
   | (with_reducible exact ih0 _ _ _ _)
   | (with_reducible exact ih1 _ _ _ _ _ _ _ _)
   | (with_reducible exact chain_Right.mono _ _)
   | (with_reducible exact chain_Size.mono _ _)
   | (with_reducible exact chain_Trim.mono _ _ _)
   | (with_reducible exact conductorlaw07_few.mono _ _)
   | (with_reducible exact conductorlaw07_live.mono _)
   | (with_reducible exact conductorref07_Same.mono _ _ _)
   | (with_reducible exact LeO.refl _)
   | (with_reducible exact LeO.none _)
   | (with_reducible refine LeO.ite ?_ ?_)
   | (with_reducible refine LeO.bind ?_ (fun _ => ?_))
   | exact ih0 _ _ _ _
   | exact ih1 _ _ _ _ _ _ _ _
   | exact chain_Right.mono _ _
   | exact chain_Size.mono _ _
   | exact chain_Trim.mono _ _ _
   | exact conductorlaw07_few.mono _ _
   | exact conductorlaw07_live.mono _
   | exact conductorref07_Same.mono _ _ _
   | exact LeO.none _
   | refine LeO.ite ?_ ?_
   | refine LeO.bind ?_ (fun _ => ?_)
def conductorref07_Size.l0 : Nat → Int → List (S28) → Int → Int → Option (Int)
 | 0, _, _, _, _ => none
 | k + 1, x3, x6, x7, x8 => if x8 < x7 then (if 0 ≤ x8 then (if x8 < (x6.length : Int) then (conductorref07_Size.l0 k (wrap64 (x3 + (((rd_T28 x6 x8).f2).length : Int))) x6 x7 (wrap64 (x8 + 1))) else (none)) else (none)) else (some x3)
def conductorref07_Size.f (k : Nat) (l0 : List (S28)) : Option (Int) := conductorref07_Size.l0 k 0 l0 (l0.length : Int) 0
theorem conductorref07_Size.mono_l : ∀ k, (∀ y0 y1 y2 y3, LeO (conductorref07_Size.l0 k y0 y1 y2 y3) (conductorref07_Size.l0 (k + 1) y0 y1 y2 y3))
 | 0 => fun _ _ _ _ r h => by simp [conductorref07_Size.l0] at h
 | k + 1 => by
  have ih0 := conductorref07_Size.mono_l k
  ·intro y0 y1 y2 y3
   unfold conductorref07_Size.l0
   repeat' first
   | (with_reducible exact ih0 _ _ _ _)
   | (with_reducible exact LeO.refl _)
   | (with_reducible exact LeO.none _)
   | (with_reducible refine LeO.ite ?_ ?_)
   | (with_reducible refine LeO.bind ?_ (fun _ => ?_))
   | exact ih0 _ _ _ _
   | exact LeO.none _
   | refine LeO.ite ?_ ?_
   | refine LeO.bind ?_ (fun _ => ?_)
theorem conductorref07_Size.mono : ∀ a0 k, LeO (conductorref07_Size.f k a0) (conductorref07_Size.f (k + 1) a0) := by
 intro a0 k
 have ih0 := conductorref07_Size.mono_l k
 unfold conductorref07_Size.f
 repeat' first
   | (with_reducible exact ih0 _ _ _ _)
   | (with_reducible exact LeO.refl _)
   | (with_reducible exact LeO.none _)
   | (with_reducible refine LeO.ite ?_ ?_)
   | (with_reducible refine LeO.bind ?_ (fun _ => ?_))
   | exact ih0 _ _ _ _
   | exact LeO.none _
   | refine LeO.ite ?_ ?_
   | refine LeO.bind ?_ (fun _ => ?_)
set_option maxHeartbeats 8000000 in
set_option maxRecDepth 100000 in
theorem conductorref07_Size.calls (k : Nat) (A0 : Option Addr) (c0 : Nat) (l0 : List (S28)) (r : Int) (w : World) (hr0 : Kd.C k28 w A0 l0.length l0) (hc0 : l0.length ≤ c0) (h : conductorref07_Size.f k l0 = some r) :
  Calls Try.prog 35 #[.slice A0 l0.length c0] w fun e w' => e = .returned (.int .i64 r) ∧ Below w.heap.size w w' := by
 have hu28 := Try.underlying28
 have HR0 := Aside0.mk hr0; have HC0 := Aside0.mk hc0; clear hr0 hc0
 have HB := Aside0.mk (Below.refl w.heap.size w)
 have H : (conductorref07_Size.l0 k 0 l0 (l0.length : Int) 0) = some r := h
 clear h; have H' := Aside0.mk H; clear H
 go_enter Try.func35, Try.ntmps35
 go_wp2
 go_loopg [3, 8] k (fun kq v3 v8 w' => ∃ (x3_1 : Int) (x8_1 : Int), v3 = .int .i64 x3_1 ∧ v8 = .int .i64 x8_1 ∧ Aside0 (conductorref07_Size.l0 kq x3_1 l0 (l0.length : Int) x8_1 = some r) ∧ Aside0 (kq ≤ k) ∧ Aside0 (Below w.heap.size w w'))
 case atStart => exact ⟨(0), (0), (by first | rfl | (simp; done) | (simp [*]; done)), (by first | rfl | (simp; done) | (simp [*]; done)), H', ⟨Nat.le_refl _⟩, ⟨bl_⟩⟩
 case round =>
  clear H'; obtain ⟨x3_1, x8_1, rfl, rfl, HA, HK1, HB⟩ := hrel
  cases gk with
  | zero => exact absurd HA.out (by simp [conductorref07_Size.l0])
  | succ k1 =>
   have H := HA.out
   clear HA
   simp only [conductorref07_Size.l0] at H
   by_cases c2 : x8_1 < (l0.length : Int)
   ·rw [if_pos c2] at H
    have c2b0 : decide (x8_1 < (l0.length : Int)) = true := decide_eq_true c2
    clear c2
    by_cases c3 : 0 ≤ x8_1
    ·rw [if_pos c3] at H
     have c3b0 : decide (0 ≤ x8_1) = true := decide_eq_true c3
     clear c3
     by_cases c4 : x8_1 < (l0.length : Int)
     ·rw [if_pos c4] at H
      have c4b0 : decide (x8_1 < (l0.length : Int)) = true := decide_eq_true c4
      clear c4; have H' := Aside0.mk H; clear H
      have p371 : 0 ≤ (x8_1 : Int) := od_
      have q371 : x8_1 < (l0.length : Int) := od_
      obtain ⟨ad371, A371_2, c371_2, e371, hx371_0, hx371_1, hx371_2, hl371_2, hi371_2⟩ := at_T28 HR0.out x8_1 p371 q371; cases e371
      replace hx371_0 := up_ HB.out hx371_0
      replace hx371_1 := up_ HB.out hx371_1
      replace hx371_2 := up_ HB.out hx371_2
      have HR371_2 := Aside0.mk hi371_2; have HC371_2 := Aside0.mk hl371_2; clear hi371_2 hl371_2; replace p371 := eq_true p371; replace q371 := eq_true q371
      go_wp2_with (first | ((with_reducible refine gate_dst (N := 5) rfl ?_); refine box_event ?hg (N := 5) ?hd (cs := #[.int .u64 0, .bool false, .slice none 0 0]) (t := 28) ?hr ?_; (case hd => rfl); (case hg => rfl); (case hr => first | (go_simp; done) | (go_simp; rfl)); intro gb372 hg w5 hbox hb; have n0_ := Aside0.mk (below_step bl_ hb); have n1_ := Aside0.mk (hbox); have n2_ := Aside0.mk (bsz_ hg : w.heap.size ≤ gb372); have n3_ := Aside0.mk (bsz_ hg : w.heap.size ≤ gb372); clear HB; have HB := n0_; have BK372 := n1_; have GW372 := n2_; have GE372 := n3_; clear n0_ n1_ n2_ n3_; clear hb hbox hg; obtain ⟨hcz6_0, hcz6_1, hcz6_2, hfz6_0, hfz6_1, hfz6_2⟩ := blk3_ BK372.out))
      go_roundg k1
      case measure => have := HK1.out; omega
      case rel => exact ⟨(wrap64 (x3_1 + (((rd_T28 l0 x8_1).f2).length : Int))), (wrap64 (x8_1 + 1)), (by first | rfl | (simp; done) | (simp [*]; done)), (by first | rfl | (simp; done) | (simp [*]; done)), H', ⟨by have := HK1.out; omega⟩, ⟨bl_⟩⟩
     ·rw [if_neg c4] at H
      exact absurd H (by simp)
    ·rw [if_neg c3] at H
     exact absurd H (by simp)
   ·rw [if_neg c2] at H
    have c2b0 : decide (x8_1 < (l0.length : Int)) = false := decide_eq_false c2
    clear c2; obtain rfl := Option.some.inj H
    go_wp2
    go_ret
    exact ⟨by first | rfl | (simp [errW_none, errW_some] <;> rfl) | (simp [*, errW_none, errW_some] <;> rfl), bl_⟩
def bytes_Equal.f (l0 : List Int) (l1 : List Int) : Option (Bool) := some ((strOfNums l0).toList == (strOfNums l1).toList)
def chain_Same.l0 : Nat → List (S28) → List (S28) → Int → Int → Option (Bool)
 | 0, _, _, _, _ => none
 | k + 1, x0, x1, x12, x13 => if x13 < x12 then (if 0 ≤ x13 then (if x13 < (x0.length : Int) then (if x13 < (x1.length : Int) then (if ((rd_T28 x0 x13).f0) = ((rd_T28 x1 x13).f0) then (if (((rd_T28 x0 x13).f1) != ((rd_T28 x1 x13).f1)) = true then (some false) else ((bytes_Equal.f ((rd_T28 x0 x13).f2) ((rd_T28 x1 x13).f2)).bind fun t379 => (if t379 = true then (chain_Same.l0 k x0 x1 x12 (wrap64 (x13 + 1))) else (some false)))) else (some false)) else (none)) else (none)) else (none)) else (some true)
def chain_Same.f (k : Nat) (l0 : List (S28)) (l1 : List (S28)) : Option (Bool) := if (l0.length : Int) = (l1.length : Int) then (chain_Same.l0 k l0 l1 (l0.length : Int) 0) else (some false)
theorem chain_Same.mono_l : ∀ k, (∀ y0 y1 y2 y3, LeO (chain_Same.l0 k y0 y1 y2 y3) (chain_Same.l0 (k + 1) y0 y1 y2 y3))
 | 0 => fun _ _ _ _ r h => by simp [chain_Same.l0] at h
 | k + 1 => by
  have ih0 := chain_Same.mono_l k
  ·intro y0 y1 y2 y3
   unfold chain_Same.l0
   repeat' first
   | (with_reducible exact ih0 _ _ _ _)
   | (with_reducible exact LeO.refl _)
   | (with_reducible exact LeO.none _)
   | (with_reducible refine LeO.ite ?_ ?_)
   | (with_reducible refine LeO.bind ?_ (fun _ => ?_))
   | exact ih0 _ _ _ _
   | exact LeO.none _
   | refine LeO.ite ?_ ?_
   | refine LeO.bind ?_ (fun _ => ?_)
theorem chain_Same.mono : ∀ a0 a1 k, LeO (chain_Same.f k a0 a1) (chain_Same.f (k + 1) a0 a1) := by
 intro a0 a1 k
 have ih0 := chain_Same.mono_l k
 unfold chain_Same.f
 repeat' first
   | (with_reducible exact ih0 _ _ _ _)
   | (with_reducible exact LeO.refl _)
   | (with_reducible exact LeO.none _)
   | (with_reducible refine LeO.ite ?_ ?_)
   | (with_reducible refine LeO.bind ?_ (fun _ => ?_))
   | exact ih0 _ _ _ _
   | exact LeO.none _
   | refine LeO.ite ?_ ?_
   | refine LeO.bind ?_ (fun _ => ?_)
def conductorlaw07_ChainRights.j0 : Nat → List (S28) → List (S28) → Bool → Option (Bool)
 | 0, _, _, _ => none
 | k + 1, x0, x1, x16 => if x16 = true then ((conductorlaw07_live.f k).bind fun t383 => (some t383)) else ((chain_Right.f k x0).bind fun t384 => ((conductorref07_Right.f k x0).bind fun t385 => (if (t384 == t385) = true then ((chain_Size.f k x0).bind fun t386 => ((conductorref07_Size.f k x0).bind fun t387 => (if t386 = t387 then ((chain_Same.f k x0 x1).bind fun t388 => ((conductorref07_Same.f k x0 x1).bind fun t389 => (some (t388 == t389)))) else (some false)))) else (some false))))
def conductorlaw07_ChainRights.f (k : Nat) (l0 : List (S28)) (l1 : List (S28)) : Option (Bool) := (conductorlaw07_live.f k).bind fun t380 => (if t380 = true then ((conductorlaw07_few.f k l0).bind fun t381 => (if t381 = true then ((conductorlaw07_few.f k l1).bind fun t382 => (conductorlaw07_ChainRights.j0 k l0 l1 (!t382))) else (conductorlaw07_ChainRights.j0 k l0 l1 true))) else (conductorlaw07_ChainRights.j0 k l0 l1 true))
theorem conductorlaw07_ChainRights.mono_l : ∀ k, (∀ y0 y1 y2, LeO (conductorlaw07_ChainRights.j0 k y0 y1 y2) (conductorlaw07_ChainRights.j0 (k + 1) y0 y1 y2))
 | 0 => fun _ _ _ r h => by simp [conductorlaw07_ChainRights.j0] at h
 | k + 1 => by
  have ih0 := conductorlaw07_ChainRights.mono_l k
  ·intro y0 y1 y2
   unfold conductorlaw07_ChainRights.j0
   repeat' first
   | (with_reducible exact ih0 _ _ _)
   | (with_reducible exact chain_Right.mono _ _)
   | (with_reducible exact chain_Same.mono _ _ _)
   | (with_reducible exact chain_Size.mono _ _)
   | (with_reducible exact conductorlaw07_few.mono _ _)
   | (with_reducible exact conductorlaw07_live.mono _)
   | (with_reducible exact conductorref07_Right.mono _ _)
   | (with_reducible exact conductorref07_Same.mono _ _ _)
   | (with_reducible exact conductorref07_Size.mono _ _)
   | (with_reducible exact LeO.refl _)
   | (with_reducible exact LeO.none _)
   | (with_reducible refine LeO.ite ?_ ?_)
   | (with_reducible refine LeO.bind ?_ (fun _ => ?_))
   | exact ih0 _ _ _
   | exact chain_Right.mono _ _
   | exact chain_Same.mono _ _ _
   | exact chain_Size.mono _ _
   | exact conductorlaw07_few.mono _ _
   | exact conductorlaw07_live.mono _
   | exact conductorref07_Right.mono _ _
   | exact conductorref07_Same.mono _ _ _
   | exact conductorref07_Size.mono _ _
   | exact LeO.none _
   | refine LeO.ite ?_ ?_
   | refine LeO.bind ?_ (fun _ => ?_)
theorem conductorlaw07_ChainRights.mono : ∀ a0 a1 k, LeO (conductorlaw07_ChainRights.f k a0 a1) (conductorlaw07_ChainRights.f (k + 1) a0 a1) := by
 intro a0 a1 k
 have ih0 := conductorlaw07_ChainRights.mono_l k
 unfold conductorlaw07_ChainRights.f
 repeat' first
   | (with_reducible exact ih0 _ _ _)
   | (with_reducible exact chain_Right.mono _ _)
   | (with_reducible exact chain_Same.mono _ _ _)
   | (with_reducible exact chain_Size.mono _ _)
   | (with_reducible exact conductorlaw07_few.mono _ _)
   | (with_reducible exact conductorlaw07_live.mono _)
   | (with_reducible exact conductorref07_Right.mono _ _)
   | (with_reducible exact conductorref07_Same.mono _ _ _)
   | (with_reducible exact conductorref07_Size.mono _ _)
   | (with_reducible exact LeO.refl _)
   | (with_reducible exact LeO.none _)
   | (with_reducible refine LeO.ite ?_ ?_)
   | (with_reducible refine LeO.bind ?_ (fun _ => ?_))
   | exact ih0 _ _ _
   | exact chain_Right.mono _ _
   | exact chain_Same.mono _ _ _
   | exact chain_Size.mono _ _
   | exact conductorlaw07_few.mono _ _
   | exact conductorlaw07_live.mono _
   | exact conductorref07_Right.mono _ _
   | exact conductorref07_Same.mono _ _ _
   | exact conductorref07_Size.mono _ _
   | exact LeO.none _
   | refine LeO.ite ?_ ?_
   | refine LeO.bind ?_ (fun _ => ?_)
end Go.Proofs.Yteofdgonpbmdlaa.C
namespace Go.Proofs.Yteofdgonpbmdlaa.C
open Go.RowKit Go.Maps Go.Proofs.YteofdgonpbmdlaaW.PrintWords Go.Proofs.YteofdgonpbmdlaaW.PrintLast Go.Proofs.YteofdgonpbmdlaaW.PrintMore
attribute [local go_sem] max2_int min2_int max_two min_two max_three min_three max_four min_four
/-- A chain, as it lies beside a store's own blocks. -/
def ChF (W : World) (B : Nat → Prop) (p mb : Nat) (kv : Value) (A : Option Addr) (l : List S28) : Prop := Kd.F k28 W (fun q => B q ∧ q ≠ p ∧ q ≠ mb ∧ some q ≠ kv.ownBlock) A l.length l
set_option maxHeartbeats 1000000 in
theorem store_chain.calls {W : World} {base p : Nat} {B : Nat → Prop} {s : SS} {kv : Value} {mb n : Nat} {D : DataW Value} (h : Aside0 (StoreAt W base B p s kv mb n D)) (key : ByteArray) (hk : Aside0 (key.size ≤ maxLen)) :
    Calls Try.prog 72 #[.pointer (some ⟨p, 0, none⟩), .string key] W fun e w' => (∃ A c, e = .returned (.slice A (s.ch key).length c) ∧ (s.ch key).length ≤ c ∧ ChF W B p mb kv A (s.ch key)) ∧ w' = W := by
  have h9 : W.cell? ⟨p, 9, none⟩ = some (.map (some mb)) := (blk_cell h.out.cells 9).trans rfl
  obtain ⟨A, c, hrun, hl, hF⟩ := h.out.look key hk.out
  have HL := Aside0.mk hl
  have HF := Aside0.mk hF
  clear hl hF
  go_enter Try.func72, Try.ntmps72
  go_wp2_with (go_at_call 70; refine (store_is.calls h).mono ?_; rintro e w1 ⟨rfl, rfl⟩)
  go_ret
  exact ⟨⟨A, c, rfl, HL.out, HF.out⟩, rfl⟩
set_option maxHeartbeats 1000000 in
theorem store_Now.calls {W : World} {base p : Nat} {B : Nat → Prop} {s : SS} {kv : Value} {mb n : Nat} {D : DataW Value} (h : Aside0 (StoreAt W base B p s kv mb n D)) :
    Calls Try.prog 44 #[.pointer (some ⟨p, 0, none⟩)] W fun e w' => e = .returned (.int .u64 s.now) ∧ w' = W := by
  have h7 : W.cell? ⟨p, 7, none⟩ = some (.int .u64 s.now) := (blk_cell h.out.cells 7).trans rfl
  go_enter Try.func44, Try.ntmps44
  go_wp2_with (go_at_call 70; refine (store_is.calls h).mono ?_; rintro e w1 ⟨rfl, rfl⟩)
  go_ret
  exact ⟨rfl, rfl⟩
theorem ChF.C {W : World} {B : Nat → Prop} {p mb : Nat} {kv : Value} {A : Option Addr} {l : List S28} (h : ChF W B p mb kv A l) : Kd.C k28 W A l.length l := Kd.F_now h
set_option maxHeartbeats 1000000 in
theorem store_Read.calls {W : World} {base p : Nat} {B : Nat → Prop} {s : SS} {kv : Value} {mb n : Nat} {D : DataW Value} (h : Aside0 (StoreAt W base B p s kv mb n D)) (key : ByteArray) (hk : Aside0 (key.size ≤ maxLen)) (at_ : Int) (r1 : List Int) (r2 : Bool) (hg : Aside0 (chain_Get.f (s.ch key) at_ = some (r1, r2))) :
    Calls Try.prog 43 #[.pointer (some ⟨p, 0, none⟩), .string key, .int .u64 at_] W fun e w' => ∃ v0_ : Value, e = .returned (.tuple #[v0_, .bool r2]) ∧ Kd.R (Kd.int .u8) 5 w' W.heap.size (fun _ => True) v0_ r1 ∧ Below W.heap.size W w' := by
  go_enter Try.func43, Try.ntmps43
  go_wp2_with (first
    | (go_at_call 72; refine (store_chain.calls h key hk).mono ?_; rintro e w1 ⟨⟨A, c, rfl, hl, hF⟩, rfl⟩; have HL := Aside0.mk hl; have HF := Aside0.mk hF; clear hl hF)
    | (go_at_call 22; (with_reducible refine (chain_Get.calls _ _ (s.ch key) at_ r1 r2 _ ?s1 ?s2 hg.out).mono ?_); (case s1 => exact HF.out.C); (case s2 => exact HL.out); rintro e w2 ⟨v, rfl, ho, hb⟩; have HO := Aside0.mk ho; have HB := Aside0.mk hb; clear ho hb))
  go_ret2
  exact ⟨_, rfl, HO.out, HB.out⟩
set_option maxHeartbeats 1000000 in
theorem store_Latest.calls {W : World} {base p : Nat} {B : Nat → Prop} {s : SS} {kv : Value} {mb n : Nat} {D : DataW Value} (h : Aside0 (StoreAt W base B p s kv mb n D)) (key : ByteArray) (hk : Aside0 (key.size ≤ maxLen)) (r : Int) (hg : Aside0 (chain_Last.f (s.ch key) = some r)) :
    Calls Try.prog 62 #[.pointer (some ⟨p, 0, none⟩), .string key] W fun e w' => e = .returned (.int .u64 r) ∧ Below W.heap.size W w' := by
  go_enter Try.func62, Try.ntmps62
  go_wp2_with (first
    | (go_at_call 72; refine (store_chain.calls h key hk).mono ?_; rintro e w1 ⟨⟨A, c, rfl, hl, hF⟩, rfl⟩; have HL := Aside0.mk hl; have HF := Aside0.mk hF; clear hl hF)
    | (go_at_call 26; (with_reducible refine (chain_Last.calls _ _ (s.ch key) r _ ?s1 ?s2 hg.out).mono ?_); (case s1 => exact HF.out.C); (case s2 => exact HL.out); rintro e w2 ⟨rfl, hd⟩; have HB := Aside0.mk hd.below; clear hd))
  go_ret
  exact ⟨rfl, HB.out⟩
theorem store_cells {W : World} {base p : Nat} {B : Nat → Prop} {s : SS} {kv : Value} {mb n : Nat} {D : DataW Value} (h : StoreAt W base B p s kv mb n D) :
    W.cell? ⟨p, 10, none⟩ = some (.int .i64 s.n0) ∧ W.cell? ⟨p, 11, none⟩ = some (.int .i64 s.n1) ∧ W.cell? ⟨p, 12, none⟩ = some (.int .i64 s.n2) :=
  ⟨(blk_cell h.cells 10).trans rfl, (blk_cell h.cells 11).trans rfl, (blk_cell h.cells 12).trans rfl⟩
set_option maxHeartbeats 1000000 in
theorem store_Count.calls {W : World} {base p : Nat} {B : Nat → Prop} {s : SS} {kv : Value} {mb n : Nat} {D : DataW Value} (h : Aside0 (StoreAt W base B p s kv mb n D)) :
    Calls Try.prog 48 #[.pointer (some ⟨p, 0, none⟩)] W fun e w' => e = .returned (.agg #[.int .i64 s.n0, .int .i64 s.n1, .int .i64 s.n2]) ∧ Below W.heap.size W w' := by
  have HB := Aside0.mk (Below.refl W.heap.size W)
  go_enter Try.func48, Try.ntmps48
  go_wp2_with (first
    | ((with_reducible refine gate_dst (N := 2) rfl ?_); refine box_event ?hg (N := 2) ?hd (cs := #[.int .i64 0, .int .i64 0, .int .i64 0]) (t := 72) ?hr ?_; (case hd => rfl); (case hg => rfl); (case hr => first | (go_simp; done) | (go_simp; rfl)); intro g hg w1 hbox hb; have HS := Aside0.mk (h.out.below hb); have GE := Aside0.mk (show W.heap.size ≤ g by rw [hg]; exact Nat.le_refl _); clear HB; have HB := Aside0.mk hb; have BK := Aside0.mk hbox; obtain ⟨h0, h1, h2⟩ := store_cells HS.out; have c0 := (blk_cell hbox 0).trans (show _ = some (Value.int .i64 0) from rfl); have c1 := (blk_cell hbox 1).trans (show _ = some (Value.int .i64 0) from rfl); have c2 := (blk_cell hbox 2).trans (show _ = some (Value.int .i64 0) from rfl); have f0 := blk_frozen hbox 0; have f1 := blk_frozen hbox 1; have f2 := blk_frozen hbox 2; clear hbox hb hg)
    | (go_at_call 70; refine (store_is.calls HS).mono ?_; rintro e w2 ⟨rfl, rfl⟩))
  exact bodyPost_ret (v := .agg #[.int .i64 s.n0, .int .i64 s.n1, .int .i64 s.n2]) (by simp [results, Try.results48, go_sem, c0, c1, c2]) rfl ⟨rfl, below_set (below_set (below_set HB.out GE.out) GE.out) GE.out⟩
end Go.Proofs.Yteofdgonpbmdlaa.C
namespace Go.Proofs.Yteofdgonpbmdlaa.C
open Go.RowKit Go.Maps Go.Proofs.YteofdgonpbmdlaaW.PrintWords Go.Proofs.YteofdgonpbmdlaaW.PrintLast Go.Proofs.YteofdgonpbmdlaaW.PrintMore
attribute [local go_sem] max2_int min2_int max_two min_two max_three min_three max_four min_four str_leq str_gtr str_geq
def ks (l : List ByteArray) (i : Int) : ByteArray := rdOf ByteArray.empty l i
set_option maxHeartbeats 1000000 in
/-- The closure: is the key at i not ahead of x? -/
theorem search1_calls (A : Option Addr) (c : Nat) (l : List ByteArray) (x : ByteArray) (i : Int) (h0 : 0 ≤ i) (h1 : i < l.length) (q1 q2 : Nat) (w : World) (hr : Aside0 (Kd.string.C w A l.length l)) (hq1 : w.cell? ⟨q1, 0, none⟩ = some (.slice A l.length c)) (hq2 : w.cell? ⟨q2, 0, none⟩ = some (.string x)) :
    Calls Try.prog 88 #[.int .i64 i, .pointer (some ⟨q1, 0, none⟩), .pointer (some ⟨q2, 0, none⟩)] w fun e w' => e = .returned (.bool (!(Op.bytesLess (ks l i).toList x.toList))) ∧ Below w.heap.size w w' := by
  obtain ⟨ad, e, hx⟩ := Kd.at_string hr.out i h0 h1
  subst e
  have hx' : w.cell? (ad.add i.toNat) = some (.string (ks l i)) := hx
  clear hx
  have h0' := eq_true h0
  have h1' := eq_true h1
  go_enter Try.func88, Try.ntmps88
  go_wp2
  go_quiet (fail)
  go_wp2
  go_ret
  exact ⟨rfl, pw_below_drewN (Below.refl _ _) _⟩
def srch (l : List ByteArray) (x : ByteArray) : Nat → Nat → Nat → Nat
  | 0, i, _ => i
  | k + 1, i, j => if i < j then (if Op.bytesLess (ks l ((i + j) / 2 : Nat)).toList x.toList = true then srch l x k ((i + j) / 2 + 1) j else srch l x k i ((i + j) / 2)) else i
def srchF (l : List ByteArray) (x : ByteArray) : Nat := srch l x l.length 0 l.length
set_option maxHeartbeats 2000000 in
theorem search_calls (A : Option Addr) (c : Nat) (l : List ByteArray) (x : ByteArray) (q1 q2 : Nat) (w : World) (hr : Kd.string.C w A l.length l) (hq1 : w.cell? ⟨q1, 0, none⟩ = some (.slice A l.length c)) (hq2 : w.cell? ⟨q2, 0, none⟩ = some (.string x)) (hl : l.length ≤ 281474976710656) :
    Calls Try.prog 87 #[.int .i64 l.length, .func (.func 88) #[] #[.pointer (some ⟨q1, 0, none⟩), .pointer (some ⟨q2, 0, none⟩)]] w fun e w' => e = .returned (.int .i64 (srchF l x : Nat)) ∧ Below w.heap.size w w' := by
  have HR := Aside0.mk hr
  have HQ1 := Aside0.mk hq1
  have HQ2 := Aside0.mk hq2
  have HL := Aside0.mk hl
  clear hr hq1 hq2 hl
  go_enter Try.func87, Try.ntmps87
  go_wp2
  go_loopw [5, 6] (fun lo hi wr => ∃ (k i j : Nat), lo = .int .i64 i ∧ hi = .int .i64 j ∧ i ≤ j ∧ j ≤ l.length ∧ j - i ≤ k ∧ Aside0 (srch l x k i j = srchF l x) ∧ Aside0 (Below w.heap.size w wr)) (fun lo hi _ => (intOf hi - intOf lo).toNat)
  case atStart => exact ⟨l.length, 0, l.length, rfl, rfl, Nat.zero_le _, Nat.le_refl _, by omega, ⟨rfl⟩, ⟨Below.refl _ _⟩⟩
  case round =>
    obtain ⟨k, i, j, rfl, rfl, hij, hj, hk, HU, HB⟩ := hrel
    have HQ1' : Aside0 (wr.cell? ⟨q1, 0, none⟩ = some (.slice A l.length c)) := ⟨pw_cell_below HB.out HQ1.out⟩
    have HQ2' : Aside0 (wr.cell? ⟨q2, 0, none⟩ = some (.string x)) := ⟨pw_cell_below HB.out HQ2.out⟩
    have HR' := Aside0.mk (Kd.C_below HR.out HB.out)
    have hl := HL.out
    by_cases hlt : i < j
    · obtain ⟨k, rfl⟩ : ∃ k', k = k' + 1 := ⟨k - 1, by omega⟩
      obtain ⟨m, hm, hm1, hm2⟩ : ∃ m : Nat, (i + j) / 2 = m ∧ i ≤ m ∧ m < j := ⟨(i + j) / 2, rfl, by omega, by omega⟩
      have HU' := HU.out
      simp only [srch, if_pos hlt, hm] at HU'
      have hmi : ((i : Int) + (j : Int)) / 2 = (m : Int) := by omega
      have hm3 : m < l.length := by omega
      clear HU
      cases ht : Op.bytesLess (ks l (m : Nat)).toList x.toList with
      | true =>
        rw [ht, if_pos rfl] at HU'
        have HU := Aside0.mk HU'
        clear HU'
        go_wp2_with (go_at_call 88; refine (search1_calls A c l x _ (by omega) (by omega) q1 q2 _ HR' HQ1'.out HQ2'.out).mono ?_; rintro e w1 ⟨rfl, hb1⟩)
        go_roundw
        case measure => simp [intOf]; omega
        case rel => exact ⟨k, m + 1, j, by go_num, rfl, by omega, hj, by omega, HU, ⟨HB.out.trans (hb1.mono HB.out.size)⟩⟩
      | false =>
        rw [ht, if_neg (by decide)] at HU'
        have HU := Aside0.mk HU'
        clear HU'
        go_wp2_with (go_at_call 88; refine (search1_calls A c l x _ (by omega) (by omega) q1 q2 _ HR' HQ1'.out HQ2'.out).mono ?_; rintro e w1 ⟨rfl, hb1⟩)
        go_roundw
        case measure => simp [intOf]; omega
        case rel => exact ⟨k, i, m, rfl, rfl, hm1, by omega, by omega, HU, ⟨HB.out.trans (hb1.mono HB.out.size)⟩⟩
    · have hd : ∀ k, srch l x k i j = i := by
        intro k
        cases k with
        | zero => rfl
        | succ k => simp only [srch]; rw [if_neg hlt]
      have HU2 := Aside0.mk ((hd k).symm.trans HU.out)
      clear HU hd
      go_wp2
      go_ret
      exact ⟨congrArg (fun z : Nat => Ending.returned (.int .i64 z)) HU2.out, HB.out⟩
set_option maxHeartbeats 2000000 in
theorem searchStrings_calls (A : Option Addr) (c : Nat) (l : List ByteArray) (x : ByteArray) (w : World) (hr : Kd.string.C w A l.length l) (hl : l.length ≤ 281474976710656) :
    Calls Try.prog 71 #[.slice A l.length c, .string x] w fun e w' => e = .returned (.int .i64 (srchF l x : Nat)) ∧ Below w.heap.size w w' := by
  have HR := Aside0.mk hr
  have HL := Aside0.mk hl
  have HB := Aside0.mk (Below.refl w.heap.size w)
  clear hr hl
  go_enter Try.func71, Try.ntmps71
  go_wp2_with (first
    | ((with_reducible refine gate_dst (N := 2) rfl ?_); refine box_event ?hg (N := 2) ?hd (cs := #[.slice A l.length c]) (t := 75) ?hr ?_; (case hd => rfl); (case hg => rfl); (case hr => first | (go_simp; done) | (go_simp; rfl)); intro q1 hg w1 hbox hb; have h1_ := Aside0.mk (Kd.C_below HR.out hb); clear HR HB; have HR := h1_; have HB := Aside0.mk hb; have BK1 := Aside0.mk hbox; clear h1_ hbox hb hg)
    | ((with_reducible refine gate_dst (N := 3) rfl ?_); refine box_event ?hg (N := 3) ?hd (cs := #[.string x]) (t := 9) ?hr ?_; (case hd => rfl); (case hg => rfl); (case hr => first | (go_simp; done) | (go_simp; rfl)); intro q2 hg w2 hbox hb; have h1_ := Aside0.mk (Kd.C_below HR.out hb); have h2_ := Aside0.mk (below_step HB.out hb); have h3_ := Aside0.mk (blk_below BK1.out hb); clear HR HB BK1; have HR := h1_; have HB := h2_; have BK1 := h3_; have BK2 := Aside0.mk hbox; clear h1_ h2_ h3_ hbox hb hg; have hq1 := (blk_cell BK1.out 0).trans (show _ = some (Value.slice A l.length c) from rfl); have hq2 := (blk_cell BK2.out 0).trans (show _ = some (Value.string x) from rfl))
    | (go_at_call 87; refine (search_calls A c l x q1 q2 _ HR.out hq1 hq2 HL.out).mono ?_; rintro e w3 ⟨rfl, hb⟩; have h1_ := Aside0.mk (below_step HB.out hb); clear HB hb; have HB := h1_; clear h1_))
  go_ret
  exact ⟨rfl, HB.out⟩
end Go.Proofs.Yteofdgonpbmdlaa.C
