/- Texts of this session, merged for the law SsiJoins: S21, S22, S23. No condition. -/
import Derived.Test.YtjefihcbhdennaaZSsiJoinsd
import Derived.Test.YtjefihcbhdennaaZSsiJoinsp
import Derived.Test.YtjefihcbhdennaaZSsiJoinsv
namespace Go.Proofs.Ytjefihcbhdennaa.S
open Go.RowKit Go.Proofs.YtjefihcbhdennaaW.PrintWords Go.Proofs.YtjefihcbhdennaaW.PrintLast Go.Proofs.YtjefihcbhdennaaW.PrintMore
attribute [local go_sem] max2_int min2_int max2_str min2_str str_leq str_gtr str_geq max_two min_two max_three min_three max_four min_four
set_option linter.unusedVariables false
set_option linter.unusedSimpArgs false
mutual
def conductorref09_put.l0 : Nat → List (S41) → List (S41) → List (S41) → Int → Int → ByteArray → ByteArray → Option ((List (S41)))
 | 0, _, _, _, _, _, _, _ => none
 | k + 1, x0, x5, x13, x14, x15, x202000, x202001 => if x15 < x14 then (if 0 ≤ x15 then (if x15 < (x13.length : Int) then ((conductorref09_touches.f ((rd_T41 x13 x15).f0) ((rd_T41 x13 x15).f1) x202000 x202001).bind fun t207 => (if t207 = true then ((conductorref09_cover.f ((rd_T41 x13 x15).f0) ((rd_T41 x13 x15).f1) x202000 x202001).bind fun bt208 => (conductorref09_put.l0 k x0 x5 x13 x14 (wrap64 (x15 + 1)) bt208.1 bt208.2)) else (conductorref09_put.l0 k x0 x5 x13 x14 (wrap64 (x15 + 1)) x202000 x202001))) else (none)) else (none)) else (conductorref09_put.l1 k x0 x5 x0 (x0.length : Int) 0 x202000 x202001)
def conductorref09_put.l1 : Nat → List (S41) → List (S41) → List (S41) → Int → Int → ByteArray → ByteArray → Option ((List (S41)))
 | 0, _, _, _, _, _, _, _ => none
 | k + 1, x0, x5, x26, x27, x28, x202000, x202001 => if x28 < x27 then (if 0 ≤ x28 then (if x28 < (x26.length : Int) then ((conductorref09_touches.f ((rd_T41 x26 x28).f0) ((rd_T41 x26 x28).f1) x202000 x202001).bind fun t212 => (if t212 = true then (conductorref09_put.l1 k x0 x5 x26 x27 (wrap64 (x28 + 1)) x202000 x202001) else (if (Op.bytesLess (((rd_T41 x26 x28).f0).toList) x202000.toList) = true then (if x5.length < 4398046511104 then (conductorref09_put.l1 k x0 (x5 ++ [(⟨(rd_T41 x26 x28).f0, (rd_T41 x26 x28).f1⟩ : S41)]) x26 x27 (wrap64 (x28 + 1)) x202000 x202001) else (none)) else (conductorref09_put.l1 k x0 x5 x26 x27 (wrap64 (x28 + 1)) x202000 x202001)))) else (none)) else (none)) else (if x5.length < 4398046511104 then (conductorref09_put.l2 k (x5 ++ [(⟨x202000, x202001⟩ : S41)]) x0 (x0.length : Int) 0 x202000 x202001) else (none))
def conductorref09_put.l2 : Nat → List (S41) → List (S41) → Int → Int → ByteArray → ByteArray → Option ((List (S41)))
 | 0, _, _, _, _, _, _ => none
 | k + 1, x5, x52, x53, x54, x202000, x202001 => if x54 < x53 then (if 0 ≤ x54 then (if x54 < (x52.length : Int) then ((conductorref09_touches.f ((rd_T41 x52 x54).f0) ((rd_T41 x52 x54).f1) x202000 x202001).bind fun t221 => (if t221 = true then (conductorref09_put.l2 k x5 x52 x53 (wrap64 (x54 + 1)) x202000 x202001) else (if (Op.bytesLess x202000.toList (((rd_T41 x52 x54).f0).toList)) = true then (if x5.length < 4398046511104 then (conductorref09_put.l2 k (x5 ++ [(⟨(rd_T41 x52 x54).f0, (rd_T41 x52 x54).f1⟩ : S41)]) x52 x53 (wrap64 (x54 + 1)) x202000 x202001) else (none)) else (conductorref09_put.l2 k x5 x52 x53 (wrap64 (x54 + 1)) x202000 x202001)))) else (none)) else (none)) else (some x5)
end
def conductorref09_put.f (k : Nat) (l0 : List (S41)) (a1_0 : ByteArray) (a1_1 : ByteArray) : Option ((List (S41))) := conductorref09_put.l0 k l0 (([] : List (S41))) l0 (l0.length : Int) 0 a1_0 a1_1
set_option maxHeartbeats 8000000 in
set_option maxRecDepth 100000 in
theorem conductorref09_put.calls (k : Nat) (A0 : Option Addr) (c0 : Nat) (l0 : List (S41)) (a1_0 : ByteArray) (a1_1 : ByteArray) (r : List (S41)) (w : World) (hr0 : Kd.C k41 w A0 l0.length l0) (hc0 : l0.length ≤ c0) (h : conductorref09_put.f k l0 a1_0 a1_1 = some r) :
  Calls Try.prog 69 #[.slice A0 l0.length c0, .agg #[.string a1_0, .string a1_1]] w fun e w' => ∃ v0_ : Value, e = .returned (v0_) ∧ Kd.R k41 41 w' w.heap.size (fun _ => True) v0_ r ∧ Below w.heap.size w w' := by
 have hu41 := Try.underlying41
 have HR0 := Aside0.mk hr0; have HC0 := Aside0.mk hc0; clear hr0 hc0
 have HB := Aside0.mk (Below.refl w.heap.size w)
 have H : (conductorref09_put.l0 k l0 (([] : List (S41))) l0 (l0.length : Int) 0 a1_0 a1_1) = some r := h
 clear h
 obtain ⟨y202, hy202⟩ : ∃ y_ : List (S41), y_ = (([] : List (S41))) := ⟨_, rfl⟩
 replace H : (conductorref09_put.l0 k l0 y202 l0 (l0.length : Int) 0 a1_0 a1_1) = some r := by first | (rw [hy202]; with_reducible exact H) | (have H2_ := (Option.bind_some _ _).symm.trans H; rw [hy202]; with_reducible exact H2_) | (have H2_ := (Option.bind_some _ _).symm.trans H; with_reducible exact H2_) | with_reducible exact H | (rw [hy202]; exact H) | exact H
 have Ny202 := Aside0.mk hy202; clear hy202; have H' := Aside0.mk H; clear H
 go_enter Try.func69, Try.ntmps69
 go_wp2_with (first | ((with_reducible refine gate_dst (N := 3) rfl ?_); refine box_event ?hg (N := 3) ?hd (cs := #[.string a1_0, .string a1_1]) (t := 41) ?hr ?_; (case hd => rfl); (case hg => rfl); (case hr => first | (go_simp; done) | (go_simp; rfl)); intro gb201 hg w3 hbox hb; have n0_ := Aside0.mk (below_step bl_ hb); have n1_ := Aside0.mk (hbox); have n2_ := Aside0.mk (bsz_ hg : w.heap.size ≤ gb201); have n3_ := Aside0.mk (bsz_ hg : w.heap.size ≤ gb201); clear HB; have HB := n0_; have BK201 := n1_; have GW201 := n2_; have GE201 := n3_; clear n0_ n1_ n2_ n3_; clear hb hbox hg) | ((with_reducible refine gate_dst (N := 12) rfl ?_); refine Kd.R_lit k41 _ 41 ?hg (N := 12) ?hd (xs := ([] : List (S41))) (inner := []) (ok := fun _ => True) (okp := fun _ => True) ?hr ?hp (fun _ hk => hk) trivial (Below.refl _ _) (Nat.le_refl _) (by simp) ?_; (case hd => rfl); (case hg => rfl); (case hr => first | (go_simp; done) | (go_simp; rfl)); (case hp => exact (Reps.none _ _)); intro v203 w4 ho5 hb hg_ hnew_; clear hg_ hnew_; (first | rw [← Ny202.out] at ho5 | (simp only [Int.reduceToNat] at ho5; rw [← Ny202.out] at ho5)); have n0_ := Aside0.mk (Kd.R_lower (Kd.R_newB ho5 (g := gb201) (o := .cells #[.string a1_0, .string a1_1] 41 (0, 0)) (by (with_reducible repeat (first | refine blk_drewN ?_ _ | refine blk_drew ?_ | refine blk_alloc ?_ _)); exact BK201.out)) (below_size bl_)); have n1_ := Aside0.mk (blk_below (g := gb201) (o := .cells #[.string a1_0, .string a1_1] 41 (0, 0)) (by (with_reducible repeat (first | refine blk_drewN ?_ _ | refine blk_drew ?_ | refine blk_alloc ?_ _)); exact BK201.out) hb); have n2_ := Aside0.mk (below_step bl_ hb); clear BK201; clear HB; have HO204 := n0_; have BK201 := n1_; have HB := n2_; clear n0_ n1_ n2_; clear hb ho5))
 go_loopg [15] k (fun kq v15 w' => ∃ (x15_1 : Int) (x202000_1 : ByteArray) (x202001_1 : ByteArray), v15 = .int .i64 x15_1 ∧ Aside0 (conductorref09_put.l0 kq l0 y202 l0 (l0.length : Int) x15_1 x202000_1 x202001_1 = some r) ∧ Aside0 (kq ≤ k) ∧ Aside0 (Kd.R k41 41 w' w.heap.size (fun k_ => k_ ≠ gb201) v203 y202) ∧ Aside0 (w'.heap[gb201]? = some (.cells #[.string x202000_1, .string x202001_1] 41 (0, 0))) ∧ Aside0 (Below w.heap.size w w'))
 case atStart => exact ⟨(0), (a1_0), (a1_1), (by first | rfl | (simp; done) | (simp [*]; done)), H', ⟨Nat.le_refl _⟩, ⟨by exact Kd.R_mono HO204.out (fun _ hk => hk.2)⟩, ⟨by (with_reducible repeat (first | refine blk_drewN ?_ _ | refine blk_drew ?_ | refine blk_alloc ?_ _)); exact BK201.out⟩, ⟨bl_⟩⟩
 case round =>
  clear H'; obtain ⟨x15_1, x202000_1, x202001_1, rfl, HA, HK1, HO_5, BK201, HB⟩ := hrel
  cases gk with
  | zero => exact absurd HA.out (by simp [conductorref09_put.l0])
  | succ k1 =>
   have H := HA.out
   clear HA
   simp only [conductorref09_put.l0] at H
   by_cases c6 : x15_1 < (l0.length : Int)
   ·rw [if_pos c6] at H
    have c6b0 : decide (x15_1 < (l0.length : Int)) = true := decide_eq_true c6
    clear c6
    by_cases c7 : 0 ≤ x15_1
    ·rw [if_pos c7] at H
     have c7b0 : decide (0 ≤ x15_1) = true := decide_eq_true c7
     clear c7
     by_cases c8 : x15_1 < (l0.length : Int)
     ·rw [if_pos c8] at H
      have c8b0 : decide (x15_1 < (l0.length : Int)) = true := decide_eq_true c8
      clear c8; replace H := Option.bind_eq_some_iff.mp H; obtain ⟨t207, A90, H⟩ := H
      replace H : (if t207 = true then ((conductorref09_cover.f ((rd_T41 l0 x15_1).f0) ((rd_T41 l0 x15_1).f1) x202000_1 x202001_1).bind fun bt208 => (conductorref09_put.l0 k1 l0 y202 l0 (l0.length : Int) (wrap64 (x15_1 + 1)) bt208.1 bt208.2)) else (conductorref09_put.l0 k1 l0 y202 l0 (l0.length : Int) (wrap64 (x15_1 + 1)) x202000_1 x202001_1)) = some r := H
      have A9 := Aside0.mk A90; clear A90
      by_cases c10 : t207 = true
      ·subst c10
       have H1 : ((conductorref09_cover.f ((rd_T41 l0 x15_1).f0) ((rd_T41 l0 x15_1).f1) x202000_1 x202001_1).bind fun bt208 => (conductorref09_put.l0 k1 l0 y202 l0 (l0.length : Int) (wrap64 (x15_1 + 1)) bt208.1 bt208.2)) = some r := by rw [if_pos rfl] at H; exact H
       clear H; have H := H1; clear H1; replace H := Option.bind_eq_some_iff.mp H; obtain ⟨⟨t208, t209⟩, A110, H⟩ := H
       replace H : (conductorref09_put.l0 k1 l0 y202 l0 (l0.length : Int) (wrap64 (x15_1 + 1)) t208 t209) = some r := H
       have A11 := Aside0.mk A110; clear A110; have H' := Aside0.mk H; clear H
       have p205 : 0 ≤ (x15_1 : Int) := od_
       have q205 : x15_1 < (l0.length : Int) := od_
       obtain ⟨ad205, e205, hx205_0, hx205_1⟩ := at_T41 HR0.out x15_1 p205 q205; cases e205
       replace hx205_0 := up_ HB.out hx205_0
       replace hx205_1 := up_ HB.out hx205_1
       replace p205 := eq_true p205; replace q205 := eq_true q205
       go_wp2_with (first | ((with_reducible refine gate_dst (N := 7) rfl ?_); refine box_event ?hg (N := 7) ?hd (cs := #[.string (⟨#[]⟩ : ByteArray), .string (⟨#[]⟩ : ByteArray)]) (t := 41) ?hr ?_; (case hd => rfl); (case hg => rfl); (case hr => first | (go_simp; done) | (go_simp; rfl)); intro gb206 hg w12 hbox hb; have n0_ := Aside0.mk (Kd.R_below (Kd.R_elderB (by exact HO_5.out) gb206 (Nat.le_of_eq hg.symm)) hb); have n1_ := Aside0.mk (blk_below (g := gb201) (o := .cells #[.string x202000_1, .string x202001_1] 41 (0, 0)) (by (with_reducible repeat (first | refine blk_drewN ?_ _ | refine blk_drew ?_ | refine blk_alloc ?_ _)); exact BK201.out) hb); have n2_ := Aside0.mk (below_step bl_ hb); have n3_ := Aside0.mk (hbox); have n4_ := Aside0.mk (bsz_ hg : w.heap.size ≤ gb206); have n5_ := Aside0.mk (bsz_ hg : w.heap.size ≤ gb206); have n6_ := Aside0.mk ((by rw [hg]; exact Nat.ne_of_lt (blk_lt (g := gb201) (o := .cells #[.string x202000_1, .string x202001_1] 41 (0, 0)) (by (with_reducible repeat (first | refine blk_drewN ?_ _ | refine blk_drew ?_ | refine blk_alloc ?_ _)); exact BK201.out)) : gb201 ≠ gb206)); have n7_ := Aside0.mk ((by rw [hg]; exact Nat.ne_of_gt (blk_lt (g := gb201) (o := .cells #[.string x202000_1, .string x202001_1] 41 (0, 0)) (by (with_reducible repeat (first | refine blk_drewN ?_ _ | refine blk_drew ?_ | refine blk_alloc ?_ _)); exact BK201.out)) : gb206 ≠ gb201)); clear HO_5; clear BK201; clear HB; have HO_5 := n0_; have BK201 := n1_; have HB := n2_; have BK206 := n3_; have GW206 := n4_; have GE206 := n5_; have NB201_206 := n6_; have NB206_201 := n7_; clear n0_ n1_ n2_ n3_ n4_ n5_ n6_ n7_; clear hb hbox hg; have hnb13 := NB206_201.out; have hnc13 := NB201_206.out; obtain ⟨hcz14_0, hcz14_1, hfz14_0, hfz14_1⟩ := blk2_ BK206.out; obtain ⟨hcz15_0, hcz15_1, hfz15_0, hfz15_1⟩ := blk2_ BK201.out) | ((with_reducible refine gate_callee (f := 79) rfl ?_); refine goesL_ (some 21) rfl rfl Try.func79 (by kernel_rfl) rfl #[.agg #[.string ((rd_T41 l0 x15_1).f0), .string ((rd_T41 l0 x15_1).f1)], .agg #[.string x202000_1, .string x202001_1]] rfl sa_ ?_; (with_reducible refine (conductorref09_touches.calls ((rd_T41 l0 x15_1).f0) ((rd_T41 l0 x15_1).f1) x202000_1 x202001_1 true _ A9.out).mono ?_); rintro e w16 ⟨rfl, hb⟩; refine ⟨_, rfl, ?_⟩; have n0_ := Aside0.mk (Kd.R_below (by exact (Kd.R_mono (Kd.R_far (p := ⟨gb206, 1, none⟩) (Kd.R_far (p := ⟨gb206, 0, none⟩) (Kd.R_mono HO_5.out (fun k_ hk => (⟨hk, hk.2⟩ : _ ∧ k_ ≠ gb206))) (fun _ hk => hk.2) (.string ((rd_T41 l0 x15_1).f0))) (fun _ hk => hk.2) (.string ((rd_T41 l0 x15_1).f1))) (fun _ h_ => h_.1))) hb); have n1_ := Aside0.mk (blk_below (g := gb201) (o := .cells #[.string x202000_1, .string x202001_1] 41 (0, 0)) (by (with_reducible repeat (first | refine blk_drewN ?_ _ | refine blk_drew ?_ | refine blk_alloc ?_ _)); refine blk_far ?_ NB201_206.out _; (with_reducible repeat (first | refine blk_drewN ?_ _ | refine blk_drew ?_ | refine blk_alloc ?_ _)); refine blk_far ?_ NB201_206.out _; (with_reducible repeat (first | refine blk_drewN ?_ _ | refine blk_drew ?_ | refine blk_alloc ?_ _)); exact BK201.out) hb); have n2_ := Aside0.mk (blk_below (g := gb206) (o := .cells #[.string ((rd_T41 l0 x15_1).f0), .string ((rd_T41 l0 x15_1).f1)] 41 (0, 0)) (by (with_reducible repeat (first | refine blk_drewN ?_ _ | refine blk_drew ?_ | refine blk_alloc ?_ _)); refine blk_put (cs := #[.string ((rd_T41 l0 x15_1).f0), .string (⟨#[]⟩ : ByteArray)]) ?_ 1 _ rfl; refine blk_put (cs := #[.string (⟨#[]⟩ : ByteArray), .string (⟨#[]⟩ : ByteArray)]) ?_ 0 _ rfl; exact BK206.out) hb); have n3_ := Aside0.mk (below_step bl_ hb); clear HO_5; clear BK201; clear BK206; clear HB; have HO_5 := n0_; have BK201 := n1_; have BK206 := n2_; have HB := n3_; clear n0_ n1_ n2_ n3_; (try clear hb); (try clear hb2); (try clear hk); (try clear hi); obtain ⟨hcz17_0, hcz17_1, hfz17_0, hfz17_1⟩ := blk2_ BK206.out; obtain ⟨hcz18_0, hcz18_1, hfz18_0, hfz18_1⟩ := blk2_ BK201.out) | ((with_reducible refine gate_callee (f := 59) rfl ?_); refine goesL_ (some 24) rfl rfl Try.func59 (by kernel_rfl) rfl #[.agg #[.string ((rd_T41 l0 x15_1).f0), .string ((rd_T41 l0 x15_1).f1)], .agg #[.string x202000_1, .string x202001_1]] rfl sa_ ?_; (with_reducible refine (conductorref09_cover.calls ((rd_T41 l0 x15_1).f0) ((rd_T41 l0 x15_1).f1) x202000_1 x202001_1 t208 t209 _ A11.out).mono ?_); rintro e w19 ⟨rfl, hb⟩; refine ⟨_, rfl, ?_⟩; have n0_ := Aside0.mk (Kd.R_below (by exact HO_5.out) hb); have n1_ := Aside0.mk (blk_below (g := gb201) (o := .cells #[.string x202000_1, .string x202001_1] 41 (0, 0)) (by (with_reducible repeat (first | refine blk_drewN ?_ _ | refine blk_drew ?_ | refine blk_alloc ?_ _)); exact BK201.out) hb); have n2_ := Aside0.mk (blk_below (g := gb206) (o := .cells #[.string ((rd_T41 l0 x15_1).f0), .string ((rd_T41 l0 x15_1).f1)] 41 (0, 0)) (by (with_reducible repeat (first | refine blk_drewN ?_ _ | refine blk_drew ?_ | refine blk_alloc ?_ _)); exact BK206.out) hb); have n3_ := Aside0.mk (below_step bl_ hb); clear HO_5; clear BK201; clear BK206; clear HB; have HO_5 := n0_; have BK201 := n1_; have BK206 := n2_; have HB := n3_; clear n0_ n1_ n2_ n3_; (try clear hb); (try clear hb2); (try clear hk); (try clear hi); obtain ⟨hcz20_0, hcz20_1, hfz20_0, hfz20_1⟩ := blk2_ BK201.out))
       go_roundg k1
       case measure => have := HK1.out; omega
       case rel => exact ⟨(wrap64 (x15_1 + 1)), (t208), (t209), (by first | rfl | (simp; done) | (simp [*]; done)), H', ⟨by have := HK1.out; omega⟩, ⟨by exact Kd.R_mono (Kd.R_far (p := ⟨gb201, 1, none⟩) (Kd.R_far (p := ⟨gb201, 0, none⟩) (Kd.R_mono HO_5.out (fun k_ hk => (⟨hk, hk.1⟩ : _ ∧ k_ ≠ gb201))) (fun _ hk => hk.2) (.string t208)) (fun _ hk => hk.2) (.string t209)) (fun _ hk => hk.1.1)⟩, ⟨by (with_reducible repeat (first | refine blk_drewN ?_ _ | refine blk_drew ?_ | refine blk_alloc ?_ _)); refine blk_put (cs := #[.string t208, .string x202001_1]) ?_ 1 _ rfl; refine blk_put (cs := #[.string x202000_1, .string x202001_1]) ?_ 0 _ rfl; exact BK201.out⟩, ⟨bl_⟩⟩
      ·replace c10 := Bool.eq_false_iff.mpr c10
       subst c10
       have H1 : (conductorref09_put.l0 k1 l0 y202 l0 (l0.length : Int) (wrap64 (x15_1 + 1)) x202000_1 x202001_1) = some r := by rw [if_neg (show ¬ (false = true) by decide)] at H; exact H
       clear H; have H := H1; clear H1; have H' := Aside0.mk H; clear H
       have p205 : 0 ≤ (x15_1 : Int) := od_
       have q205 : x15_1 < (l0.length : Int) := od_
       obtain ⟨ad205, e205, hx205_0, hx205_1⟩ := at_T41 HR0.out x15_1 p205 q205; cases e205
       replace hx205_0 := up_ HB.out hx205_0
       replace hx205_1 := up_ HB.out hx205_1
       replace p205 := eq_true p205; replace q205 := eq_true q205
       go_wp2_with (first | ((with_reducible refine gate_dst (N := 7) rfl ?_); refine box_event ?hg (N := 7) ?hd (cs := #[.string (⟨#[]⟩ : ByteArray), .string (⟨#[]⟩ : ByteArray)]) (t := 41) ?hr ?_; (case hd => rfl); (case hg => rfl); (case hr => first | (go_simp; done) | (go_simp; rfl)); intro gb206 hg w21 hbox hb; have n0_ := Aside0.mk (Kd.R_below (Kd.R_elderB (by exact HO_5.out) gb206 (Nat.le_of_eq hg.symm)) hb); have n1_ := Aside0.mk (blk_below (g := gb201) (o := .cells #[.string x202000_1, .string x202001_1] 41 (0, 0)) (by (with_reducible repeat (first | refine blk_drewN ?_ _ | refine blk_drew ?_ | refine blk_alloc ?_ _)); exact BK201.out) hb); have n2_ := Aside0.mk (below_step bl_ hb); have n3_ := Aside0.mk (hbox); have n4_ := Aside0.mk (bsz_ hg : w.heap.size ≤ gb206); have n5_ := Aside0.mk (bsz_ hg : w.heap.size ≤ gb206); have n6_ := Aside0.mk ((by rw [hg]; exact Nat.ne_of_lt (blk_lt (g := gb201) (o := .cells #[.string x202000_1, .string x202001_1] 41 (0, 0)) (by (with_reducible repeat (first | refine blk_drewN ?_ _ | refine blk_drew ?_ | refine blk_alloc ?_ _)); exact BK201.out)) : gb201 ≠ gb206)); have n7_ := Aside0.mk ((by rw [hg]; exact Nat.ne_of_gt (blk_lt (g := gb201) (o := .cells #[.string x202000_1, .string x202001_1] 41 (0, 0)) (by (with_reducible repeat (first | refine blk_drewN ?_ _ | refine blk_drew ?_ | refine blk_alloc ?_ _)); exact BK201.out)) : gb206 ≠ gb201)); clear HO_5; clear BK201; clear HB; have HO_5 := n0_; have BK201 := n1_; have HB := n2_; have BK206 := n3_; have GW206 := n4_; have GE206 := n5_; have NB201_206 := n6_; have NB206_201 := n7_; clear n0_ n1_ n2_ n3_ n4_ n5_ n6_ n7_; clear hb hbox hg; have hnb22 := NB206_201.out; have hnc22 := NB201_206.out; obtain ⟨hcz23_0, hcz23_1, hfz23_0, hfz23_1⟩ := blk2_ BK206.out; obtain ⟨hcz24_0, hcz24_1, hfz24_0, hfz24_1⟩ := blk2_ BK201.out) | ((with_reducible refine gate_callee (f := 79) rfl ?_); refine goesL_ (some 21) rfl rfl Try.func79 (by kernel_rfl) rfl #[.agg #[.string ((rd_T41 l0 x15_1).f0), .string ((rd_T41 l0 x15_1).f1)], .agg #[.string x202000_1, .string x202001_1]] rfl sa_ ?_; (with_reducible refine (conductorref09_touches.calls ((rd_T41 l0 x15_1).f0) ((rd_T41 l0 x15_1).f1) x202000_1 x202001_1 false _ A9.out).mono ?_); rintro e w25 ⟨rfl, hb⟩; refine ⟨_, rfl, ?_⟩; have n0_ := Aside0.mk (Kd.R_below (by exact (Kd.R_mono (Kd.R_far (p := ⟨gb206, 1, none⟩) (Kd.R_far (p := ⟨gb206, 0, none⟩) (Kd.R_mono HO_5.out (fun k_ hk => (⟨hk, hk.2⟩ : _ ∧ k_ ≠ gb206))) (fun _ hk => hk.2) (.string ((rd_T41 l0 x15_1).f0))) (fun _ hk => hk.2) (.string ((rd_T41 l0 x15_1).f1))) (fun _ h_ => h_.1))) hb); have n1_ := Aside0.mk (blk_below (g := gb201) (o := .cells #[.string x202000_1, .string x202001_1] 41 (0, 0)) (by (with_reducible repeat (first | refine blk_drewN ?_ _ | refine blk_drew ?_ | refine blk_alloc ?_ _)); refine blk_far ?_ NB201_206.out _; (with_reducible repeat (first | refine blk_drewN ?_ _ | refine blk_drew ?_ | refine blk_alloc ?_ _)); refine blk_far ?_ NB201_206.out _; (with_reducible repeat (first | refine blk_drewN ?_ _ | refine blk_drew ?_ | refine blk_alloc ?_ _)); exact BK201.out) hb); have n2_ := Aside0.mk (blk_below (g := gb206) (o := .cells #[.string ((rd_T41 l0 x15_1).f0), .string ((rd_T41 l0 x15_1).f1)] 41 (0, 0)) (by (with_reducible repeat (first | refine blk_drewN ?_ _ | refine blk_drew ?_ | refine blk_alloc ?_ _)); refine blk_put (cs := #[.string ((rd_T41 l0 x15_1).f0), .string (⟨#[]⟩ : ByteArray)]) ?_ 1 _ rfl; refine blk_put (cs := #[.string (⟨#[]⟩ : ByteArray), .string (⟨#[]⟩ : ByteArray)]) ?_ 0 _ rfl; exact BK206.out) hb); have n3_ := Aside0.mk (below_step bl_ hb); clear HO_5; clear BK201; clear BK206; clear HB; have HO_5 := n0_; have BK201 := n1_; have BK206 := n2_; have HB := n3_; clear n0_ n1_ n2_ n3_; (try clear hb); (try clear hb2); (try clear hk); (try clear hi)))
       go_roundg k1
       case measure => have := HK1.out; omega
       case rel => exact ⟨(wrap64 (x15_1 + 1)), (x202000_1), (x202001_1), (by first | rfl | (simp; done) | (simp [*]; done)), H', ⟨by have := HK1.out; omega⟩, ⟨by exact Kd.R_mono HO_5.out (fun _ hk => hk.1)⟩, ⟨by (with_reducible repeat (first | refine blk_drewN ?_ _ | refine blk_drew ?_ | refine blk_alloc ?_ _)); exact BK201.out⟩, ⟨bl_⟩⟩
     ·rw [if_neg c8] at H
      exact absurd H (by simp)
    ·rw [if_neg c7] at H
     exact absurd H (by simp)
   ·rw [if_neg c6] at H
    have c6b0 : decide (x15_1 < (l0.length : Int)) = false := decide_eq_false c6
    clear c6; have H' := Aside0.mk H; clear H
    go_wp2
    go_loopg [5, 28] k1 (fun kq v5 v28 w' => ∃ (x5_2 : List (S41)) (x28_2 : Int), v28 = .int .i64 x28_2 ∧ Aside0 (conductorref09_put.l1 kq l0 x5_2 l0 (l0.length : Int) x28_2 x202000_1 x202001_1 = some r) ∧ Aside0 (kq ≤ k1) ∧ Aside0 (Kd.R k41 41 w' w.heap.size (fun k_ => k_ ≠ gb201) v5 x5_2) ∧ Aside0 (w'.heap[gb201]? = some (.cells #[.string x202000_1, .string x202001_1] 41 (0, 0))) ∧ Aside0 (Below w.heap.size w w'))
    case atStart => exact ⟨(y202), (0), (by first | rfl | (simp; done) | (simp [*]; done)), H', ⟨Nat.le_refl _⟩, ⟨by exact HO_5.out⟩, ⟨by (with_reducible repeat (first | refine blk_drewN ?_ _ | refine blk_drew ?_ | refine blk_alloc ?_ _)); exact BK201.out⟩, ⟨bl_⟩⟩
    case round =>
     clear H'; obtain ⟨x5_2, x28_2, rfl, HA, HK2, HO_5, BK201, HB⟩ := hrel
     cases gk with
     | zero => exact absurd HA.out (by simp [conductorref09_put.l1])
     | succ k2 =>
      have H := HA.out
      clear HA
      simp only [conductorref09_put.l1] at H
      by_cases c26 : x28_2 < (l0.length : Int)
      ·rw [if_pos c26] at H
       have c26b0 : decide (x28_2 < (l0.length : Int)) = true := decide_eq_true c26
       clear c26
       by_cases c27 : 0 ≤ x28_2
       ·rw [if_pos c27] at H
        have c27b0 : decide (0 ≤ x28_2) = true := decide_eq_true c27
        clear c27
        by_cases c28 : x28_2 < (l0.length : Int)
        ·rw [if_pos c28] at H
         have c28b0 : decide (x28_2 < (l0.length : Int)) = true := decide_eq_true c28
         clear c28; replace H := Option.bind_eq_some_iff.mp H; obtain ⟨t212, A290, H⟩ := H
         replace H : (if t212 = true then (conductorref09_put.l1 k2 l0 x5_2 l0 (l0.length : Int) (wrap64 (x28_2 + 1)) x202000_1 x202001_1) else (if (Op.bytesLess (((rd_T41 l0 x28_2).f0).toList) x202000_1.toList) = true then (if x5_2.length < 4398046511104 then (conductorref09_put.l1 k2 l0 (x5_2 ++ [(⟨(rd_T41 l0 x28_2).f0, (rd_T41 l0 x28_2).f1⟩ : S41)]) l0 (l0.length : Int) (wrap64 (x28_2 + 1)) x202000_1 x202001_1) else (none)) else (conductorref09_put.l1 k2 l0 x5_2 l0 (l0.length : Int) (wrap64 (x28_2 + 1)) x202000_1 x202001_1))) = some r := H
         have A29 := Aside0.mk A290; clear A290
         by_cases c30 : t212 = true
         ·subst c30
          have H1 : (conductorref09_put.l1 k2 l0 x5_2 l0 (l0.length : Int) (wrap64 (x28_2 + 1)) x202000_1 x202001_1) = some r := by rw [if_pos rfl] at H; exact H
          clear H; have H := H1; clear H1; have H' := Aside0.mk H; clear H
          have p210 : 0 ≤ (x28_2 : Int) := od_
          have q210 : x28_2 < (l0.length : Int) := od_
          obtain ⟨ad210, e210, hx210_0, hx210_1⟩ := at_T41 HR0.out x28_2 p210 q210; cases e210
          replace hx210_0 := up_ HB.out hx210_0
          replace hx210_1 := up_ HB.out hx210_1
          replace p210 := eq_true p210; replace q210 := eq_true q210
          go_wp2_with (first | ((with_reducible refine gate_dst (N := 9) rfl ?_); refine box_event ?hg (N := 9) ?hd (cs := #[.string (⟨#[]⟩ : ByteArray), .string (⟨#[]⟩ : ByteArray)]) (t := 41) ?hr ?_; (case hd => rfl); (case hg => rfl); (case hr => first | (go_simp; done) | (go_simp; rfl)); intro gb211 hg w31 hbox hb; have n0_ := Aside0.mk (Kd.R_below (Kd.R_elderB (by exact HO_5.out) gb211 (Nat.le_of_eq hg.symm)) hb); have n1_ := Aside0.mk (blk_below (g := gb201) (o := .cells #[.string x202000_1, .string x202001_1] 41 (0, 0)) (by (with_reducible repeat (first | refine blk_drewN ?_ _ | refine blk_drew ?_ | refine blk_alloc ?_ _)); exact BK201.out) hb); have n2_ := Aside0.mk (below_step bl_ hb); have n3_ := Aside0.mk (hbox); have n4_ := Aside0.mk (bsz_ hg : w.heap.size ≤ gb211); have n5_ := Aside0.mk (bsz_ hg : w.heap.size ≤ gb211); have n6_ := Aside0.mk ((by rw [hg]; exact Nat.ne_of_lt (blk_lt (g := gb201) (o := .cells #[.string x202000_1, .string x202001_1] 41 (0, 0)) (by (with_reducible repeat (first | refine blk_drewN ?_ _ | refine blk_drew ?_ | refine blk_alloc ?_ _)); exact BK201.out)) : gb201 ≠ gb211)); have n7_ := Aside0.mk ((by rw [hg]; exact Nat.ne_of_gt (blk_lt (g := gb201) (o := .cells #[.string x202000_1, .string x202001_1] 41 (0, 0)) (by (with_reducible repeat (first | refine blk_drewN ?_ _ | refine blk_drew ?_ | refine blk_alloc ?_ _)); exact BK201.out)) : gb211 ≠ gb201)); clear HO_5; clear BK201; clear HB; have HO_5 := n0_; have BK201 := n1_; have HB := n2_; have BK211 := n3_; have GW211 := n4_; have GE211 := n5_; have NB201_211 := n6_; have NB211_201 := n7_; clear n0_ n1_ n2_ n3_ n4_ n5_ n6_ n7_; clear hb hbox hg; have hnb32 := NB211_201.out; have hnc32 := NB201_211.out; obtain ⟨hcz33_0, hcz33_1, hfz33_0, hfz33_1⟩ := blk2_ BK211.out; obtain ⟨hcz34_0, hcz34_1, hfz34_0, hfz34_1⟩ := blk2_ BK201.out) | ((with_reducible refine gate_callee (f := 79) rfl ?_); refine goesL_ (some 34) rfl rfl Try.func79 (by kernel_rfl) rfl #[.agg #[.string ((rd_T41 l0 x28_2).f0), .string ((rd_T41 l0 x28_2).f1)], .agg #[.string x202000_1, .string x202001_1]] rfl sa_ ?_; (with_reducible refine (conductorref09_touches.calls ((rd_T41 l0 x28_2).f0) ((rd_T41 l0 x28_2).f1) x202000_1 x202001_1 true _ A29.out).mono ?_); rintro e w35 ⟨rfl, hb⟩; refine ⟨_, rfl, ?_⟩; have n0_ := Aside0.mk (Kd.R_below (by exact (Kd.R_mono (Kd.R_far (p := ⟨gb211, 1, none⟩) (Kd.R_far (p := ⟨gb211, 0, none⟩) (Kd.R_mono HO_5.out (fun k_ hk => (⟨hk, hk.2⟩ : _ ∧ k_ ≠ gb211))) (fun _ hk => hk.2) (.string ((rd_T41 l0 x28_2).f0))) (fun _ hk => hk.2) (.string ((rd_T41 l0 x28_2).f1))) (fun _ h_ => h_.1))) hb); have n1_ := Aside0.mk (blk_below (g := gb201) (o := .cells #[.string x202000_1, .string x202001_1] 41 (0, 0)) (by (with_reducible repeat (first | refine blk_drewN ?_ _ | refine blk_drew ?_ | refine blk_alloc ?_ _)); refine blk_far ?_ NB201_211.out _; (with_reducible repeat (first | refine blk_drewN ?_ _ | refine blk_drew ?_ | refine blk_alloc ?_ _)); refine blk_far ?_ NB201_211.out _; (with_reducible repeat (first | refine blk_drewN ?_ _ | refine blk_drew ?_ | refine blk_alloc ?_ _)); exact BK201.out) hb); have n2_ := Aside0.mk (blk_below (g := gb211) (o := .cells #[.string ((rd_T41 l0 x28_2).f0), .string ((rd_T41 l0 x28_2).f1)] 41 (0, 0)) (by (with_reducible repeat (first | refine blk_drewN ?_ _ | refine blk_drew ?_ | refine blk_alloc ?_ _)); refine blk_put (cs := #[.string ((rd_T41 l0 x28_2).f0), .string (⟨#[]⟩ : ByteArray)]) ?_ 1 _ rfl; refine blk_put (cs := #[.string (⟨#[]⟩ : ByteArray), .string (⟨#[]⟩ : ByteArray)]) ?_ 0 _ rfl; exact BK211.out) hb); have n3_ := Aside0.mk (below_step bl_ hb); clear HO_5; clear BK201; clear BK211; clear HB; have HO_5 := n0_; have BK201 := n1_; have BK211 := n2_; have HB := n3_; clear n0_ n1_ n2_ n3_; (try clear hb); (try clear hb2); (try clear hk); (try clear hi)))
          go_roundg k2
          case measure => have := HK1.out; have := HK2.out; omega
          case rel => exact ⟨(x5_2), (wrap64 (x28_2 + 1)), (by first | rfl | (simp; done) | (simp [*]; done)), H', ⟨by have := HK1.out; have := HK2.out; omega⟩, ⟨by exact Kd.R_mono HO_5.out (fun _ hk => hk.1)⟩, ⟨by (with_reducible repeat (first | refine blk_drewN ?_ _ | refine blk_drew ?_ | refine blk_alloc ?_ _)); exact BK201.out⟩, ⟨bl_⟩⟩
         ·replace c30 := Bool.eq_false_iff.mpr c30
          subst c30
          have H1 : (if (Op.bytesLess (((rd_T41 l0 x28_2).f0).toList) x202000_1.toList) = true then (if x5_2.length < 4398046511104 then (conductorref09_put.l1 k2 l0 (x5_2 ++ [(⟨(rd_T41 l0 x28_2).f0, (rd_T41 l0 x28_2).f1⟩ : S41)]) l0 (l0.length : Int) (wrap64 (x28_2 + 1)) x202000_1 x202001_1) else (none)) else (conductorref09_put.l1 k2 l0 x5_2 l0 (l0.length : Int) (wrap64 (x28_2 + 1)) x202000_1 x202001_1)) = some r := by rw [if_neg (show ¬ (false = true) by decide)] at H; exact H
          clear H; have H := H1; clear H1
          by_cases c36 : (Op.bytesLess (((rd_T41 l0 x28_2).f0).toList) x202000_1.toList) = true
          ·rw [if_pos c36] at H
           have c36b0 : (Op.bytesLess (((rd_T41 l0 x28_2).f0).toList) x202000_1.toList) = true := c36
           clear c36
           by_cases c37 : x5_2.length < 4398046511104
           ·rw [if_pos c37] at H
            have LMc37 := Aside0.mk c37; clear c37
            obtain ⟨y213, hy213⟩ : ∃ y_ : List (S41), y_ = (x5_2 ++ [(⟨(rd_T41 l0 x28_2).f0, (rd_T41 l0 x28_2).f1⟩ : S41)]) := ⟨_, rfl⟩
            replace H : (conductorref09_put.l1 k2 l0 y213 l0 (l0.length : Int) (wrap64 (x28_2 + 1)) x202000_1 x202001_1) = some r := by first | (rw [hy213]; with_reducible exact H) | (have H2_ := (Option.bind_some _ _).symm.trans H; rw [hy213]; with_reducible exact H2_) | (have H2_ := (Option.bind_some _ _).symm.trans H; with_reducible exact H2_) | with_reducible exact H | (rw [hy213]; exact H) | exact H
            have Ny213 := Aside0.mk hy213; clear hy213; have H' := Aside0.mk H; clear H
            have p210 : 0 ≤ (x28_2 : Int) := od_
            have q210 : x28_2 < (l0.length : Int) := od_
            obtain ⟨ad210, e210, hx210_0, hx210_1⟩ := at_T41 HR0.out x28_2 p210 q210; cases e210
            replace hx210_0 := up_ HB.out hx210_0
            replace hx210_1 := up_ HB.out hx210_1
            replace p210 := eq_true p210; replace q210 := eq_true q210
            go_wp2_with (first | ((with_reducible refine gate_dst (N := 9) rfl ?_); refine box_event ?hg (N := 9) ?hd (cs := #[.string (⟨#[]⟩ : ByteArray), .string (⟨#[]⟩ : ByteArray)]) (t := 41) ?hr ?_; (case hd => rfl); (case hg => rfl); (case hr => first | (go_simp; done) | (go_simp; rfl)); intro gb211 hg w38 hbox hb; have n0_ := Aside0.mk (Kd.R_below (Kd.R_elderB (by exact HO_5.out) gb211 (Nat.le_of_eq hg.symm)) hb); have n1_ := Aside0.mk (blk_below (g := gb201) (o := .cells #[.string x202000_1, .string x202001_1] 41 (0, 0)) (by (with_reducible repeat (first | refine blk_drewN ?_ _ | refine blk_drew ?_ | refine blk_alloc ?_ _)); exact BK201.out) hb); have n2_ := Aside0.mk (below_step bl_ hb); have n3_ := Aside0.mk (hbox); have n4_ := Aside0.mk (bsz_ hg : w.heap.size ≤ gb211); have n5_ := Aside0.mk (bsz_ hg : w.heap.size ≤ gb211); have n6_ := Aside0.mk ((by rw [hg]; exact Nat.ne_of_lt (blk_lt (g := gb201) (o := .cells #[.string x202000_1, .string x202001_1] 41 (0, 0)) (by (with_reducible repeat (first | refine blk_drewN ?_ _ | refine blk_drew ?_ | refine blk_alloc ?_ _)); exact BK201.out)) : gb201 ≠ gb211)); have n7_ := Aside0.mk ((by rw [hg]; exact Nat.ne_of_gt (blk_lt (g := gb201) (o := .cells #[.string x202000_1, .string x202001_1] 41 (0, 0)) (by (with_reducible repeat (first | refine blk_drewN ?_ _ | refine blk_drew ?_ | refine blk_alloc ?_ _)); exact BK201.out)) : gb211 ≠ gb201)); clear HO_5; clear BK201; clear HB; have HO_5 := n0_; have BK201 := n1_; have HB := n2_; have BK211 := n3_; have GW211 := n4_; have GE211 := n5_; have NB201_211 := n6_; have NB211_201 := n7_; clear n0_ n1_ n2_ n3_ n4_ n5_ n6_ n7_; clear hb hbox hg; have hnb39 := NB211_201.out; have hnc39 := NB201_211.out; obtain ⟨hcz40_0, hcz40_1, hfz40_0, hfz40_1⟩ := blk2_ BK211.out; obtain ⟨hcz41_0, hcz41_1, hfz41_0, hfz41_1⟩ := blk2_ BK201.out) | ((with_reducible refine gate_callee (f := 79) rfl ?_); refine goesL_ (some 34) rfl rfl Try.func79 (by kernel_rfl) rfl #[.agg #[.string ((rd_T41 l0 x28_2).f0), .string ((rd_T41 l0 x28_2).f1)], .agg #[.string x202000_1, .string x202001_1]] rfl sa_ ?_; (with_reducible refine (conductorref09_touches.calls ((rd_T41 l0 x28_2).f0) ((rd_T41 l0 x28_2).f1) x202000_1 x202001_1 false _ A29.out).mono ?_); rintro e w42 ⟨rfl, hb⟩; refine ⟨_, rfl, ?_⟩; have n0_ := Aside0.mk (Kd.R_below (by exact (Kd.R_mono (Kd.R_far (p := ⟨gb211, 1, none⟩) (Kd.R_far (p := ⟨gb211, 0, none⟩) (Kd.R_mono HO_5.out (fun k_ hk => (⟨hk, hk.2⟩ : _ ∧ k_ ≠ gb211))) (fun _ hk => hk.2) (.string ((rd_T41 l0 x28_2).f0))) (fun _ hk => hk.2) (.string ((rd_T41 l0 x28_2).f1))) (fun _ h_ => h_.1))) hb); have n1_ := Aside0.mk (blk_below (g := gb201) (o := .cells #[.string x202000_1, .string x202001_1] 41 (0, 0)) (by (with_reducible repeat (first | refine blk_drewN ?_ _ | refine blk_drew ?_ | refine blk_alloc ?_ _)); refine blk_far ?_ NB201_211.out _; (with_reducible repeat (first | refine blk_drewN ?_ _ | refine blk_drew ?_ | refine blk_alloc ?_ _)); refine blk_far ?_ NB201_211.out _; (with_reducible repeat (first | refine blk_drewN ?_ _ | refine blk_drew ?_ | refine blk_alloc ?_ _)); exact BK201.out) hb); have n2_ := Aside0.mk (blk_below (g := gb211) (o := .cells #[.string ((rd_T41 l0 x28_2).f0), .string ((rd_T41 l0 x28_2).f1)] 41 (0, 0)) (by (with_reducible repeat (first | refine blk_drewN ?_ _ | refine blk_drew ?_ | refine blk_alloc ?_ _)); refine blk_put (cs := #[.string ((rd_T41 l0 x28_2).f0), .string (⟨#[]⟩ : ByteArray)]) ?_ 1 _ rfl; refine blk_put (cs := #[.string (⟨#[]⟩ : ByteArray), .string (⟨#[]⟩ : ByteArray)]) ?_ 0 _ rfl; exact BK211.out) hb); have n3_ := Aside0.mk (below_step bl_ hb); clear HO_5; clear BK201; clear BK211; clear HB; have HO_5 := n0_; have BK201 := n1_; have BK211 := n2_; have HB := n3_; clear n0_ n1_ n2_ n3_; (try clear hb); (try clear hb2); (try clear hk); (try clear hi); obtain ⟨hcz43_0, hcz43_1, hfz43_0, hfz43_1⟩ := blk2_ BK211.out; obtain ⟨hcz44_0, hcz44_1, hfz44_0, hfz44_1⟩ := blk2_ BK201.out) | ((with_reducible refine gate_builtin (b := .append) (xs := #[.tmp 43, .tmp 45]) rfl ?_); at_builtin; refine Kd.R_append k41 (w0 := w) w.heap.size rfl (.tmp 43) (.tmp 45) 24 41 (.agg #[(.string ⟨#[]⟩), (.string ⟨#[]⟩)]) 32 rfl Try.underlying24 info41 rfl (by decide) (by omega) u5 x5_2 (⟨(rd_T41 l0 x28_2).f0, (rd_T41 l0 x28_2).f1⟩ : S41) [.string ((rd_T41 l0 x28_2).f0), .string ((rd_T41 l0 x28_2).f1)] (fun k_ => k_ ≠ gb201 ∧ k_ ≠ gb211) (fun _ => False) rfl rfl ?aP (fun _ hk => hk.elim) ?aF ?aO ?aB ?aS ?aL ?_; (case aP => exact k41_mkM _ _ _ (⟨(rd_T41 l0 x28_2).f0, (rd_T41 l0 x28_2).f1⟩ : S41)); (case aB => exact bl_); (case aF => exact (fun k_ hk => ⟨Kd.freshB (g := gb201) (o := .cells #[.string x202000_1, .string x202001_1] 41 (0, 0)) (by (with_reducible repeat (first | refine blk_drewN ?_ _ | refine blk_drew ?_ | refine blk_alloc ?_ _)); exact BK201.out) k_ hk, Kd.freshB (g := gb211) (o := .cells #[.string ((rd_T41 l0 x28_2).f0), .string ((rd_T41 l0 x28_2).f1)] 41 (0, 0)) (by (with_reducible repeat (first | refine blk_drewN ?_ _ | refine blk_drew ?_ | refine blk_alloc ?_ _)); exact BK211.out) k_ hk⟩)); (case aO => exact (by exact HO_5.out)); (case aS => exact (below_size bl_)); (case aL => have := LMc37.out; omega); intro v214 w45 ho hb hg hat; rw [← Ny213.out] at ho; have n0_ := Aside0.mk (blk_grown (g := gb201) (o := .cells #[.string x202000_1, .string x202001_1] 41 (0, 0)) (by (with_reducible repeat (first | refine blk_drewN ?_ _ | refine blk_drew ?_ | refine blk_alloc ?_ _)); exact BK201.out) hg (Kd.R_away HO_5.out (fun _ hk => hk.1))); have n1_ := Aside0.mk (blk_grown (g := gb211) (o := .cells #[.string ((rd_T41 l0 x28_2).f0), .string ((rd_T41 l0 x28_2).f1)] 41 (0, 0)) (by (with_reducible repeat (first | refine blk_drewN ?_ _ | refine blk_drew ?_ | refine blk_alloc ?_ _)); exact BK211.out) hg (Kd.R_away HO_5.out (fun _ hk => hk.2))); have n2_ := Aside0.mk (hb); have n3_ := Aside0.mk (ho); clear BK201; clear BK211; clear HB; clear HO_5; have BK201 := n0_; have BK211 := n1_; have HB := n2_; have HO215 := n3_; clear n0_ n1_ n2_ n3_; clear ho hb hg hat))
            go_roundg k2
            case measure => have := HK1.out; have := HK2.out; omega
            case rel => exact ⟨(y213), (wrap64 (x28_2 + 1)), (by first | rfl | (simp; done) | (simp [*]; done)), H', ⟨by have := HK1.out; have := HK2.out; omega⟩, ⟨by exact Kd.R_mono HO215.out (fun _ hk => hk.1)⟩, ⟨by (with_reducible repeat (first | refine blk_drewN ?_ _ | refine blk_drew ?_ | refine blk_alloc ?_ _)); exact BK201.out⟩, ⟨bl_⟩⟩
           ·rw [if_neg c37] at H
            exact absurd H (by simp)
          ·rw [if_neg c36] at H
           have c36b0 : (Op.bytesLess (((rd_T41 l0 x28_2).f0).toList) x202000_1.toList) = false := by simpa using c36
           clear c36; have H' := Aside0.mk H; clear H
           have p210 : 0 ≤ (x28_2 : Int) := od_
           have q210 : x28_2 < (l0.length : Int) := od_
           obtain ⟨ad210, e210, hx210_0, hx210_1⟩ := at_T41 HR0.out x28_2 p210 q210; cases e210
           replace hx210_0 := up_ HB.out hx210_0
           replace hx210_1 := up_ HB.out hx210_1
           replace p210 := eq_true p210; replace q210 := eq_true q210
           go_wp2_with (first | ((with_reducible refine gate_dst (N := 9) rfl ?_); refine box_event ?hg (N := 9) ?hd (cs := #[.string (⟨#[]⟩ : ByteArray), .string (⟨#[]⟩ : ByteArray)]) (t := 41) ?hr ?_; (case hd => rfl); (case hg => rfl); (case hr => first | (go_simp; done) | (go_simp; rfl)); intro gb211 hg w46 hbox hb; have n0_ := Aside0.mk (Kd.R_below (Kd.R_elderB (by exact HO_5.out) gb211 (Nat.le_of_eq hg.symm)) hb); have n1_ := Aside0.mk (blk_below (g := gb201) (o := .cells #[.string x202000_1, .string x202001_1] 41 (0, 0)) (by (with_reducible repeat (first | refine blk_drewN ?_ _ | refine blk_drew ?_ | refine blk_alloc ?_ _)); exact BK201.out) hb); have n2_ := Aside0.mk (below_step bl_ hb); have n3_ := Aside0.mk (hbox); have n4_ := Aside0.mk (bsz_ hg : w.heap.size ≤ gb211); have n5_ := Aside0.mk (bsz_ hg : w.heap.size ≤ gb211); have n6_ := Aside0.mk ((by rw [hg]; exact Nat.ne_of_lt (blk_lt (g := gb201) (o := .cells #[.string x202000_1, .string x202001_1] 41 (0, 0)) (by (with_reducible repeat (first | refine blk_drewN ?_ _ | refine blk_drew ?_ | refine blk_alloc ?_ _)); exact BK201.out)) : gb201 ≠ gb211)); have n7_ := Aside0.mk ((by rw [hg]; exact Nat.ne_of_gt (blk_lt (g := gb201) (o := .cells #[.string x202000_1, .string x202001_1] 41 (0, 0)) (by (with_reducible repeat (first | refine blk_drewN ?_ _ | refine blk_drew ?_ | refine blk_alloc ?_ _)); exact BK201.out)) : gb211 ≠ gb201)); clear HO_5; clear BK201; clear HB; have HO_5 := n0_; have BK201 := n1_; have HB := n2_; have BK211 := n3_; have GW211 := n4_; have GE211 := n5_; have NB201_211 := n6_; have NB211_201 := n7_; clear n0_ n1_ n2_ n3_ n4_ n5_ n6_ n7_; clear hb hbox hg; have hnb47 := NB211_201.out; have hnc47 := NB201_211.out; obtain ⟨hcz48_0, hcz48_1, hfz48_0, hfz48_1⟩ := blk2_ BK211.out; obtain ⟨hcz49_0, hcz49_1, hfz49_0, hfz49_1⟩ := blk2_ BK201.out) | ((with_reducible refine gate_callee (f := 79) rfl ?_); refine goesL_ (some 34) rfl rfl Try.func79 (by kernel_rfl) rfl #[.agg #[.string ((rd_T41 l0 x28_2).f0), .string ((rd_T41 l0 x28_2).f1)], .agg #[.string x202000_1, .string x202001_1]] rfl sa_ ?_; (with_reducible refine (conductorref09_touches.calls ((rd_T41 l0 x28_2).f0) ((rd_T41 l0 x28_2).f1) x202000_1 x202001_1 false _ A29.out).mono ?_); rintro e w50 ⟨rfl, hb⟩; refine ⟨_, rfl, ?_⟩; have n0_ := Aside0.mk (Kd.R_below (by exact (Kd.R_mono (Kd.R_far (p := ⟨gb211, 1, none⟩) (Kd.R_far (p := ⟨gb211, 0, none⟩) (Kd.R_mono HO_5.out (fun k_ hk => (⟨hk, hk.2⟩ : _ ∧ k_ ≠ gb211))) (fun _ hk => hk.2) (.string ((rd_T41 l0 x28_2).f0))) (fun _ hk => hk.2) (.string ((rd_T41 l0 x28_2).f1))) (fun _ h_ => h_.1))) hb); have n1_ := Aside0.mk (blk_below (g := gb201) (o := .cells #[.string x202000_1, .string x202001_1] 41 (0, 0)) (by (with_reducible repeat (first | refine blk_drewN ?_ _ | refine blk_drew ?_ | refine blk_alloc ?_ _)); refine blk_far ?_ NB201_211.out _; (with_reducible repeat (first | refine blk_drewN ?_ _ | refine blk_drew ?_ | refine blk_alloc ?_ _)); refine blk_far ?_ NB201_211.out _; (with_reducible repeat (first | refine blk_drewN ?_ _ | refine blk_drew ?_ | refine blk_alloc ?_ _)); exact BK201.out) hb); have n2_ := Aside0.mk (blk_below (g := gb211) (o := .cells #[.string ((rd_T41 l0 x28_2).f0), .string ((rd_T41 l0 x28_2).f1)] 41 (0, 0)) (by (with_reducible repeat (first | refine blk_drewN ?_ _ | refine blk_drew ?_ | refine blk_alloc ?_ _)); refine blk_put (cs := #[.string ((rd_T41 l0 x28_2).f0), .string (⟨#[]⟩ : ByteArray)]) ?_ 1 _ rfl; refine blk_put (cs := #[.string (⟨#[]⟩ : ByteArray), .string (⟨#[]⟩ : ByteArray)]) ?_ 0 _ rfl; exact BK211.out) hb); have n3_ := Aside0.mk (below_step bl_ hb); clear HO_5; clear BK201; clear BK211; clear HB; have HO_5 := n0_; have BK201 := n1_; have BK211 := n2_; have HB := n3_; clear n0_ n1_ n2_ n3_; (try clear hb); (try clear hb2); (try clear hk); (try clear hi); obtain ⟨hcz51_0, hcz51_1, hfz51_0, hfz51_1⟩ := blk2_ BK211.out; obtain ⟨hcz52_0, hcz52_1, hfz52_0, hfz52_1⟩ := blk2_ BK201.out))
           go_roundg k2
           case measure => have := HK1.out; have := HK2.out; omega
           case rel => exact ⟨(x5_2), (wrap64 (x28_2 + 1)), (by first | rfl | (simp; done) | (simp [*]; done)), H', ⟨by have := HK1.out; have := HK2.out; omega⟩, ⟨by exact Kd.R_mono HO_5.out (fun _ hk => hk.1)⟩, ⟨by (with_reducible repeat (first | refine blk_drewN ?_ _ | refine blk_drew ?_ | refine blk_alloc ?_ _)); exact BK201.out⟩, ⟨bl_⟩⟩
        ·rw [if_neg c28] at H
         exact absurd H (by simp)
       ·rw [if_neg c27] at H
        exact absurd H (by simp)
      ·rw [if_neg c26] at H
       have c26b0 : decide (x28_2 < (l0.length : Int)) = false := decide_eq_false c26
       clear c26
       by_cases c53 : x5_2.length < 4398046511104
       ·rw [if_pos c53] at H
        have LMc53 := Aside0.mk c53; clear c53
        obtain ⟨y216, hy216⟩ : ∃ y_ : List (S41), y_ = (x5_2 ++ [(⟨x202000_1, x202001_1⟩ : S41)]) := ⟨_, rfl⟩
        replace H : (conductorref09_put.l2 k2 y216 l0 (l0.length : Int) 0 x202000_1 x202001_1) = some r := by first | (rw [hy216]; with_reducible exact H) | (have H2_ := (Option.bind_some _ _).symm.trans H; rw [hy216]; with_reducible exact H2_) | (have H2_ := (Option.bind_some _ _).symm.trans H; with_reducible exact H2_) | with_reducible exact H | (rw [hy216]; exact H) | exact H
        have Ny216 := Aside0.mk hy216; clear hy216; have H' := Aside0.mk H; clear H; obtain ⟨hcz54_0, hcz54_1, hfz54_0, hfz54_1⟩ := blk2_ BK201.out
        go_wp2_with (first | ((with_reducible refine gate_builtin (b := .append) (xs := #[.tmp 48, .tmp 50]) rfl ?_); at_builtin; refine Kd.R_append k41 (w0 := w) w.heap.size rfl (.tmp 48) (.tmp 50) 24 41 (.agg #[(.string ⟨#[]⟩), (.string ⟨#[]⟩)]) 32 rfl Try.underlying24 info41 rfl (by decide) (by omega) u5 x5_2 (⟨x202000_1, x202001_1⟩ : S41) [.string x202000_1, .string x202001_1] (fun k_ => k_ ≠ gb201) (fun _ => False) rfl rfl ?aP (fun _ hk => hk.elim) ?aF ?aO ?aB ?aS ?aL ?_; (case aP => exact k41_mkM _ _ _ (⟨x202000_1, x202001_1⟩ : S41)); (case aB => exact bl_); (case aF => exact (fun k_ hk => Kd.freshB (g := gb201) (o := .cells #[.string x202000_1, .string x202001_1] 41 (0, 0)) (by (with_reducible repeat (first | refine blk_drewN ?_ _ | refine blk_drew ?_ | refine blk_alloc ?_ _)); exact BK201.out) k_ hk)); (case aO => exact (by exact HO_5.out)); (case aS => exact (below_size bl_)); (case aL => have := LMc53.out; omega); intro v217 w55 ho hb hg hat; rw [← Ny216.out] at ho; have n0_ := Aside0.mk (blk_grown (g := gb201) (o := .cells #[.string x202000_1, .string x202001_1] 41 (0, 0)) (by (with_reducible repeat (first | refine blk_drewN ?_ _ | refine blk_drew ?_ | refine blk_alloc ?_ _)); exact BK201.out) hg (Kd.R_away HO_5.out (fun _ hk => hk))); have n1_ := Aside0.mk (hb); have n2_ := Aside0.mk (ho); clear BK201; clear HB; clear HO_5; have BK201 := n0_; have HB := n1_; have HO218 := n2_; clear n0_ n1_ n2_; clear ho hb hg hat))
        go_loopg [5, 54] k2 (fun kq v5 v54 w' => ∃ (x5_3 : List (S41)) (x54_3 : Int), v54 = .int .i64 x54_3 ∧ Aside0 (conductorref09_put.l2 kq x5_3 l0 (l0.length : Int) x54_3 x202000_1 x202001_1 = some r) ∧ Aside0 (kq ≤ k2) ∧ Aside0 (Kd.R k41 41 w' w.heap.size (fun k_ => k_ ≠ gb201) v5 x5_3) ∧ Aside0 (w'.heap[gb201]? = some (.cells #[.string x202000_1, .string x202001_1] 41 (0, 0))) ∧ Aside0 (Below w.heap.size w w'))
        case atStart => exact ⟨(y216), (0), (by first | rfl | (simp; done) | (simp [*]; done)), H', ⟨Nat.le_refl _⟩, ⟨by exact HO218.out⟩, ⟨by (with_reducible repeat (first | refine blk_drewN ?_ _ | refine blk_drew ?_ | refine blk_alloc ?_ _)); exact BK201.out⟩, ⟨bl_⟩⟩
        case round =>
         clear H'; obtain ⟨x5_3, x54_3, rfl, HA, HK3, HO_5, BK201, HB⟩ := hrel
         cases gk with
         | zero => exact absurd HA.out (by simp [conductorref09_put.l2])
         | succ k3 =>
          have H := HA.out
          clear HA
          simp only [conductorref09_put.l2] at H
          by_cases c56 : x54_3 < (l0.length : Int)
          ·rw [if_pos c56] at H
           have c56b0 : decide (x54_3 < (l0.length : Int)) = true := decide_eq_true c56
           clear c56
           by_cases c57 : 0 ≤ x54_3
           ·rw [if_pos c57] at H
            have c57b0 : decide (0 ≤ x54_3) = true := decide_eq_true c57
            clear c57
            by_cases c58 : x54_3 < (l0.length : Int)
            ·rw [if_pos c58] at H
             have c58b0 : decide (x54_3 < (l0.length : Int)) = true := decide_eq_true c58
             clear c58; replace H := Option.bind_eq_some_iff.mp H; obtain ⟨t221, A590, H⟩ := H
             replace H : (if t221 = true then (conductorref09_put.l2 k3 x5_3 l0 (l0.length : Int) (wrap64 (x54_3 + 1)) x202000_1 x202001_1) else (if (Op.bytesLess x202000_1.toList (((rd_T41 l0 x54_3).f0).toList)) = true then (if x5_3.length < 4398046511104 then (conductorref09_put.l2 k3 (x5_3 ++ [(⟨(rd_T41 l0 x54_3).f0, (rd_T41 l0 x54_3).f1⟩ : S41)]) l0 (l0.length : Int) (wrap64 (x54_3 + 1)) x202000_1 x202001_1) else (none)) else (conductorref09_put.l2 k3 x5_3 l0 (l0.length : Int) (wrap64 (x54_3 + 1)) x202000_1 x202001_1))) = some r := H
             have A59 := Aside0.mk A590; clear A590
             by_cases c60 : t221 = true
             ·subst c60
              have H1 : (conductorref09_put.l2 k3 x5_3 l0 (l0.length : Int) (wrap64 (x54_3 + 1)) x202000_1 x202001_1) = some r := by rw [if_pos rfl] at H; exact H
              clear H; have H := H1; clear H1; have H' := Aside0.mk H; clear H
              have p219 : 0 ≤ (x54_3 : Int) := od_
              have q219 : x54_3 < (l0.length : Int) := od_
              obtain ⟨ad219, e219, hx219_0, hx219_1⟩ := at_T41 HR0.out x54_3 p219 q219; cases e219
              replace hx219_0 := up_ HB.out hx219_0
              replace hx219_1 := up_ HB.out hx219_1
              replace p219 := eq_true p219; replace q219 := eq_true q219
              go_wp2_with (first | ((with_reducible refine gate_dst (N := 11) rfl ?_); refine box_event ?hg (N := 11) ?hd (cs := #[.string (⟨#[]⟩ : ByteArray), .string (⟨#[]⟩ : ByteArray)]) (t := 41) ?hr ?_; (case hd => rfl); (case hg => rfl); (case hr => first | (go_simp; done) | (go_simp; rfl)); intro gb220 hg w61 hbox hb; have n0_ := Aside0.mk (Kd.R_below (Kd.R_elderB (by exact HO_5.out) gb220 (Nat.le_of_eq hg.symm)) hb); have n1_ := Aside0.mk (blk_below (g := gb201) (o := .cells #[.string x202000_1, .string x202001_1] 41 (0, 0)) (by (with_reducible repeat (first | refine blk_drewN ?_ _ | refine blk_drew ?_ | refine blk_alloc ?_ _)); exact BK201.out) hb); have n2_ := Aside0.mk (below_step bl_ hb); have n3_ := Aside0.mk (hbox); have n4_ := Aside0.mk (bsz_ hg : w.heap.size ≤ gb220); have n5_ := Aside0.mk (bsz_ hg : w.heap.size ≤ gb220); have n6_ := Aside0.mk ((by rw [hg]; exact Nat.ne_of_lt (blk_lt (g := gb201) (o := .cells #[.string x202000_1, .string x202001_1] 41 (0, 0)) (by (with_reducible repeat (first | refine blk_drewN ?_ _ | refine blk_drew ?_ | refine blk_alloc ?_ _)); exact BK201.out)) : gb201 ≠ gb220)); have n7_ := Aside0.mk ((by rw [hg]; exact Nat.ne_of_gt (blk_lt (g := gb201) (o := .cells #[.string x202000_1, .string x202001_1] 41 (0, 0)) (by (with_reducible repeat (first | refine blk_drewN ?_ _ | refine blk_drew ?_ | refine blk_alloc ?_ _)); exact BK201.out)) : gb220 ≠ gb201)); clear HO_5; clear BK201; clear HB; have HO_5 := n0_; have BK201 := n1_; have HB := n2_; have BK220 := n3_; have GW220 := n4_; have GE220 := n5_; have NB201_220 := n6_; have NB220_201 := n7_; clear n0_ n1_ n2_ n3_ n4_ n5_ n6_ n7_; clear hb hbox hg; have hnb62 := NB220_201.out; have hnc62 := NB201_220.out; obtain ⟨hcz63_0, hcz63_1, hfz63_0, hfz63_1⟩ := blk2_ BK220.out; obtain ⟨hcz64_0, hcz64_1, hfz64_0, hfz64_1⟩ := blk2_ BK201.out) | ((with_reducible refine gate_callee (f := 79) rfl ?_); refine goesL_ (some 60) rfl rfl Try.func79 (by kernel_rfl) rfl #[.agg #[.string ((rd_T41 l0 x54_3).f0), .string ((rd_T41 l0 x54_3).f1)], .agg #[.string x202000_1, .string x202001_1]] rfl sa_ ?_; (with_reducible refine (conductorref09_touches.calls ((rd_T41 l0 x54_3).f0) ((rd_T41 l0 x54_3).f1) x202000_1 x202001_1 true _ A59.out).mono ?_); rintro e w65 ⟨rfl, hb⟩; refine ⟨_, rfl, ?_⟩; have n0_ := Aside0.mk (Kd.R_below (by exact (Kd.R_mono (Kd.R_far (p := ⟨gb220, 1, none⟩) (Kd.R_far (p := ⟨gb220, 0, none⟩) (Kd.R_mono HO_5.out (fun k_ hk => (⟨hk, hk.2⟩ : _ ∧ k_ ≠ gb220))) (fun _ hk => hk.2) (.string ((rd_T41 l0 x54_3).f0))) (fun _ hk => hk.2) (.string ((rd_T41 l0 x54_3).f1))) (fun _ h_ => h_.1))) hb); have n1_ := Aside0.mk (blk_below (g := gb201) (o := .cells #[.string x202000_1, .string x202001_1] 41 (0, 0)) (by (with_reducible repeat (first | refine blk_drewN ?_ _ | refine blk_drew ?_ | refine blk_alloc ?_ _)); refine blk_far ?_ NB201_220.out _; (with_reducible repeat (first | refine blk_drewN ?_ _ | refine blk_drew ?_ | refine blk_alloc ?_ _)); refine blk_far ?_ NB201_220.out _; (with_reducible repeat (first | refine blk_drewN ?_ _ | refine blk_drew ?_ | refine blk_alloc ?_ _)); exact BK201.out) hb); have n2_ := Aside0.mk (blk_below (g := gb220) (o := .cells #[.string ((rd_T41 l0 x54_3).f0), .string ((rd_T41 l0 x54_3).f1)] 41 (0, 0)) (by (with_reducible repeat (first | refine blk_drewN ?_ _ | refine blk_drew ?_ | refine blk_alloc ?_ _)); refine blk_put (cs := #[.string ((rd_T41 l0 x54_3).f0), .string (⟨#[]⟩ : ByteArray)]) ?_ 1 _ rfl; refine blk_put (cs := #[.string (⟨#[]⟩ : ByteArray), .string (⟨#[]⟩ : ByteArray)]) ?_ 0 _ rfl; exact BK220.out) hb); have n3_ := Aside0.mk (below_step bl_ hb); clear HO_5; clear BK201; clear BK220; clear HB; have HO_5 := n0_; have BK201 := n1_; have BK220 := n2_; have HB := n3_; clear n0_ n1_ n2_ n3_; (try clear hb); (try clear hb2); (try clear hk); (try clear hi)))
              go_roundg k3
              case measure => have := HK1.out; have := HK2.out; have := HK3.out; omega
              case rel => exact ⟨(x5_3), (wrap64 (x54_3 + 1)), (by first | rfl | (simp; done) | (simp [*]; done)), H', ⟨by have := HK1.out; have := HK2.out; have := HK3.out; omega⟩, ⟨by exact Kd.R_mono HO_5.out (fun _ hk => hk.1)⟩, ⟨by (with_reducible repeat (first | refine blk_drewN ?_ _ | refine blk_drew ?_ | refine blk_alloc ?_ _)); exact BK201.out⟩, ⟨bl_⟩⟩
             ·replace c60 := Bool.eq_false_iff.mpr c60
              subst c60
              have H1 : (if (Op.bytesLess x202000_1.toList (((rd_T41 l0 x54_3).f0).toList)) = true then (if x5_3.length < 4398046511104 then (conductorref09_put.l2 k3 (x5_3 ++ [(⟨(rd_T41 l0 x54_3).f0, (rd_T41 l0 x54_3).f1⟩ : S41)]) l0 (l0.length : Int) (wrap64 (x54_3 + 1)) x202000_1 x202001_1) else (none)) else (conductorref09_put.l2 k3 x5_3 l0 (l0.length : Int) (wrap64 (x54_3 + 1)) x202000_1 x202001_1)) = some r := by rw [if_neg (show ¬ (false = true) by decide)] at H; exact H
              clear H; have H := H1; clear H1
              by_cases c66 : (Op.bytesLess x202000_1.toList (((rd_T41 l0 x54_3).f0).toList)) = true
              ·rw [if_pos c66] at H
               have c66b0 : (Op.bytesLess x202000_1.toList (((rd_T41 l0 x54_3).f0).toList)) = true := c66
               clear c66
               by_cases c67 : x5_3.length < 4398046511104
               ·rw [if_pos c67] at H
                have LMc67 := Aside0.mk c67; clear c67
                obtain ⟨y222, hy222⟩ : ∃ y_ : List (S41), y_ = (x5_3 ++ [(⟨(rd_T41 l0 x54_3).f0, (rd_T41 l0 x54_3).f1⟩ : S41)]) := ⟨_, rfl⟩
                replace H : (conductorref09_put.l2 k3 y222 l0 (l0.length : Int) (wrap64 (x54_3 + 1)) x202000_1 x202001_1) = some r := by first | (rw [hy222]; with_reducible exact H) | (have H2_ := (Option.bind_some _ _).symm.trans H; rw [hy222]; with_reducible exact H2_) | (have H2_ := (Option.bind_some _ _).symm.trans H; with_reducible exact H2_) | with_reducible exact H | (rw [hy222]; exact H) | exact H
                have Ny222 := Aside0.mk hy222; clear hy222; have H' := Aside0.mk H; clear H
                have p219 : 0 ≤ (x54_3 : Int) := od_
                have q219 : x54_3 < (l0.length : Int) := od_
                obtain ⟨ad219, e219, hx219_0, hx219_1⟩ := at_T41 HR0.out x54_3 p219 q219; cases e219
                replace hx219_0 := up_ HB.out hx219_0
                replace hx219_1 := up_ HB.out hx219_1
                replace p219 := eq_true p219; replace q219 := eq_true q219
                go_wp2_with (first | ((with_reducible refine gate_dst (N := 11) rfl ?_); refine box_event ?hg (N := 11) ?hd (cs := #[.string (⟨#[]⟩ : ByteArray), .string (⟨#[]⟩ : ByteArray)]) (t := 41) ?hr ?_; (case hd => rfl); (case hg => rfl); (case hr => first | (go_simp; done) | (go_simp; rfl)); intro gb220 hg w68 hbox hb; have n0_ := Aside0.mk (Kd.R_below (Kd.R_elderB (by exact HO_5.out) gb220 (Nat.le_of_eq hg.symm)) hb); have n1_ := Aside0.mk (blk_below (g := gb201) (o := .cells #[.string x202000_1, .string x202001_1] 41 (0, 0)) (by (with_reducible repeat (first | refine blk_drewN ?_ _ | refine blk_drew ?_ | refine blk_alloc ?_ _)); exact BK201.out) hb); have n2_ := Aside0.mk (below_step bl_ hb); have n3_ := Aside0.mk (hbox); have n4_ := Aside0.mk (bsz_ hg : w.heap.size ≤ gb220); have n5_ := Aside0.mk (bsz_ hg : w.heap.size ≤ gb220); have n6_ := Aside0.mk ((by rw [hg]; exact Nat.ne_of_lt (blk_lt (g := gb201) (o := .cells #[.string x202000_1, .string x202001_1] 41 (0, 0)) (by (with_reducible repeat (first | refine blk_drewN ?_ _ | refine blk_drew ?_ | refine blk_alloc ?_ _)); exact BK201.out)) : gb201 ≠ gb220)); have n7_ := Aside0.mk ((by rw [hg]; exact Nat.ne_of_gt (blk_lt (g := gb201) (o := .cells #[.string x202000_1, .string x202001_1] 41 (0, 0)) (by (with_reducible repeat (first | refine blk_drewN ?_ _ | refine blk_drew ?_ | refine blk_alloc ?_ _)); exact BK201.out)) : gb220 ≠ gb201)); clear HO_5; clear BK201; clear HB; have HO_5 := n0_; have BK201 := n1_; have HB := n2_; have BK220 := n3_; have GW220 := n4_; have GE220 := n5_; have NB201_220 := n6_; have NB220_201 := n7_; clear n0_ n1_ n2_ n3_ n4_ n5_ n6_ n7_; clear hb hbox hg; have hnb69 := NB220_201.out; have hnc69 := NB201_220.out; obtain ⟨hcz70_0, hcz70_1, hfz70_0, hfz70_1⟩ := blk2_ BK220.out; obtain ⟨hcz71_0, hcz71_1, hfz71_0, hfz71_1⟩ := blk2_ BK201.out) | ((with_reducible refine gate_callee (f := 79) rfl ?_); refine goesL_ (some 60) rfl rfl Try.func79 (by kernel_rfl) rfl #[.agg #[.string ((rd_T41 l0 x54_3).f0), .string ((rd_T41 l0 x54_3).f1)], .agg #[.string x202000_1, .string x202001_1]] rfl sa_ ?_; (with_reducible refine (conductorref09_touches.calls ((rd_T41 l0 x54_3).f0) ((rd_T41 l0 x54_3).f1) x202000_1 x202001_1 false _ A59.out).mono ?_); rintro e w72 ⟨rfl, hb⟩; refine ⟨_, rfl, ?_⟩; have n0_ := Aside0.mk (Kd.R_below (by exact (Kd.R_mono (Kd.R_far (p := ⟨gb220, 1, none⟩) (Kd.R_far (p := ⟨gb220, 0, none⟩) (Kd.R_mono HO_5.out (fun k_ hk => (⟨hk, hk.2⟩ : _ ∧ k_ ≠ gb220))) (fun _ hk => hk.2) (.string ((rd_T41 l0 x54_3).f0))) (fun _ hk => hk.2) (.string ((rd_T41 l0 x54_3).f1))) (fun _ h_ => h_.1))) hb); have n1_ := Aside0.mk (blk_below (g := gb201) (o := .cells #[.string x202000_1, .string x202001_1] 41 (0, 0)) (by (with_reducible repeat (first | refine blk_drewN ?_ _ | refine blk_drew ?_ | refine blk_alloc ?_ _)); refine blk_far ?_ NB201_220.out _; (with_reducible repeat (first | refine blk_drewN ?_ _ | refine blk_drew ?_ | refine blk_alloc ?_ _)); refine blk_far ?_ NB201_220.out _; (with_reducible repeat (first | refine blk_drewN ?_ _ | refine blk_drew ?_ | refine blk_alloc ?_ _)); exact BK201.out) hb); have n2_ := Aside0.mk (blk_below (g := gb220) (o := .cells #[.string ((rd_T41 l0 x54_3).f0), .string ((rd_T41 l0 x54_3).f1)] 41 (0, 0)) (by (with_reducible repeat (first | refine blk_drewN ?_ _ | refine blk_drew ?_ | refine blk_alloc ?_ _)); refine blk_put (cs := #[.string ((rd_T41 l0 x54_3).f0), .string (⟨#[]⟩ : ByteArray)]) ?_ 1 _ rfl; refine blk_put (cs := #[.string (⟨#[]⟩ : ByteArray), .string (⟨#[]⟩ : ByteArray)]) ?_ 0 _ rfl; exact BK220.out) hb); have n3_ := Aside0.mk (below_step bl_ hb); clear HO_5; clear BK201; clear BK220; clear HB; have HO_5 := n0_; have BK201 := n1_; have BK220 := n2_; have HB := n3_; clear n0_ n1_ n2_ n3_; (try clear hb); (try clear hb2); (try clear hk); (try clear hi); obtain ⟨hcz73_0, hcz73_1, hfz73_0, hfz73_1⟩ := blk2_ BK220.out; obtain ⟨hcz74_0, hcz74_1, hfz74_0, hfz74_1⟩ := blk2_ BK201.out) | ((with_reducible refine gate_builtin (b := .append) (xs := #[.tmp 69, .tmp 71]) rfl ?_); at_builtin; refine Kd.R_append k41 (w0 := w) w.heap.size rfl (.tmp 69) (.tmp 71) 24 41 (.agg #[(.string ⟨#[]⟩), (.string ⟨#[]⟩)]) 32 rfl Try.underlying24 info41 rfl (by decide) (by omega) u5 x5_3 (⟨(rd_T41 l0 x54_3).f0, (rd_T41 l0 x54_3).f1⟩ : S41) [.string ((rd_T41 l0 x54_3).f0), .string ((rd_T41 l0 x54_3).f1)] (fun k_ => k_ ≠ gb201 ∧ k_ ≠ gb220) (fun _ => False) rfl rfl ?aP (fun _ hk => hk.elim) ?aF ?aO ?aB ?aS ?aL ?_; (case aP => exact k41_mkM _ _ _ (⟨(rd_T41 l0 x54_3).f0, (rd_T41 l0 x54_3).f1⟩ : S41)); (case aB => exact bl_); (case aF => exact (fun k_ hk => ⟨Kd.freshB (g := gb201) (o := .cells #[.string x202000_1, .string x202001_1] 41 (0, 0)) (by (with_reducible repeat (first | refine blk_drewN ?_ _ | refine blk_drew ?_ | refine blk_alloc ?_ _)); exact BK201.out) k_ hk, Kd.freshB (g := gb220) (o := .cells #[.string ((rd_T41 l0 x54_3).f0), .string ((rd_T41 l0 x54_3).f1)] 41 (0, 0)) (by (with_reducible repeat (first | refine blk_drewN ?_ _ | refine blk_drew ?_ | refine blk_alloc ?_ _)); exact BK220.out) k_ hk⟩)); (case aO => exact (by exact HO_5.out)); (case aS => exact (below_size bl_)); (case aL => have := LMc67.out; omega); intro v223 w75 ho hb hg hat; rw [← Ny222.out] at ho; have n0_ := Aside0.mk (blk_grown (g := gb201) (o := .cells #[.string x202000_1, .string x202001_1] 41 (0, 0)) (by (with_reducible repeat (first | refine blk_drewN ?_ _ | refine blk_drew ?_ | refine blk_alloc ?_ _)); exact BK201.out) hg (Kd.R_away HO_5.out (fun _ hk => hk.1))); have n1_ := Aside0.mk (blk_grown (g := gb220) (o := .cells #[.string ((rd_T41 l0 x54_3).f0), .string ((rd_T41 l0 x54_3).f1)] 41 (0, 0)) (by (with_reducible repeat (first | refine blk_drewN ?_ _ | refine blk_drew ?_ | refine blk_alloc ?_ _)); exact BK220.out) hg (Kd.R_away HO_5.out (fun _ hk => hk.2))); have n2_ := Aside0.mk (hb); have n3_ := Aside0.mk (ho); clear BK201; clear BK220; clear HB; clear HO_5; have BK201 := n0_; have BK220 := n1_; have HB := n2_; have HO224 := n3_; clear n0_ n1_ n2_ n3_; clear ho hb hg hat))
                go_roundg k3
                case measure => have := HK1.out; have := HK2.out; have := HK3.out; omega
                case rel => exact ⟨(y222), (wrap64 (x54_3 + 1)), (by first | rfl | (simp; done) | (simp [*]; done)), H', ⟨by have := HK1.out; have := HK2.out; have := HK3.out; omega⟩, ⟨by exact Kd.R_mono HO224.out (fun _ hk => hk.1)⟩, ⟨by (with_reducible repeat (first | refine blk_drewN ?_ _ | refine blk_drew ?_ | refine blk_alloc ?_ _)); exact BK201.out⟩, ⟨bl_⟩⟩
               ·rw [if_neg c67] at H
                exact absurd H (by simp)
              ·rw [if_neg c66] at H
               have c66b0 : (Op.bytesLess x202000_1.toList (((rd_T41 l0 x54_3).f0).toList)) = false := by simpa using c66
               clear c66; have H' := Aside0.mk H; clear H
               have p219 : 0 ≤ (x54_3 : Int) := od_
               have q219 : x54_3 < (l0.length : Int) := od_
               obtain ⟨ad219, e219, hx219_0, hx219_1⟩ := at_T41 HR0.out x54_3 p219 q219; cases e219
               replace hx219_0 := up_ HB.out hx219_0
               replace hx219_1 := up_ HB.out hx219_1
               replace p219 := eq_true p219; replace q219 := eq_true q219
               go_wp2_with (first | ((with_reducible refine gate_dst (N := 11) rfl ?_); refine box_event ?hg (N := 11) ?hd (cs := #[.string (⟨#[]⟩ : ByteArray), .string (⟨#[]⟩ : ByteArray)]) (t := 41) ?hr ?_; (case hd => rfl); (case hg => rfl); (case hr => first | (go_simp; done) | (go_simp; rfl)); intro gb220 hg w76 hbox hb; have n0_ := Aside0.mk (Kd.R_below (Kd.R_elderB (by exact HO_5.out) gb220 (Nat.le_of_eq hg.symm)) hb); have n1_ := Aside0.mk (blk_below (g := gb201) (o := .cells #[.string x202000_1, .string x202001_1] 41 (0, 0)) (by (with_reducible repeat (first | refine blk_drewN ?_ _ | refine blk_drew ?_ | refine blk_alloc ?_ _)); exact BK201.out) hb); have n2_ := Aside0.mk (below_step bl_ hb); have n3_ := Aside0.mk (hbox); have n4_ := Aside0.mk (bsz_ hg : w.heap.size ≤ gb220); have n5_ := Aside0.mk (bsz_ hg : w.heap.size ≤ gb220); have n6_ := Aside0.mk ((by rw [hg]; exact Nat.ne_of_lt (blk_lt (g := gb201) (o := .cells #[.string x202000_1, .string x202001_1] 41 (0, 0)) (by (with_reducible repeat (first | refine blk_drewN ?_ _ | refine blk_drew ?_ | refine blk_alloc ?_ _)); exact BK201.out)) : gb201 ≠ gb220)); have n7_ := Aside0.mk ((by rw [hg]; exact Nat.ne_of_gt (blk_lt (g := gb201) (o := .cells #[.string x202000_1, .string x202001_1] 41 (0, 0)) (by (with_reducible repeat (first | refine blk_drewN ?_ _ | refine blk_drew ?_ | refine blk_alloc ?_ _)); exact BK201.out)) : gb220 ≠ gb201)); clear HO_5; clear BK201; clear HB; have HO_5 := n0_; have BK201 := n1_; have HB := n2_; have BK220 := n3_; have GW220 := n4_; have GE220 := n5_; have NB201_220 := n6_; have NB220_201 := n7_; clear n0_ n1_ n2_ n3_ n4_ n5_ n6_ n7_; clear hb hbox hg; have hnb77 := NB220_201.out; have hnc77 := NB201_220.out; obtain ⟨hcz78_0, hcz78_1, hfz78_0, hfz78_1⟩ := blk2_ BK220.out; obtain ⟨hcz79_0, hcz79_1, hfz79_0, hfz79_1⟩ := blk2_ BK201.out) | ((with_reducible refine gate_callee (f := 79) rfl ?_); refine goesL_ (some 60) rfl rfl Try.func79 (by kernel_rfl) rfl #[.agg #[.string ((rd_T41 l0 x54_3).f0), .string ((rd_T41 l0 x54_3).f1)], .agg #[.string x202000_1, .string x202001_1]] rfl sa_ ?_; (with_reducible refine (conductorref09_touches.calls ((rd_T41 l0 x54_3).f0) ((rd_T41 l0 x54_3).f1) x202000_1 x202001_1 false _ A59.out).mono ?_); rintro e w80 ⟨rfl, hb⟩; refine ⟨_, rfl, ?_⟩; have n0_ := Aside0.mk (Kd.R_below (by exact (Kd.R_mono (Kd.R_far (p := ⟨gb220, 1, none⟩) (Kd.R_far (p := ⟨gb220, 0, none⟩) (Kd.R_mono HO_5.out (fun k_ hk => (⟨hk, hk.2⟩ : _ ∧ k_ ≠ gb220))) (fun _ hk => hk.2) (.string ((rd_T41 l0 x54_3).f0))) (fun _ hk => hk.2) (.string ((rd_T41 l0 x54_3).f1))) (fun _ h_ => h_.1))) hb); have n1_ := Aside0.mk (blk_below (g := gb201) (o := .cells #[.string x202000_1, .string x202001_1] 41 (0, 0)) (by (with_reducible repeat (first | refine blk_drewN ?_ _ | refine blk_drew ?_ | refine blk_alloc ?_ _)); refine blk_far ?_ NB201_220.out _; (with_reducible repeat (first | refine blk_drewN ?_ _ | refine blk_drew ?_ | refine blk_alloc ?_ _)); refine blk_far ?_ NB201_220.out _; (with_reducible repeat (first | refine blk_drewN ?_ _ | refine blk_drew ?_ | refine blk_alloc ?_ _)); exact BK201.out) hb); have n2_ := Aside0.mk (blk_below (g := gb220) (o := .cells #[.string ((rd_T41 l0 x54_3).f0), .string ((rd_T41 l0 x54_3).f1)] 41 (0, 0)) (by (with_reducible repeat (first | refine blk_drewN ?_ _ | refine blk_drew ?_ | refine blk_alloc ?_ _)); refine blk_put (cs := #[.string ((rd_T41 l0 x54_3).f0), .string (⟨#[]⟩ : ByteArray)]) ?_ 1 _ rfl; refine blk_put (cs := #[.string (⟨#[]⟩ : ByteArray), .string (⟨#[]⟩ : ByteArray)]) ?_ 0 _ rfl; exact BK220.out) hb); have n3_ := Aside0.mk (below_step bl_ hb); clear HO_5; clear BK201; clear BK220; clear HB; have HO_5 := n0_; have BK201 := n1_; have BK220 := n2_; have HB := n3_; clear n0_ n1_ n2_ n3_; (try clear hb); (try clear hb2); (try clear hk); (try clear hi); obtain ⟨hcz81_0, hcz81_1, hfz81_0, hfz81_1⟩ := blk2_ BK220.out; obtain ⟨hcz82_0, hcz82_1, hfz82_0, hfz82_1⟩ := blk2_ BK201.out))
               go_roundg k3
               case measure => have := HK1.out; have := HK2.out; have := HK3.out; omega
               case rel => exact ⟨(x5_3), (wrap64 (x54_3 + 1)), (by first | rfl | (simp; done) | (simp [*]; done)), H', ⟨by have := HK1.out; have := HK2.out; have := HK3.out; omega⟩, ⟨by exact Kd.R_mono HO_5.out (fun _ hk => hk.1)⟩, ⟨by (with_reducible repeat (first | refine blk_drewN ?_ _ | refine blk_drew ?_ | refine blk_alloc ?_ _)); exact BK201.out⟩, ⟨bl_⟩⟩
            ·rw [if_neg c58] at H
             exact absurd H (by simp)
           ·rw [if_neg c57] at H
            exact absurd H (by simp)
          ·rw [if_neg c56] at H
           have c56b0 : decide (x54_3 < (l0.length : Int)) = false := decide_eq_false c56
           clear c56; obtain rfl := Option.some.inj H
           go_wp2
           go_ret
           exact ⟨_, by first | rfl | (simp [errW_none, errW_some] <;> rfl) | (simp [*, errW_none, errW_some] <;> rfl), by exact Kd.R_mono HO_5.out (fun _ hk => trivial), bl_⟩
       ·rw [if_neg c53] at H
        exact absurd H (by simp)
def conductorref09_Join.l0 : Nat → List (S41) → List (S41) → Int → Int → Option ((List (S41)))
 | 0, _, _, _, _ => none
 | k + 1, x5, x13, x14, x15 => if x15 < x14 then (if 0 ≤ x15 then (if x15 < (x13.length : Int) then ((conductorref09_Right.f ((rd_T41 x13 x15).f0) ((rd_T41 x13 x15).f1)).bind fun t239 => (if t239 = true then ((conductorref09_put.f k x5 ((rd_T41 x13 x15).f0) ((rd_T41 x13 x15).f1)).bind fun t240 => (conductorref09_Join.l0 k t240 x13 x14 (wrap64 (x15 + 1)))) else (conductorref09_Join.l0 k x5 x13 x14 (wrap64 (x15 + 1))))) else (none)) else (none)) else (some x5)
def conductorref09_Join.f (k : Nat) (l0 : List (S41)) (l1 : List (S41)) : Option ((List (S41))) := (some (([] : List (S41)) : List (S41))).bind fun y228 => (if y228.length + l0.length < 4398046511104 then ((some (y228 ++ l0 : List (S41))).bind fun y231 => (if y231.length + l1.length < 4398046511104 then ((some (y231 ++ l1 : List (S41))).bind fun y234 => (conductorref09_Join.l0 k (([] : List (S41))) y234 (y234.length : Int) 0)) else (none))) else (none))
set_option maxHeartbeats 8000000 in
set_option maxRecDepth 100000 in
theorem conductorref09_Join.calls (k : Nat) (A0 : Option Addr) (c0 : Nat) (l0 : List (S41)) (A1 : Option Addr) (c1 : Nat) (l1 : List (S41)) (r : List (S41)) (w : World) (hr0 : Kd.C k41 w A0 l0.length l0) (hc0 : l0.length ≤ c0) (hr1 : Kd.C k41 w A1 l1.length l1) (hc1 : l1.length ≤ c1) (h : conductorref09_Join.f k l0 l1 = some r) :
  Calls Try.prog 40 #[.slice A0 l0.length c0, .slice A1 l1.length c1] w fun e w' => ∃ v0_ : Value, e = .returned (v0_) ∧ Kd.R k41 41 w' w.heap.size (fun _ => True) v0_ r ∧ Below w.heap.size w w' := by
 have hu41 := Try.underlying41
 have HR0 := Aside0.mk hr0; have HC0 := Aside0.mk hc0; clear hr0 hc0; have HR1 := Aside0.mk hr1; have HC1 := Aside0.mk hc1; clear hr1 hc1
 have HB := Aside0.mk (Below.refl w.heap.size w)
 have H : ((some (([] : List (S41)) : List (S41))).bind fun y228 => (if y228.length + l0.length < 4398046511104 then ((some (y228 ++ l0 : List (S41))).bind fun y231 => (if y231.length + l1.length < 4398046511104 then ((some (y231 ++ l1 : List (S41))).bind fun y234 => (conductorref09_Join.l0 k (([] : List (S41))) y234 (y234.length : Int) 0)) else (none))) else (none))) = some r := h
 clear h
 obtain ⟨y225, hy225⟩ : ∃ y_ : List (S41), y_ = (([] : List (S41))) := ⟨_, rfl⟩
 replace H : ((some (([] : List (S41)) : List (S41))).bind fun y228 => (if y228.length + l0.length < 4398046511104 then ((some (y228 ++ l0 : List (S41))).bind fun y231 => (if y231.length + l1.length < 4398046511104 then ((some (y231 ++ l1 : List (S41))).bind fun y234 => (conductorref09_Join.l0 k y225 y234 (y234.length : Int) 0)) else (none))) else (none))) = some r := by first | (rw [hy225]; with_reducible exact H) | (have H2_ := (Option.bind_some _ _).symm.trans H; rw [hy225]; with_reducible exact H2_) | (have H2_ := (Option.bind_some _ _).symm.trans H; with_reducible exact H2_) | with_reducible exact H | (rw [hy225]; exact H) | exact H
 have Ny225 := Aside0.mk hy225; clear hy225
 obtain ⟨y228, hy228⟩ : ∃ y_ : List (S41), y_ = (([] : List (S41))) := ⟨_, rfl⟩
 replace H : (if y228.length + l0.length < 4398046511104 then ((some (y228 ++ l0 : List (S41))).bind fun y231 => (if y231.length + l1.length < 4398046511104 then ((some (y231 ++ l1 : List (S41))).bind fun y234 => (conductorref09_Join.l0 k y225 y234 (y234.length : Int) 0)) else (none))) else (none)) = some r := by first | (rw [hy228]; with_reducible exact H) | (have H2_ := (Option.bind_some _ _).symm.trans H; rw [hy228]; with_reducible exact H2_) | (have H2_ := (Option.bind_some _ _).symm.trans H; with_reducible exact H2_) | with_reducible exact H | (rw [hy228]; exact H) | exact H
 have Ny228 := Aside0.mk hy228; clear hy228
 by_cases c3 : y228.length + l0.length < 4398046511104
 ·rw [if_pos c3] at H
  have LMc3 := Aside0.mk c3; clear c3
  obtain ⟨y231, hy231⟩ : ∃ y_ : List (S41), y_ = (y228 ++ l0) := ⟨_, rfl⟩
  replace H : (if y231.length + l1.length < 4398046511104 then ((some (y231 ++ l1 : List (S41))).bind fun y234 => (conductorref09_Join.l0 k y225 y234 (y234.length : Int) 0)) else (none)) = some r := by first | (rw [hy231]; with_reducible exact H) | (have H2_ := (Option.bind_some _ _).symm.trans H; rw [hy231]; with_reducible exact H2_) | (have H2_ := (Option.bind_some _ _).symm.trans H; with_reducible exact H2_) | with_reducible exact H | (rw [hy231]; exact H) | exact H
  have Ny231 := Aside0.mk hy231; clear hy231
  by_cases c4 : y231.length + l1.length < 4398046511104
  ·rw [if_pos c4] at H
   have LMc4 := Aside0.mk c4; clear c4
   obtain ⟨y234, hy234⟩ : ∃ y_ : List (S41), y_ = (y231 ++ l1) := ⟨_, rfl⟩
   replace H : (conductorref09_Join.l0 k y225 y234 (y234.length : Int) 0) = some r := by first | (rw [hy234]; with_reducible exact H) | (have H2_ := (Option.bind_some _ _).symm.trans H; rw [hy234]; with_reducible exact H2_) | (have H2_ := (Option.bind_some _ _).symm.trans H; with_reducible exact H2_) | with_reducible exact H | (rw [hy234]; exact H) | exact H
   have Ny234 := Aside0.mk hy234; clear hy234; have H' := Aside0.mk H; clear H
   go_enter Try.func40, Try.ntmps40
   go_wp2_with (first | ((with_reducible refine gate_dst (N := 8) rfl ?_); refine Kd.R_lit k41 _ 41 ?hg (N := 8) ?hd (xs := ([] : List (S41))) (inner := []) (ok := fun _ => True) (okp := fun _ => True) ?hr ?hp (fun _ hk => hk) trivial (Below.refl _ _) (Nat.le_refl _) (by simp) ?_; (case hd => rfl); (case hg => rfl); (case hr => first | (go_simp; done) | (go_simp; rfl)); (case hp => exact (Reps.none _ _)); intro v226 w5 ho6 hb hg_ hnew_; clear hg_ hnew_; (first | rw [← Ny225.out] at ho6 | (simp only [Int.reduceToNat] at ho6; rw [← Ny225.out] at ho6)); have n0_ := Aside0.mk (Kd.R_lower ho6 (below_size bl_)); have n1_ := Aside0.mk (below_step bl_ hb); clear HB; have HO227 := n0_; have HB := n1_; clear n0_ n1_; clear hb ho6) | ((with_reducible refine gate_dst (N := 9) rfl ?_); refine Kd.R_lit k41 _ 41 ?hg (N := 9) ?hd (xs := ([] : List (S41))) (inner := []) (ok := fun _ => True) (okp := fun _ => True) ?hr ?hp (fun _ hk => hk) trivial (Below.refl _ _) (Nat.le_refl _) (by simp) ?_; (case hd => rfl); (case hg => rfl); (case hr => first | (go_simp; done) | (go_simp; rfl)); (case hp => exact (Reps.none _ _)); intro v229 w7 ho8 hb hg_ hnew_; clear hg_ hnew_; (first | rw [← Ny228.out] at ho8 | (simp only [Int.reduceToNat] at ho8; rw [← Ny228.out] at ho8)); have n0_ := Aside0.mk (Kd.R_elder' (by exact HO227.out) (Kd.R_base ho8) hb); have n1_ := Aside0.mk (Kd.R_lower (Kd.R_new' ho8 (Kd.R_lt (by exact HO227.out))) (below_size bl_)); have n2_ := Aside0.mk (below_step bl_ hb); clear HO227; clear HB; have HO227 := n0_; have HO230 := n1_; have HB := n2_; clear n0_ n1_ n2_; clear hb ho8) | ((with_reducible refine gate_builtin (b := .append) (xs := #[.tmp 9, .tmp 10]) rfl ?_); at_builtin; refine Kd.R_append_rows k41 (w0 := w) w.heap.size rfl (.tmp 9) (.tmp 10) 24 41 (.agg #[(.string ⟨#[]⟩), (.string ⟨#[]⟩)]) 32 rfl Try.underlying24 info41 rfl (by decide) (by omega) v229 y228 l0 _ _ _ (fun k_ => some k_ ≠ (v226 : Value).ownBlock) (fun _ => False) rfl rfl ?aO ?aR (fun _ _ h => h) (fun _ h => h.elim) ?aF ?aB ?aS ?aL ?_; (case aR => repeat (first | exact (Kd.C_below HR0.out HB.out) | (with_reducible refine Kd.C_alloc ?_ _) | (with_reducible refine Kd.C_drewN ?_ _) | (with_reducible refine Kd.C_drew ?_))); (case aB => exact bl_); (case aF => exact (fun k_ hk => Kd.fresh' (Kd.R_lt (by exact HO227.out)) k_ hk)); (case aO => exact (by exact Kd.R_mono HO230.out (fun _ hk => hk.2))); (case aS => exact (below_size bl_)); (case aL => have := LMc3.out; omega); intro v232 w9 ho hb hg hat; rw [← Ny231.out] at ho; have n0_ := Aside0.mk (Kd.R_after (ok := (fun _ => True)) (by exact HO227.out) hg hat); have n1_ := Aside0.mk (hb); have n2_ := Aside0.mk (ho); clear HO227; clear HB; clear HO230; have HO227 := n0_; have HB := n1_; have HO233 := n2_; clear n0_ n1_ n2_; clear ho hb hg hat) | ((with_reducible refine gate_builtin (b := .append) (xs := #[.tmp 11, .tmp 12]) rfl ?_); at_builtin; refine Kd.R_append_rows k41 (w0 := w) w.heap.size rfl (.tmp 11) (.tmp 12) 24 41 (.agg #[(.string ⟨#[]⟩), (.string ⟨#[]⟩)]) 32 rfl Try.underlying24 info41 rfl (by decide) (by omega) v232 y231 l1 _ _ _ (fun k_ => some k_ ≠ (v226 : Value).ownBlock) (fun _ => False) rfl rfl ?aO ?aR (fun _ _ h => h) (fun _ h => h.elim) ?aF ?aB ?aS ?aL ?_; (case aR => repeat (first | exact (Kd.C_below HR1.out HB.out) | (with_reducible refine Kd.C_alloc ?_ _) | (with_reducible refine Kd.C_drewN ?_ _) | (with_reducible refine Kd.C_drew ?_))); (case aB => exact bl_); (case aF => exact (fun k_ hk => Kd.fresh' (Kd.R_lt (by exact HO227.out)) k_ hk)); (case aO => exact (by exact HO233.out)); (case aS => exact (below_size bl_)); (case aL => have := LMc4.out; omega); intro v235 w10 ho hb hg hat; rw [← Ny234.out] at ho; have n0_ := Aside0.mk (Kd.R_after (ok := (fun _ => True)) (by exact HO227.out) hg hat); have n1_ := Aside0.mk (hb); have n2_ := Aside0.mk (ho); clear HO227; clear HB; clear HO233; have HO227 := n0_; have HB := n1_; have HO236 := n2_; clear n0_ n1_ n2_; clear ho hb hg hat; obtain ⟨Ao11, co11, eo11⟩ := Kd.R_slice HO236.out; subst eo11))
   go_loopg [5, 15] k (fun kq v5 v15 w' => ∃ (x5_1 : List (S41)) (x15_1 : Int), v15 = .int .i64 x15_1 ∧ Aside0 (conductorref09_Join.l0 kq x5_1 y234 (y234.length : Int) x15_1 = some r) ∧ Aside0 (kq ≤ k) ∧ Aside0 (Kd.R k41 41 w' w.heap.size (fun k_ => some k_ ≠ ((.slice Ao11 y234.length co11) : Value).ownBlock) v5 x5_1) ∧ Aside0 (Kd.R k41 41 w' w.heap.size (fun k_ => some k_ ≠ (v5 : Value).ownBlock) (.slice Ao11 y234.length co11) y234) ∧ Aside0 (Below w.heap.size w w'))
   case atStart => exact ⟨(y225), (0), (by first | rfl | (simp; done) | (simp [*]; done)), H', ⟨Nat.le_refl _⟩, ⟨by exact Kd.R_mono HO227.out (fun _ hk => hk.2)⟩, ⟨by exact HO236.out⟩, ⟨bl_⟩⟩
   case round =>
    clear H'; obtain ⟨x5_1, x15_1, rfl, HA, HK1, HO_5, HO_13, HB⟩ := hrel
    cases gk with
    | zero => exact absurd HA.out (by simp [conductorref09_Join.l0])
    | succ k1 =>
     have H := HA.out
     clear HA
     simp only [conductorref09_Join.l0] at H
     by_cases c12 : x15_1 < (y234.length : Int)
     ·rw [if_pos c12] at H
      have c12b0 : decide (x15_1 < (y234.length : Int)) = true := decide_eq_true c12
      clear c12
      by_cases c13 : 0 ≤ x15_1
      ·rw [if_pos c13] at H
       have c13b0 : decide (0 ≤ x15_1) = true := decide_eq_true c13
       clear c13
       by_cases c14 : x15_1 < (y234.length : Int)
       ·rw [if_pos c14] at H
        have c14b0 : decide (x15_1 < (y234.length : Int)) = true := decide_eq_true c14
        clear c14; replace H := Option.bind_eq_some_iff.mp H; obtain ⟨t239, A150, H⟩ := H
        replace H : (if t239 = true then ((conductorref09_put.f k1 x5_1 ((rd_T41 y234 x15_1).f0) ((rd_T41 y234 x15_1).f1)).bind fun t240 => (conductorref09_Join.l0 k1 t240 y234 (y234.length : Int) (wrap64 (x15_1 + 1)))) else (conductorref09_Join.l0 k1 x5_1 y234 (y234.length : Int) (wrap64 (x15_1 + 1)))) = some r := H
        have A15 := Aside0.mk A150; clear A150
        by_cases c16 : t239 = true
        ·subst c16
         have H1 : ((conductorref09_put.f k1 x5_1 ((rd_T41 y234 x15_1).f0) ((rd_T41 y234 x15_1).f1)).bind fun t240 => (conductorref09_Join.l0 k1 t240 y234 (y234.length : Int) (wrap64 (x15_1 + 1)))) = some r := by rw [if_pos rfl] at H; exact H
         clear H; have H := H1; clear H1; replace H := Option.bind_eq_some_iff.mp H; obtain ⟨t240, A170, H⟩ := H
         replace H : (conductorref09_Join.l0 k1 t240 y234 (y234.length : Int) (wrap64 (x15_1 + 1))) = some r := H
         have A17 := Aside0.mk A170; clear A170; have H' := Aside0.mk H; clear H
         have p237 : 0 ≤ (x15_1 : Int) := od_
         have q237 : x15_1 < (y234.length : Int) := od_
         obtain ⟨ad237, e237, hx237_0, hx237_1⟩ := at_T41 (Kd.R_reads' HO_13.out).2.2 x15_1 p237 q237
         cases e237; replace p237 := eq_true p237; replace q237 := eq_true q237
         go_wp2_with (first | ((with_reducible refine gate_dst (N := 7) rfl ?_); refine box_event ?hg (N := 7) ?hd (cs := #[.string (⟨#[]⟩ : ByteArray), .string (⟨#[]⟩ : ByteArray)]) (t := 41) ?hr ?_; (case hd => rfl); (case hg => rfl); (case hr => first | (go_simp; done) | (go_simp; rfl)); intro gb238 hg w18 hbox hb; have n0_ := Aside0.mk (Kd.R_below (Kd.R_elderB (by exact HO_5.out) gb238 (Nat.le_of_eq hg.symm)) hb); have n1_ := Aside0.mk (Kd.R_below (Kd.R_elderB (by exact HO_13.out) gb238 (Nat.le_of_eq hg.symm)) hb); have n2_ := Aside0.mk (below_step bl_ hb); have n3_ := Aside0.mk (hbox); have n4_ := Aside0.mk (bsz_ hg : w.heap.size ≤ gb238); have n5_ := Aside0.mk (bsz_ hg : w.heap.size ≤ gb238); clear HO_5; clear HO_13; clear HB; have HO_5 := n0_; have HO_13 := n1_; have HB := n2_; have BK238 := n3_; have GW238 := n4_; have GE238 := n5_; clear n0_ n1_ n2_ n3_ n4_ n5_; clear hb hbox hg; obtain ⟨hcz19_0, hcz19_1, hfz19_0, hfz19_1⟩ := blk2_ BK238.out) | ((with_reducible refine gate_callee (f := 31) rfl ?_); refine goesL_ (some 20) rfl rfl Try.func31 (by kernel_rfl) rfl #[.agg #[.string ((rd_T41 y234 x15_1).f0), .string ((rd_T41 y234 x15_1).f1)]] rfl sa_ ?_; (with_reducible refine (conductorref09_Right.calls ((rd_T41 y234 x15_1).f0) ((rd_T41 y234 x15_1).f1) true _ A15.out).mono ?_); rintro e w20 ⟨rfl, hb⟩; refine ⟨_, rfl, ?_⟩; have n0_ := Aside0.mk (Kd.R_below (by exact (Kd.R_mono (Kd.R_far (p := ⟨gb238, 1, none⟩) (Kd.R_far (p := ⟨gb238, 0, none⟩) (Kd.R_mono HO_5.out (fun k_ hk => (⟨hk, hk.2⟩ : _ ∧ k_ ≠ gb238))) (fun _ hk => hk.2) (.string ((rd_T41 y234 x15_1).f0))) (fun _ hk => hk.2) (.string ((rd_T41 y234 x15_1).f1))) (fun _ h_ => h_.1))) hb); have n1_ := Aside0.mk (Kd.R_below (by exact (Kd.R_mono (Kd.R_far (p := ⟨gb238, 1, none⟩) (Kd.R_far (p := ⟨gb238, 0, none⟩) (Kd.R_mono HO_13.out (fun k_ hk => (⟨hk, hk.2⟩ : _ ∧ k_ ≠ gb238))) (fun _ hk => hk.2) (.string ((rd_T41 y234 x15_1).f0))) (fun _ hk => hk.2) (.string ((rd_T41 y234 x15_1).f1))) (fun _ h_ => h_.1))) hb); have n2_ := Aside0.mk (blk_below (g := gb238) (o := .cells #[.string ((rd_T41 y234 x15_1).f0), .string ((rd_T41 y234 x15_1).f1)] 41 (0, 0)) (by (with_reducible repeat (first | refine blk_drewN ?_ _ | refine blk_drew ?_ | refine blk_alloc ?_ _)); refine blk_put (cs := #[.string ((rd_T41 y234 x15_1).f0), .string (⟨#[]⟩ : ByteArray)]) ?_ 1 _ rfl; refine blk_put (cs := #[.string (⟨#[]⟩ : ByteArray), .string (⟨#[]⟩ : ByteArray)]) ?_ 0 _ rfl; exact BK238.out) hb); have n3_ := Aside0.mk (below_step bl_ hb); clear HO_5; clear HO_13; clear BK238; clear HB; have HO_5 := n0_; have HO_13 := n1_; have BK238 := n2_; have HB := n3_; clear n0_ n1_ n2_ n3_; (try clear hb); (try clear hb2); (try clear hk); (try clear hi); obtain ⟨hcz21_0, hcz21_1, hfz21_0, hfz21_1⟩ := blk2_ BK238.out; obtain ⟨Ao22, co22, eo22⟩ := Kd.R_slice HO_5.out; subst eo22) | ((with_reducible refine gate_callee (f := 69) rfl ?_); refine goesL_ (some 23) rfl rfl Try.func69 (by kernel_rfl) rfl #[.slice Ao22 x5_1.length co22, .agg #[.string ((rd_T41 y234 x15_1).f0), .string ((rd_T41 y234 x15_1).f1)]] rfl sa_ ?_; (with_reducible refine (conductorref09_put.calls k1 _ _ x5_1 ((rd_T41 y234 x15_1).f0) ((rd_T41 y234 x15_1).f1) t240 _ ?side1 ?side2 A17.out).mono ?_); (case side1 => exact (Kd.R_reads' HO_5.out).2.2); (case side2 => exact (Kd.R_reads' HO_5.out).2.1); rintro e w23 ⟨v241, rfl, ho0, hb⟩; refine ⟨_, rfl, ?_⟩; have n0_ := Aside0.mk (Kd.R_elder' (by exact HO_5.out) (Kd.R_base ho0) hb); have n1_ := Aside0.mk (Kd.R_elder' (by exact HO_13.out) (Kd.R_base ho0) hb); have n2_ := Aside0.mk (Kd.R_lower (Kd.R_newB (Kd.R_new' (Kd.R_new' ho0 (Kd.R_lt (by exact HO_5.out))) (Kd.R_lt (by exact HO_13.out))) (g := gb238) (o := .cells #[.string ((rd_T41 y234 x15_1).f0), .string ((rd_T41 y234 x15_1).f1)] 41 (0, 0)) (by (with_reducible repeat (first | refine blk_drewN ?_ _ | refine blk_drew ?_ | refine blk_alloc ?_ _)); exact BK238.out)) (below_size bl_)); have n3_ := Aside0.mk (blk_below (g := gb238) (o := .cells #[.string ((rd_T41 y234 x15_1).f0), .string ((rd_T41 y234 x15_1).f1)] 41 (0, 0)) (by (with_reducible repeat (first | refine blk_drewN ?_ _ | refine blk_drew ?_ | refine blk_alloc ?_ _)); exact BK238.out) hb); have n4_ := Aside0.mk (below_step bl_ hb); clear HO_5; clear HO_13; clear BK238; clear HB; have HO_5 := n0_; have HO_13 := n1_; have HO242 := n2_; have BK238 := n3_; have HB := n4_; clear n0_ n1_ n2_ n3_ n4_; (try clear hb); (try clear hb2); (try clear hk); (try clear hi); (try clear ho0)))
         go_roundg k1
         case measure => have := HK1.out; omega
         case rel => exact ⟨(t240), (wrap64 (x15_1 + 1)), (by first | rfl | (simp; done) | (simp [*]; done)), H', ⟨by have := HK1.out; omega⟩, ⟨by exact Kd.R_mono HO242.out (fun _ hk => hk.1.2)⟩, ⟨by exact Kd.R_mono HO_13.out (fun _ hk => hk.2)⟩, ⟨bl_⟩⟩
        ·replace c16 := Bool.eq_false_iff.mpr c16
         subst c16
         have H1 : (conductorref09_Join.l0 k1 x5_1 y234 (y234.length : Int) (wrap64 (x15_1 + 1))) = some r := by rw [if_neg (show ¬ (false = true) by decide)] at H; exact H
         clear H; have H := H1; clear H1; have H' := Aside0.mk H; clear H
         have p237 : 0 ≤ (x15_1 : Int) := od_
         have q237 : x15_1 < (y234.length : Int) := od_
         obtain ⟨ad237, e237, hx237_0, hx237_1⟩ := at_T41 (Kd.R_reads' HO_13.out).2.2 x15_1 p237 q237
         cases e237; replace p237 := eq_true p237; replace q237 := eq_true q237
         go_wp2_with (first | ((with_reducible refine gate_dst (N := 7) rfl ?_); refine box_event ?hg (N := 7) ?hd (cs := #[.string (⟨#[]⟩ : ByteArray), .string (⟨#[]⟩ : ByteArray)]) (t := 41) ?hr ?_; (case hd => rfl); (case hg => rfl); (case hr => first | (go_simp; done) | (go_simp; rfl)); intro gb238 hg w24 hbox hb; have n0_ := Aside0.mk (Kd.R_below (Kd.R_elderB (by exact HO_5.out) gb238 (Nat.le_of_eq hg.symm)) hb); have n1_ := Aside0.mk (Kd.R_below (Kd.R_elderB (by exact HO_13.out) gb238 (Nat.le_of_eq hg.symm)) hb); have n2_ := Aside0.mk (below_step bl_ hb); have n3_ := Aside0.mk (hbox); have n4_ := Aside0.mk (bsz_ hg : w.heap.size ≤ gb238); have n5_ := Aside0.mk (bsz_ hg : w.heap.size ≤ gb238); clear HO_5; clear HO_13; clear HB; have HO_5 := n0_; have HO_13 := n1_; have HB := n2_; have BK238 := n3_; have GW238 := n4_; have GE238 := n5_; clear n0_ n1_ n2_ n3_ n4_ n5_; clear hb hbox hg; obtain ⟨hcz25_0, hcz25_1, hfz25_0, hfz25_1⟩ := blk2_ BK238.out) | ((with_reducible refine gate_callee (f := 31) rfl ?_); refine goesL_ (some 20) rfl rfl Try.func31 (by kernel_rfl) rfl #[.agg #[.string ((rd_T41 y234 x15_1).f0), .string ((rd_T41 y234 x15_1).f1)]] rfl sa_ ?_; (with_reducible refine (conductorref09_Right.calls ((rd_T41 y234 x15_1).f0) ((rd_T41 y234 x15_1).f1) false _ A15.out).mono ?_); rintro e w26 ⟨rfl, hb⟩; refine ⟨_, rfl, ?_⟩; have n0_ := Aside0.mk (Kd.R_below (by exact (Kd.R_mono (Kd.R_far (p := ⟨gb238, 1, none⟩) (Kd.R_far (p := ⟨gb238, 0, none⟩) (Kd.R_mono HO_5.out (fun k_ hk => (⟨hk, hk.2⟩ : _ ∧ k_ ≠ gb238))) (fun _ hk => hk.2) (.string ((rd_T41 y234 x15_1).f0))) (fun _ hk => hk.2) (.string ((rd_T41 y234 x15_1).f1))) (fun _ h_ => h_.1))) hb); have n1_ := Aside0.mk (Kd.R_below (by exact (Kd.R_mono (Kd.R_far (p := ⟨gb238, 1, none⟩) (Kd.R_far (p := ⟨gb238, 0, none⟩) (Kd.R_mono HO_13.out (fun k_ hk => (⟨hk, hk.2⟩ : _ ∧ k_ ≠ gb238))) (fun _ hk => hk.2) (.string ((rd_T41 y234 x15_1).f0))) (fun _ hk => hk.2) (.string ((rd_T41 y234 x15_1).f1))) (fun _ h_ => h_.1))) hb); have n2_ := Aside0.mk (blk_below (g := gb238) (o := .cells #[.string ((rd_T41 y234 x15_1).f0), .string ((rd_T41 y234 x15_1).f1)] 41 (0, 0)) (by (with_reducible repeat (first | refine blk_drewN ?_ _ | refine blk_drew ?_ | refine blk_alloc ?_ _)); refine blk_put (cs := #[.string ((rd_T41 y234 x15_1).f0), .string (⟨#[]⟩ : ByteArray)]) ?_ 1 _ rfl; refine blk_put (cs := #[.string (⟨#[]⟩ : ByteArray), .string (⟨#[]⟩ : ByteArray)]) ?_ 0 _ rfl; exact BK238.out) hb); have n3_ := Aside0.mk (below_step bl_ hb); clear HO_5; clear HO_13; clear BK238; clear HB; have HO_5 := n0_; have HO_13 := n1_; have BK238 := n2_; have HB := n3_; clear n0_ n1_ n2_ n3_; (try clear hb); (try clear hb2); (try clear hk); (try clear hi)))
         go_roundg k1
         case measure => have := HK1.out; omega
         case rel => exact ⟨(x5_1), (wrap64 (x15_1 + 1)), (by first | rfl | (simp; done) | (simp [*]; done)), H', ⟨by have := HK1.out; omega⟩, ⟨by exact Kd.R_mono HO_5.out (fun _ hk => hk.1)⟩, ⟨by exact Kd.R_mono HO_13.out (fun _ hk => hk.1)⟩, ⟨bl_⟩⟩
       ·rw [if_neg c14] at H
        exact absurd H (by simp)
      ·rw [if_neg c13] at H
       exact absurd H (by simp)
     ·rw [if_neg c12] at H
      have c12b0 : decide (x15_1 < (y234.length : Int)) = false := decide_eq_false c12
      clear c12; obtain rfl := Option.some.inj H
      go_wp2
      go_ret
      exact ⟨_, by first | rfl | (simp [errW_none, errW_some] <;> rfl) | (simp [*, errW_none, errW_some] <;> rfl), by exact Kd.R_mono HO_5.out (fun _ hk => trivial), bl_⟩
  ·rw [if_neg c4] at H
   exact absurd H (by simp)
 ·rw [if_neg c3] at H
  exact absurd H (by simp)
def conductorref09_Fit.l0 : Nat → List (S41) → Int → Option ((List (S41)))
 | 0, _, _ => none
 | k + 1, x0, x1 => if (x0.length : Int) > (mx x1 1) then (if 0 < (x0.length : Int) then (if 1 < (x0.length : Int) then ((conductorref09_cover.f ((rd_T41 x0 0).f0) ((rd_T41 x0 0).f1) ((rd_T41 x0 1).f0) ((rd_T41 x0 1).f1)).bind fun bt248 => ((some (([(⟨bt248.1, bt248.2⟩ : S41)] : List (S41)) : List (S41))).bind fun y250 => (if 2 ≤ (x0.length : Int) then ((some (x0.drop 2 : List (S41))).bind fun y253 => (if y250.length + y253.length < 4398046511104 then (conductorref09_Fit.l0 k (y250 ++ y253) x1) else (none))) else (none)))) else (none)) else (none)) else (some x0)
def conductorref09_Fit.f (k : Nat) (l0 : List (S41)) (a1 : Int) : Option ((List (S41))) := (conductorref09_Join.f k l0 ([] : List (S41))).bind fun t243 => (conductorref09_Fit.l0 k t243 a1)
def conductorref09_Fit.T3 : Bool × List (List Nat × List Nat) := (true, [([], []), ([0], [0]), ([1], [1]), ([], []), ([3], [3]), ([4], [4]), ([2, 5], [2, 5]), ([6], [6]), ([7, 6, 0, 1, 2, 3, 4, 5, 6, 7], [7])])
def conductorref09_Fit.B3 : List Nat := [0, 1, 3, 0, 8, 24, 63, 127, 255]
theorem conductorref09_Fit.tab3 : rtab .any (opsOf Try.f25 3) = conductorref09_Fit.T3 := by kernel_rfl
theorem conductorref09_Fit.bits3 : waitsOk conductorref09_Fit.T3.2 conductorref09_Fit.B3 = true := by kernel_rfl
set_option maxHeartbeats 8000000 in
set_option maxRecDepth 100000 in
theorem conductorref09_Fit.calls (k : Nat) (A0 : Option Addr) (c0 : Nat) (l0 : List (S41)) (a1 : Int) (r : List (S41)) (w : World) (hr0 : Kd.C k41 w A0 l0.length l0) (hc0 : l0.length ≤ c0) (h : conductorref09_Fit.f k l0 a1 = some r) :
  Calls Try.prog 25 #[.slice A0 l0.length c0, .int .i64 a1] w fun e w' => ∃ v0_ : Value, e = .returned (v0_) ∧ Kd.R k41 41 w' w.heap.size (fun _ => True) v0_ r ∧ Below w.heap.size w w' := by
 have hu41 := Try.underlying41
 have HR0 := Aside0.mk hr0; have HC0 := Aside0.mk hc0; clear hr0 hc0
 have HB := Aside0.mk (Below.refl w.heap.size w)
 have H : ((conductorref09_Join.f k l0 ([] : List (S41))).bind fun t243 => (conductorref09_Fit.l0 k t243 a1)) = some r := h
 clear h; replace H := Option.bind_eq_some_iff.mp H; obtain ⟨t243, A30, H⟩ := H
 replace H : (conductorref09_Fit.l0 k t243 a1) = some r := H
 have A3 := Aside0.mk A30; clear A30; have H' := Aside0.mk H; clear H
 go_enter Try.func25, Try.ntmps25
 go_wp2_with (first | ((with_reducible refine gate_callee (f := 40) rfl ?_); refine goesL_ (some 7) rfl rfl Try.func40 (by kernel_rfl) rfl #[.slice A0 l0.length c0, .slice none 0 0] rfl sa_ ?_; (refine (conductorref09_Join.calls k _ _ l0 _ _ ([] : List (S41)) t243 _ ?side1 ?side2 ?side3 ?side4 A3.out).mono ?_); (case side1 => exact HR0.out); (case side2 => exact HC0.out); (case side3 => exact Kd.C_nil _ _); (case side4 => exact Nat.le_refl _); rintro e w4 ⟨v244, rfl, ho0, hb⟩; refine ⟨_, rfl, ?_⟩; have n0_ := Aside0.mk (Kd.R_lower ho0 (below_size bl_)); have n1_ := Aside0.mk (below_step bl_ hb); clear HB; have HO245 := n0_; have HB := n1_; clear n0_ n1_; (try clear hb); (try clear hb2); (try clear hk); (try clear hi); (try clear ho0)))
 go_loopg [0] k (fun kq v0 w' => ∃ (x0_1 : List (S41)), Aside0 (conductorref09_Fit.l0 kq x0_1 a1 = some r) ∧ Aside0 (kq ≤ k) ∧ Aside0 (Kd.R k41 41 w' w.heap.size (fun _ => True) v0 x0_1) ∧ Aside0 (Below w.heap.size w w'))
 case atStart => exact ⟨(t243), H', ⟨Nat.le_refl _⟩, ⟨by exact HO245.out⟩, ⟨bl_⟩⟩
 case round =>
  clear H'; obtain ⟨x0_1, HA, HK1, HO_0, HB⟩ := hrel
  cases gk with
  | zero => exact absurd HA.out (by simp [conductorref09_Fit.l0])
  | succ k1 =>
   have H := HA.out
   clear HA
   simp only [conductorref09_Fit.l0] at H
   obtain ⟨ji5, hji5⟩ : ∃ j_ : Int, (mx a1 1) = j_ := ⟨_, rfl⟩
   replace H : (if (x0_1.length : Int) > (ji5) then (if 0 < (x0_1.length : Int) then (if 1 < (x0_1.length : Int) then ((conductorref09_cover.f ((rd_T41 x0_1 0).f0) ((rd_T41 x0_1 0).f1) ((rd_T41 x0_1 1).f0) ((rd_T41 x0_1 1).f1)).bind fun bt248 => ((some (([(⟨bt248.1, bt248.2⟩ : S41)] : List (S41)) : List (S41))).bind fun y250 => (if 2 ≤ (x0_1.length : Int) then ((some (x0_1.drop 2 : List (S41))).bind fun y253 => (if y250.length + y253.length < 4398046511104 then (conductorref09_Fit.l0 k1 (y250 ++ y253) a1) else (none))) else (none)))) else (none)) else (none)) else (some x0_1)) = some r := by first | (rw [hji5] at H; exact H) | (simp only [hji5] at H ⊢; exact H)
   (try rw [hji5] at hji4)
   (try rw [hji5] at hji4w)
   (try (have hji5l : 1 ≤ ji5 := by (rw [← hji5]; unfold mx; (repeat' split) <;> omega)))
   (try (have hji5m : 0 ≤ ji5 := by omega))
   have hji5_ : (if a1 < 1 then 1 else a1) = ji5 := hji5
   by_cases c6 : (x0_1.length : Int) > (ji5)
   ·rw [if_pos c6] at H
    have c6b0 : decide ((ji5) < (x0_1.length : Int)) = true := decide_eq_true c6
    clear c6
    by_cases c7 : 0 < (x0_1.length : Int)
    ·rw [if_pos c7] at H
     have c7b0 : decide (0 < (x0_1.length : Int)) = true := decide_eq_true c7
     have c7b1 : decide (0 < x0_1.length) = true := decide_eq_true (by omega)
     clear c7
     by_cases c8 : 1 < (x0_1.length : Int)
     ·rw [if_pos c8] at H
      have c8b0 : decide (1 < (x0_1.length : Int)) = true := decide_eq_true c8
      have c8b1 : decide (1 < x0_1.length) = true := decide_eq_true (by omega)
      clear c8; replace H := Option.bind_eq_some_iff.mp H; obtain ⟨⟨t248, t249⟩, A90, H⟩ := H
      replace H : ((some (([(⟨t248, t249⟩ : S41)] : List (S41)) : List (S41))).bind fun y250 => (if 2 ≤ (x0_1.length : Int) then ((some (x0_1.drop 2 : List (S41))).bind fun y253 => (if y250.length + y253.length < 4398046511104 then (conductorref09_Fit.l0 k1 (y250 ++ y253) a1) else (none))) else (none))) = some r := H
      have A9 := Aside0.mk A90; clear A90
      obtain ⟨y250, hy250⟩ : ∃ y_ : List (S41), y_ = (([(⟨t248, t249⟩ : S41)] : List (S41))) := ⟨_, rfl⟩
      replace H : (if 2 ≤ (x0_1.length : Int) then ((some (x0_1.drop 2 : List (S41))).bind fun y253 => (if y250.length + y253.length < 4398046511104 then (conductorref09_Fit.l0 k1 (y250 ++ y253) a1) else (none))) else (none)) = some r := by first | (rw [hy250]; with_reducible exact H) | (have H2_ := (Option.bind_some _ _).symm.trans H; rw [hy250]; with_reducible exact H2_) | (have H2_ := (Option.bind_some _ _).symm.trans H; with_reducible exact H2_) | with_reducible exact H | (rw [hy250]; exact H) | exact H
      have Ny250 := Aside0.mk hy250; clear hy250
      by_cases c10 : 2 ≤ (x0_1.length : Int)
      ·rw [if_pos c10] at H
       have c10b0 := eq_true c10
       have c10b1 : decide (2 ≤ (x0_1.length : Int)) = true := decide_eq_true c10
       clear c10
       obtain ⟨y253, hy253⟩ : ∃ y_ : List (S41), y_ = (x0_1.drop 2) := ⟨_, rfl⟩
       replace H : (if y250.length + y253.length < 4398046511104 then (conductorref09_Fit.l0 k1 (y250 ++ y253) a1) else (none)) = some r := by first | (rw [hy253]; with_reducible exact H) | (have H2_ := (Option.bind_some _ _).symm.trans H; rw [hy253]; with_reducible exact H2_) | (have H2_ := (Option.bind_some _ _).symm.trans H; with_reducible exact H2_) | with_reducible exact H | (rw [hy253]; exact H) | exact H
       have Ny253 := Aside0.mk hy253; clear hy253
       by_cases c11 : y250.length + y253.length < 4398046511104
       ·rw [if_pos c11] at H
        have LMc11 := Aside0.mk c11; clear c11
        obtain ⟨y257, hy257⟩ : ∃ y_ : List (S41), y_ = (y250 ++ y253) := ⟨_, rfl⟩
        replace H : (conductorref09_Fit.l0 k1 y257 a1) = some r := by first | (rw [hy257]; with_reducible exact H) | (have H2_ := (Option.bind_some _ _).symm.trans H; rw [hy257]; with_reducible exact H2_) | (have H2_ := (Option.bind_some _ _).symm.trans H; with_reducible exact H2_) | with_reducible exact H | (rw [hy257]; exact H) | exact H
        have Ny257 := Aside0.mk hy257; clear hy257; have H' := Aside0.mk H; clear H; obtain ⟨Ao12, co12, eo12⟩ := Kd.R_slice HO_0.out; subst eo12
        try go_wp2
        have n0_ := Aside0.mk (Kd.R_drew HO_0.out)
        have n1_ := Aside0.mk (below_drew1 HB.out)
        clear HO_0; clear HB; have HO_0 := n0_; have HB := n1_; clear n0_ n1_
        have p246 : 0 ≤ (0 : Int) := (by omega)
        have q246 : 0 < (x0_1.length : Int) := od_
        obtain ⟨ad246, e246, hx246_0, hx246_1⟩ := at_T41 (Kd.R_reads' HO_0.out).2.2 0 p246 q246
        cases e246
        have qi246 : (0 < x0_1.length) = True := eq_true (by omega)
        (try rw [show ((0 : Int)).toNat = 0 from rfl] at hx246_0)
        (try rw [show 0 * 2 = 0 from rfl] at hx246_0)
        (try rw [Addr.add_zero'] at hx246_0)
        (try rw [show ((0 : Int)).toNat = 0 from rfl] at hx246_1)
        (try rw [show 0 * 2 = 0 from rfl] at hx246_1)
        (try rw [Addr.add_zero'] at hx246_1)
        replace p246 := eq_true p246; replace q246 := eq_true q246
        have p247 : 0 ≤ (1 : Int) := (by omega)
        have q247 : 1 < (x0_1.length : Int) := od_
        obtain ⟨ad247, e247, hx247_0, hx247_1⟩ := at_T41 (Kd.R_reads' HO_0.out).2.2 1 p247 q247
        obtain rfl : ad246 = ad247 := (by injection e247)
        (try simp only [show (1 : Int).toNat = 1 from rfl, Nat.reduceMul, Nat.reduceEqDiff, Go.Addr.add, ↓reduceIte] at hx247_0)
        (try simp only [show (1 : Int).toNat = 1 from rfl, Nat.reduceMul, Nat.reduceEqDiff, Go.Addr.add, ↓reduceIte] at hx247_1)
        have qi247 : (1 < x0_1.length) = True := eq_true (by omega)
        (try rw [show ((1 : Int)).toNat = 1 from rfl] at hx247_0)
        (try rw [show 1 * 2 = 2 from rfl] at hx247_0)
        (try rw [show ((1 : Int)).toNat = 1 from rfl] at hx247_1)
        (try rw [show 1 * 2 = 2 from rfl] at hx247_1)
        replace p247 := eq_true p247; replace q247 := eq_true q247
        refine start_ (n := 9) (S := fun w' => w'.cell? ad246 = some (.string ((rd_T41 x0_1 0).f0)) ∧ w'.cell? ⟨ad246.block, ad246.off + 1, none⟩ = some (.string ((rd_T41 x0_1 0).f1)) ∧ w'.cell? ⟨ad246.block, ad246.off + 2, none⟩ = some (.string ((rd_T41 x0_1 1).f0)) ∧ w'.cell? ⟨ad246.block, ad246.off + 2 + 1, none⟩ = some (.string ((rd_T41 x0_1 1).f1))) (ds := []) (fst_ 9 0) (by kernel_rfl) rfl rfl ⟨hx246_0, hx246_1, hx247_0, hx247_1⟩ (fun hHeld => ?_); refine with_tabW conductorref09_Fit.tab3 conductorref09_Fit.bits3 (fun HT_ HW_ => ?_)
        generalize wr.drew = w13 at HO_0 HB hx246_0 hx246_1 hx247_0 hx247_1 hHeld ⊢
        iterate 2 (refine pk_ (v := ?_) (a' := ?_) HT_.out rfl rfl (by kernel_rfl) (fun _ _ _ h => h) (Or.inl ⟨by rfl, ?_⟩) ?_ ?_; rotate_left; (· intro w'; go_simp; with_reducible rfl); rotate_left; (· simp only [Act.put, List.setIfInBounds_toArray, List.set_cons_zero, List.set_cons_succ, i64_w, i32_w]; rfl))
        refine pure_ (i := 3) (N := some 16) (v := ?_) (a' := ?_) #[true, true, false, true, false, false, false, false, false] rfl rfl (any_of HT_.out (by kernel_rfl)) (fun _ _ _ h => h) (Or.inl ⟨by rfl, ?_⟩) ?_ ?_
        rotate_left
        ·intro w'
         go_simp
         with_reducible rfl
        rotate_left
        ·simp only [Act.put, List.setIfInBounds_toArray, List.set_cons_zero, List.set_cons_succ, i64_w, i32_w]
         rfl
        refine pure_ (i := 4) (N := some 17) (v := ?_) (a' := ?_) #[true, true, false, true, true, false, false, false, false] rfl rfl (any_of HT_.out (by kernel_rfl)) (fun _ _ _ h => h) (Or.inl ⟨by rfl, ?_⟩) ?_ ?_
        rotate_left
        ·intro w'
         go_simp
         with_reducible rfl
        rotate_left
        ·simp only [Act.put, List.setIfInBounds_toArray, List.set_cons_zero, List.set_cons_succ, i64_w, i32_w]
         rfl
        refine take_ (i := 2) (N := some 15) (v := ?_) (a' := ?_) (fst_ 9 5) rfl rfl (take_ofW HT_.out HW_.out (by kernel_rfl)) (fun _ _ _ h => h) (Or.inl ⟨by rfl, ?_⟩) hHeld ?_ ?_
        rotate_left
        ·rintro w' ⟨s0, s1, s2, s3⟩
         go_simp
         with_reducible rfl
        rotate_left
        ·simp only [Act.put, List.setIfInBounds_toArray, List.set_cons_zero, List.set_cons_succ, i64_w, i32_w]
         rfl
        refine tk_ (v := ?_) (a' := ?_) HT_.out HW_.out rfl rfl (by kernel_rfl) (fun _ _ _ h => h) (Or.inl ⟨by rfl, ?_⟩) hHeld ?_ ?_
        rotate_left
        ·rintro w' ⟨s0, s1, s2, s3⟩
         go_simp
         with_reducible rfl
        rotate_left
        ·simp only [Act.put, List.setIfInBounds_toArray, List.set_cons_zero, List.set_cons_succ, i64_w, i32_w]
         rfl
        refine one_ (i := 6) (N := some 19) (fst_ 9 7) rfl rfl (one_of HT_.out (by kernel_rfl)) (by decide) (fun K hK => ?_)
        refine goes_ Try.func59 (by kernel_rfl) rfl #[.agg #[.string ((rd_T41 x0_1 0).f0), .string ((rd_T41 x0_1 0).f1)], .agg #[.string ((rd_T41 x0_1 1).f0), .string ((rd_T41 x0_1 1).f1)]] (by rfl) rfl rfl sa_ ?_
        with_reducible refine (conductorref09_cover.calls ((rd_T41 x0_1 0).f0) ((rd_T41 x0_1 0).f1) ((rd_T41 x0_1 1).f0) ((rd_T41 x0_1 1).f1) t248 t249 _ A9.out).mono ?_
        rintro e w14 ⟨rfl, hb⟩
        have HS0_ := (hb.cell (World.block_lt_of_cell? _ _ (hHeld.1))).trans (hHeld.1)
        have HS1_ := (hb.cell (World.block_lt_of_cell? _ _ (hHeld.2.1))).trans (hHeld.2.1)
        have HS2_ := (hb.cell (World.block_lt_of_cell? _ _ (hHeld.2.2.1))).trans (hHeld.2.2.1)
        have HS3_ := (hb.cell (World.block_lt_of_cell? _ _ (hHeld.2.2.2))).trans (hHeld.2.2.2)
        refine ⟨_, rfl, ?_⟩
        have n0_ := Aside0.mk (Kd.R_below (by exact HO_0.out) hb)
        have n1_ := Aside0.mk (below_step bl_ hb)
        clear HO_0; clear HB; have HO_0 := n0_; have HB := n1_; clear n0_ n1_
        (try clear hb)
        (try clear hb2)
        (try clear hk)
        (try clear hi)
        refine hK.out _ _ ⟨HS0_, HS1_, HS2_, HS3_⟩ (fun hHeld => ?_)
        clear hK K; refine norm_ (a' := ?_) ?_ ?_; rotate_left
        ·show Act.put _ (some 19) _ = _
         simp only [Act.put, List.setIfInBounds_toArray, List.set_cons_zero, List.set_cons_succ, i64_w, i32_w]
         rfl
        refine one_ (i := 7) (N := some 20) (fst_ 9 8) rfl rfl (one_of HT_.out (by kernel_rfl)) (by decide) (fun K hK => ?_)
        refine Kd.R_lit_step k41 _ 41 ?hg (N := 20) ?hd (xs := ([(⟨t248, t249⟩ : S41)] : List (S41))) (inner := [.string t248, .string t249]) (ok := fun _ => True) (okp := fun _ => True) ?hr ?hp (fun _ hk => hk) trivial (Below.refl _ _) (Nat.le_refl _) (by simp) ?_; (case hd => rfl); (case hg => rfl); (case hr => first | (go_simp; done) | (go_simp; rfl)); (case hp => exact (Reps.c2 (show Kd.M k41 _ _ _ (⟨t248, t249⟩ : S41) [.string t248, .string t249] from (k41_mkM _ _ _ (⟨t248, t249⟩ : S41) )) (Reps.none _ _)))
        intro v251 w15 ho16 hb hg_ hnew_
        have HS0_ := (hb.cell (World.block_lt_of_cell? _ _ (hHeld.1))).trans (hHeld.1)
        have HS1_ := (hb.cell (World.block_lt_of_cell? _ _ (hHeld.2.1))).trans (hHeld.2.1)
        have HS2_ := (hb.cell (World.block_lt_of_cell? _ _ (hHeld.2.2.1))).trans (hHeld.2.2.1)
        have HS3_ := (hb.cell (World.block_lt_of_cell? _ _ (hHeld.2.2.2))).trans (hHeld.2.2.2)
        clear hg_ hnew_
        (first | rw [← Ny250.out] at ho16 | (simp only [Int.reduceToNat] at ho16; rw [← Ny250.out] at ho16))
        have n0_ := Aside0.mk (Kd.R_elder' (by exact HO_0.out) (Kd.R_base ho16) hb)
        have n1_ := Aside0.mk (Kd.R_lower (Kd.R_new' ho16 (Kd.R_lt (by exact HO_0.out))) (below_size bl_))
        have n2_ := Aside0.mk (below_step bl_ hb)
        clear HO_0; clear HB; have HO_0 := n0_; have HO252 := n1_; have HB := n2_; clear n0_ n1_ n2_; clear hb ho16
        refine hK.out _ _ ⟨HS0_, HS1_, HS2_, HS3_⟩ (fun hHeld => ?_)
        clear hK K; refine norm_ (a' := ?_) ?_ ?_; rotate_left
        ·show Act.put _ (some 20) _ = _
         simp only [Act.put, List.setIfInBounds_toArray, List.set_cons_zero, List.set_cons_succ, i64_w, i32_w]
         rfl
        (refine pk_ (v := ?_) (a' := ?_) HT_.out rfl rfl (by kernel_rfl) (fun _ _ _ h => h) (Or.inl ⟨by rfl, ?_⟩) ?_ ?_; rotate_left; (· intro w'; go_simp; with_reducible rfl); rotate_left; (· simp only [Act.put, List.setIfInBounds_toArray, List.set_cons_zero, List.set_cons_succ, i64_w, i32_w]; rfl))
        refine done_ (done_of HT_.out (by kernel_rfl)) ?_
        have q17 : (2 : Int) ≤ ((x0_1.length : Int) : Int) := od_
        obtain ⟨i017, hi017, _, hsz17, _⟩ := info_parts info41
        have hroom17 : x0_1.length ≤ co12 := (Kd.R_reads' HO_0.out).2.1
        have hC17 : Kd.C k41 _ (some ad246) x0_1.length x0_1 := (Kd.R_reads' HO_0.out).2.2
        have hcut17 := cut_from (P := Try.prog) 24 41 .i64 Try.underlying24 hi017 2 hsz17 (some ad246) x0_1.length co12 2 (by omega) q17
        have hr17 := Kd.C_drop (m := (2 : Int).toNat) (c := co12) hC17 (by omega) hroom17
        obtain ⟨A17, hA17⟩ : ∃ A1, A1 = (if co12 = (2 : Int).toNat then (some ad246) else ((some ad246) : Option Addr).map (·.add ((2 : Int).toNat * 2))) := ⟨_, rfl⟩
        obtain ⟨c17, hc17⟩ : ∃ c1, c1 = co12 - (2 : Int).toNat := ⟨_, rfl⟩
        have hy17 : y253.length = x0_1.length - (2 : Int).toNat := (by rw [Ny253.out, List.length_drop] <;> omega)
        rw [show (x0_1).drop (2 : Int).toNat = y253 from Ny253.out.symm] at hr17
        replace hr17 : Kd.C k41 _ A17 y253.length y253 := (by rw [hA17]; exact hr17)
        rw [← hy17, ← hA17, ← hc17] at hcut17
        have HR256 := Aside0.mk hr17
        have HC256 := Aside0.mk (show y253.length ≤ c17 from by rw [hy17, hc17]; exact Nat.sub_le_sub_right hroom17 _)
        clear hr17 hC17 hroom17 hi017 hsz17 hc17; have KY17 := Aside0.mk hy17; have KA17 := Aside0.mk hA17; clear hy17 hA17
        have KL17 := Aside0.mk (show 2 ≤ x0_1.length from by omega)
        replace q17 := eq_true q17
        try go_wp2_with (first | ((with_reducible refine gate_builtin (b := .append) (xs := #[.tmp 21, .tmp 23]) rfl ?_); at_builtin; refine Kd.R_append_rows k41 (w0 := w) w.heap.size rfl (.tmp 21) (.tmp 23) 24 41 (.agg #[(.string ⟨#[]⟩), (.string ⟨#[]⟩)]) 32 rfl Try.underlying24 info41 rfl (by decide) (by omega) v251 y250 y253 _ _ _ (fun k_ => some k_ ≠ (.slice (some ad246) x0_1.length co12 : Value).ownBlock) (fun _ => False) rfl rfl ?aO ?aR (fun _ _ h => h) (fun _ h => h.elim) ?aF ?aB ?aS ?aL ?_; (case aR => repeat (first | exact HR256.out | (with_reducible refine Kd.C_alloc ?_ _) | (with_reducible refine Kd.C_drewN ?_ _) | (with_reducible refine Kd.C_drew ?_))); (case aB => exact bl_); (case aF => exact (fun k_ hk => Kd.fresh' (Kd.R_lt (by exact HO_0.out)) k_ hk)); (case aO => exact (by exact Kd.R_mono HO252.out (fun _ hk => hk.2))); (case aS => exact (below_size bl_)); (case aL => have := LMc11.out; omega); intro v258 w18 ho hb hg hat; rw [← Ny257.out] at ho; have n0_ := Aside0.mk (Kd.R_after (ok := (fun _ => True)) (by exact HO_0.out) hg hat); have n1_ := Aside0.mk (hb); have n2_ := Aside0.mk ((show Kd.C k41 w18 A17 y253.length y253 from by rw [Ny253.out, KA17.out]; exact Kd.C_drop (m := 2) (c := co12) ((Kd.R_reads' (Kd.R_after (ok := (fun _ => True)) (by exact HO_0.out) hg hat)).2.2) KL17.out ((Kd.R_reads' (Kd.R_after (ok := (fun _ => True)) (by exact HO_0.out) hg hat)).2.1))); have n3_ := Aside0.mk (ho); clear HO_0; clear HB; clear HR256; clear HO252; have HO_0 := n0_; have HB := n1_; have HR256 := n2_; have HO259 := n3_; clear n0_ n1_ n2_ n3_; clear ho hb hg hat))
        go_roundg k1
        case measure => have := HK1.out; omega
        case rel => exact ⟨(y257), H', ⟨by have := HK1.out; omega⟩, ⟨by exact Kd.R_mono HO259.out (fun _ hk => trivial)⟩, ⟨bl_⟩⟩
       ·rw [if_neg c11] at H
        exact absurd H (by simp)
      ·rw [if_neg c10] at H
       exact absurd H (by simp)
     ·rw [if_neg c8] at H
      exact absurd H (by simp)
    ·rw [if_neg c7] at H
     exact absurd H (by simp)
   ·rw [if_neg c6] at H
    have c6b0 : decide ((ji5) < (x0_1.length : Int)) = false := decide_eq_false c6
    clear c6; obtain rfl := Option.some.inj H; obtain ⟨Ao19, co19, eo19⟩ := Kd.R_slice HO_0.out; subst eo19
    go_wp2
    go_ret
    exact ⟨_, by first | rfl | (simp [errW_none, errW_some] <;> rfl) | (simp only [← hji5]; first | rfl | (simp [errW_none, errW_some] <;> rfl)) | (simp [*, errW_none, errW_some] <;> rfl), by exact HO_0.out, bl_⟩
end Go.Proofs.Ytjefihcbhdennaa.S
