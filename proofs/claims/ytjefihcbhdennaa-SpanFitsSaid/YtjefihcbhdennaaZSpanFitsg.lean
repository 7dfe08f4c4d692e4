/- Texts of this session, merged for the law SpanFits: S22, S23, S24, O, SK, SPa, SS. No condition. -/
import Derived.Test.YtjefihcbhdennaaZSpanFitsa
import Derived.Test.YtjefihcbhdennaaZSpanFitse
import Derived.Test.YtjefihcbhdennaaZSpanFitsf
import Derived.Test.YtjefihcbhdennaaZSpanFitsd
import Derived.Deep.Slices
import Derived.ChangeArms
import Derived.WideShapes
import Derived.ChangeAt2
import Derived.Lib.SmallJoins
namespace Go.Proofs.Ytjefihcbhdennaa.S
open Go.RowKit Go.Proofs.YtjefihcbhdennaaW.PrintWords Go.Proofs.YtjefihcbhdennaaW.PrintLast Go.Proofs.YtjefihcbhdennaaW.PrintMore
attribute [local go_sem] max2_int min2_int max2_str min2_str str_leq str_gtr str_geq max_two min_two max_three min_three max_four min_four   -- for this text's walks alone
set_option linter.unusedVariables false
set_option linter.unusedSimpArgs false
def conductorref09_Join.l0 : Nat → List (S41) → List (S41) → Int → Int → Option ((List (S41)))
 | 0, _, _, _, _ => none
 | k + 1, x5, x13, x14, x15 => if x15 < x14 then (if 0 ≤ x15 then (if x15 < (x13.length : Int) then ((conductorref09_Right.f ((rd_T41 x13 x15).f0) ((rd_T41 x13 x15).f1)).bind fun t239 => (if t239 = true then ((conductorref09_put.f k x5 ((rd_T41 x13 x15).f0) ((rd_T41 x13 x15).f1)).bind fun t240 => (conductorref09_Join.l0 k t240 x13 x14 (wrap64 (x15 + 1)))) else (conductorref09_Join.l0 k x5 x13 x14 (wrap64 (x15 + 1))))) else (none)) else (none)) else (some x5)
def conductorref09_Join.f (k : Nat) (l0 : List (S41)) (l1 : List (S41)) : Option ((List (S41))) := (some (([] : List (S41)) : List (S41))).bind fun y228 => (if y228.length + l0.length < 4398046511104 then ((some (y228 ++ l0 : List (S41))).bind fun y231 => (if y231.length + l1.length < 4398046511104 then ((some (y231 ++ l1 : List (S41))).bind fun y234 => (conductorref09_Join.l0 k (([] : List (S41))) y234 (y234.length : Int) 0)) else (none))) else (none))
set_option maxHeartbeats 8000000 in
set_option maxRecDepth 100000 in
theorem conductorref09_Join.calls (k : Nat) (A0 : Option Addr) (c0 : Nat) (l0 : List (S41)) (A1 : Option Addr) (c1 : Nat) (l1 : List (S41)) (r : List (S41)) (w : World) (hr0 : Kd.C k41 w A0 l0.length l0) (hc0 : l0.length ≤ c0) (hr1 : Kd.C k41 w A1 l1.length l1) (hc1 : l1.length ≤ c1) (h : conductorref09_Join.f k l0 l1 = some r) :
  Calls Try.prog 40 #[.slice A0 l0.length c0, .slice A1 l1.length c1] w fun e w' => ∃ v0_ : Value, e = .returned (v0_) ∧ Kd.R k41 41 w' w.heap.size (fun _ => True) v0_ r ∧ Below w.heap.size w w' := by
 have hu41 := Try.underlying41
 have HR0 := Aside0.mk hr0
 have HC0 := Aside0.mk hc0
 clear hr0 hc0
 have HR1 := Aside0.mk hr1
 have HC1 := Aside0.mk hc1
 clear hr1 hc1
 have HB := Aside0.mk (Below.refl w.heap.size w)
 have H : ((some (([] : List (S41)) : List (S41))).bind fun y228 => (if y228.length + l0.length < 4398046511104 then ((some (y228 ++ l0 : List (S41))).bind fun y231 => (if y231.length + l1.length < 4398046511104 then ((some (y231 ++ l1 : List (S41))).bind fun y234 => (conductorref09_Join.l0 k (([] : List (S41))) y234 (y234.length : Int) 0)) else (none))) else (none))) = some r := h
 clear h
 obtain ⟨y225, hy225⟩ : ∃ y_ : List (S41), y_ = (([] : List (S41))) := ⟨_, rfl⟩
 replace H : ((some (([] : List (S41)) : List (S41))).bind fun y228 => (if y228.length + l0.length < 4398046511104 then ((some (y228 ++ l0 : List (S41))).bind fun y231 => (if y231.length + l1.length < 4398046511104 then ((some (y231 ++ l1 : List (S41))).bind fun y234 => (conductorref09_Join.l0 k y225 y234 (y234.length : Int) 0)) else (none))) else (none))) = some r := by first | (rw [hy225]; with_reducible exact H) | (have H2_ := (Option.bind_some _ _).symm.trans H; rw [hy225]; with_reducible exact H2_) | (have H2_ := (Option.bind_some _ _).symm.trans H; with_reducible exact H2_) | with_reducible exact H | (rw [hy225]; exact H) | exact H
 have Ny225 := Aside0.mk hy225
 clear hy225
 obtain ⟨y228, hy228⟩ : ∃ y_ : List (S41), y_ = (([] : List (S41))) := ⟨_, rfl⟩
 replace H : (if y228.length + l0.length < 4398046511104 then ((some (y228 ++ l0 : List (S41))).bind fun y231 => (if y231.length + l1.length < 4398046511104 then ((some (y231 ++ l1 : List (S41))).bind fun y234 => (conductorref09_Join.l0 k y225 y234 (y234.length : Int) 0)) else (none))) else (none)) = some r := by first | (rw [hy228]; with_reducible exact H) | (have H2_ := (Option.bind_some _ _).symm.trans H; rw [hy228]; with_reducible exact H2_) | (have H2_ := (Option.bind_some _ _).symm.trans H; with_reducible exact H2_) | with_reducible exact H | (rw [hy228]; exact H) | exact H
 have Ny228 := Aside0.mk hy228
 clear hy228
 by_cases c3 : y228.length + l0.length < 4398046511104
 ·rw [if_pos c3] at H
  have LMc3 := Aside0.mk c3
  clear c3
  obtain ⟨y231, hy231⟩ : ∃ y_ : List (S41), y_ = (y228 ++ l0) := ⟨_, rfl⟩
  replace H : (if y231.length + l1.length < 4398046511104 then ((some (y231 ++ l1 : List (S41))).bind fun y234 => (conductorref09_Join.l0 k y225 y234 (y234.length : Int) 0)) else (none)) = some r := by first | (rw [hy231]; with_reducible exact H) | (have H2_ := (Option.bind_some _ _).symm.trans H; rw [hy231]; with_reducible exact H2_) | (have H2_ := (Option.bind_some _ _).symm.trans H; with_reducible exact H2_) | with_reducible exact H | (rw [hy231]; exact H) | exact H
  have Ny231 := Aside0.mk hy231
  clear hy231
  by_cases c4 : y231.length + l1.length < 4398046511104
  ·rw [if_pos c4] at H
   have LMc4 := Aside0.mk c4
   clear c4
   obtain ⟨y234, hy234⟩ : ∃ y_ : List (S41), y_ = (y231 ++ l1) := ⟨_, rfl⟩
   replace H : (conductorref09_Join.l0 k y225 y234 (y234.length : Int) 0) = some r := by first | (rw [hy234]; with_reducible exact H) | (have H2_ := (Option.bind_some _ _).symm.trans H; rw [hy234]; with_reducible exact H2_) | (have H2_ := (Option.bind_some _ _).symm.trans H; with_reducible exact H2_) | with_reducible exact H | (rw [hy234]; exact H) | exact H
   have Ny234 := Aside0.mk hy234
   clear hy234
   have H' := Aside0.mk H
   clear H
   go_enter Try.func40, Try.ntmps40
   go_wp2_with (first | ((with_reducible refine gate_dst (N := 8) rfl ?_); refine Kd.R_lit k41 _ 41 ?hg (N := 8) ?hd (xs := ([] : List (S41))) (inner := []) (ok := fun _ => True) (okp := fun _ => True) ?hr ?hp (fun _ hk => hk) trivial (Below.refl _ _) (Nat.le_refl _) (by simp) ?_; (case hd => rfl); (case hg => rfl); (case hr => first | (go_simp; done) | (go_simp; rfl)); (case hp => exact (Reps.none _ _)); intro v226 w5 ho6 hb hg_ hnew_; clear hg_ hnew_; (first | rw [← Ny225.out] at ho6 | (simp only [Int.reduceToNat] at ho6; rw [← Ny225.out] at ho6)); have n0_ := Aside0.mk (Kd.R_lower ho6 (below_size (by repeat (first | (with_reducible first | exact HB.out | apply below_alloc | apply pw_below_drewN | apply below_drew1) | exact HB.out)))); have n1_ := Aside0.mk (below_step (by repeat (first | (with_reducible first | exact HB.out | apply below_alloc | apply pw_below_drewN | apply below_drew1) | exact HB.out)) hb); clear HB; have HO227 := n0_; have HB := n1_; clear n0_ n1_; clear hb ho6) | ((with_reducible refine gate_dst (N := 9) rfl ?_); refine Kd.R_lit k41 _ 41 ?hg (N := 9) ?hd (xs := ([] : List (S41))) (inner := []) (ok := fun _ => True) (okp := fun _ => True) ?hr ?hp (fun _ hk => hk) trivial (Below.refl _ _) (Nat.le_refl _) (by simp) ?_; (case hd => rfl); (case hg => rfl); (case hr => first | (go_simp; done) | (go_simp; rfl)); (case hp => exact (Reps.none _ _)); intro v229 w7 ho8 hb hg_ hnew_; clear hg_ hnew_; (first | rw [← Ny228.out] at ho8 | (simp only [Int.reduceToNat] at ho8; rw [← Ny228.out] at ho8)); have n0_ := Aside0.mk (Kd.R_elder' (by (with_reducible repeat (first | apply Kd.R_alloc | apply Kd.R_drewN | apply Kd.R_drew)); exact HO227.out) (Kd.R_base ho8) hb); have n1_ := Aside0.mk (Kd.R_lower (Kd.R_new' ho8 (Kd.R_lt (by (with_reducible repeat (first | apply Kd.R_alloc | apply Kd.R_drewN | apply Kd.R_drew)); exact HO227.out))) (below_size (by repeat (first | (with_reducible first | exact HB.out | apply below_alloc | apply pw_below_drewN | apply below_drew1) | exact HB.out)))); have n2_ := Aside0.mk (below_step (by repeat (first | (with_reducible first | exact HB.out | apply below_alloc | apply pw_below_drewN | apply below_drew1) | exact HB.out)) hb); clear HO227; clear HB; have HO227 := n0_; have HO230 := n1_; have HB := n2_; clear n0_ n1_ n2_; clear hb ho8) | ((with_reducible refine gate_builtin (b := .append) (xs := #[.tmp 9, .tmp 10]) rfl ?_); at_builtin; refine Kd.R_append_rows k41 (w0 := w) w.heap.size rfl (.tmp 9) (.tmp 10) 24 41 (.agg #[(.string ⟨#[]⟩), (.string ⟨#[]⟩)]) 32 rfl Try.underlying24 info41 rfl (by decide) (by omega) v229 y228 l0 _ _ _ (fun k_ => some k_ ≠ (v226 : Value).ownBlock) (fun _ => False) rfl rfl ?aO ?aR (fun _ _ h => h) (fun _ h => h.elim) ?aF ?aB ?aS ?aL ?_; (case aR => repeat (first | exact (Kd.C_below HR0.out HB.out) | (with_reducible refine Kd.C_alloc ?_ _) | (with_reducible refine Kd.C_drewN ?_ _) | (with_reducible refine Kd.C_drew ?_))); (case aB => exact (by repeat (first | (with_reducible first | exact HB.out | apply below_alloc | apply pw_below_drewN | apply below_drew1) | exact HB.out))); (case aF => exact (fun k_ hk => Kd.fresh' (Kd.R_lt (by (with_reducible repeat (first | apply Kd.R_alloc | apply Kd.R_drewN | apply Kd.R_drew)); exact HO227.out)) k_ hk)); (case aO => exact (by (with_reducible repeat (first | apply Kd.R_alloc | apply Kd.R_drewN | apply Kd.R_drew)); exact Kd.R_mono HO230.out (fun _ hk => hk.2))); (case aS => exact (below_size (by repeat (first | (with_reducible first | exact HB.out | apply below_alloc | apply pw_below_drewN | apply below_drew1) | exact HB.out)))); (case aL => have := LMc3.out; omega); intro v232 w9 ho hb hg hat; rw [← Ny231.out] at ho; have n0_ := Aside0.mk (Kd.R_after (ok := (fun _ => True)) (by (with_reducible repeat (first | apply Kd.R_alloc | apply Kd.R_drewN | apply Kd.R_drew)); exact HO227.out) hg hat); have n1_ := Aside0.mk (hb); have n2_ := Aside0.mk (ho); clear HO227; clear HB; clear HO230; have HO227 := n0_; have HB := n1_; have HO233 := n2_; clear n0_ n1_ n2_; clear ho hb hg hat) | ((with_reducible refine gate_builtin (b := .append) (xs := #[.tmp 11, .tmp 12]) rfl ?_); at_builtin; refine Kd.R_append_rows k41 (w0 := w) w.heap.size rfl (.tmp 11) (.tmp 12) 24 41 (.agg #[(.string ⟨#[]⟩), (.string ⟨#[]⟩)]) 32 rfl Try.underlying24 info41 rfl (by decide) (by omega) v232 y231 l1 _ _ _ (fun k_ => some k_ ≠ (v226 : Value).ownBlock) (fun _ => False) rfl rfl ?aO ?aR (fun _ _ h => h) (fun _ h => h.elim) ?aF ?aB ?aS ?aL ?_; (case aR => repeat (first | exact (Kd.C_below HR1.out HB.out) | (with_reducible refine Kd.C_alloc ?_ _) | (with_reducible refine Kd.C_drewN ?_ _) | (with_reducible refine Kd.C_drew ?_))); (case aB => exact (by repeat (first | (with_reducible first | exact HB.out | apply below_alloc | apply pw_below_drewN | apply below_drew1) | exact HB.out))); (case aF => exact (fun k_ hk => Kd.fresh' (Kd.R_lt (by (with_reducible repeat (first | apply Kd.R_alloc | apply Kd.R_drewN | apply Kd.R_drew)); exact HO227.out)) k_ hk)); (case aO => exact (by (with_reducible repeat (first | apply Kd.R_alloc | apply Kd.R_drewN | apply Kd.R_drew)); exact HO233.out)); (case aS => exact (below_size (by repeat (first | (with_reducible first | exact HB.out | apply below_alloc | apply pw_below_drewN | apply below_drew1) | exact HB.out)))); (case aL => have := LMc4.out; omega); intro v235 w10 ho hb hg hat; rw [← Ny234.out] at ho; have n0_ := Aside0.mk (Kd.R_after (ok := (fun _ => True)) (by (with_reducible repeat (first | apply Kd.R_alloc | apply Kd.R_drewN | apply Kd.R_drew)); exact HO227.out) hg hat); have n1_ := Aside0.mk (hb); have n2_ := Aside0.mk (ho); clear HO227; clear HB; clear HO233; have HO227 := n0_; have HB := n1_; have HO236 := n2_; clear n0_ n1_ n2_; clear ho hb hg hat; obtain ⟨Ao11, co11, eo11⟩ := Kd.R_slice HO236.out; subst eo11))
   go_loopg [5, 15] k (fun kq v5 v15 w' => ∃ (x5_1 : List (S41)) (x15_1 : Int), v15 = .int .i64 x15_1 ∧ Aside0 (conductorref09_Join.l0 kq x5_1 y234 (y234.length : Int) x15_1 = some r) ∧ Aside0 (kq ≤ k) ∧ Aside0 (Kd.R k41 41 w' w.heap.size (fun k_ => some k_ ≠ ((.slice Ao11 y234.length co11) : Value).ownBlock) v5 x5_1) ∧ Aside0 (Kd.R k41 41 w' w.heap.size (fun k_ => some k_ ≠ (v5 : Value).ownBlock) (.slice Ao11 y234.length co11) y234) ∧ Aside0 (Below w.heap.size w w'))
   case atStart => exact ⟨(y225), (0), (by first | rfl | (simp; done) | (simp [*]; done)), H', ⟨Nat.le_refl _⟩, ⟨by (with_reducible repeat (first | apply Kd.R_alloc | apply Kd.R_drewN | apply Kd.R_drew)); exact Kd.R_mono HO227.out (fun _ hk => hk.2)⟩, ⟨by (with_reducible repeat (first | apply Kd.R_alloc | apply Kd.R_drewN | apply Kd.R_drew)); exact HO236.out⟩, ⟨by repeat (first | (with_reducible first | exact HB.out | apply below_alloc | apply pw_below_drewN | apply below_drew1) | exact HB.out)⟩⟩
   case round =>
    clear H'
    try clear c1
    try clear p2
    try clear c3
    try clear c4
    obtain ⟨x5_1, x15_1, rfl, HA, HK1, HO_5, HO_13, HB⟩ := hrel
    cases gk with
    | zero => exact absurd HA.out (by simp [conductorref09_Join.l0])
    | succ k1 =>
     have H := HA.out
     clear HA
     simp only [conductorref09_Join.l0] at H
     by_cases c12 : x15_1 < (y234.length : Int)
     ·rw [if_pos c12] at H
      have c12b0 : decide (x15_1 < (y234.length : Int)) = true := decide_eq_true c12
      clear c12
      by_cases c13 : 0 ≤ x15_1
      ·rw [if_pos c13] at H
       have c13b0 : decide (0 ≤ x15_1) = true := decide_eq_true c13
       clear c13
       by_cases c14 : x15_1 < (y234.length : Int)
       ·rw [if_pos c14] at H
        have c14b0 : decide (x15_1 < (y234.length : Int)) = true := decide_eq_true c14
        clear c14
        replace H := Option.bind_eq_some_iff.mp H
        obtain ⟨t239, A150, H⟩ := H
        replace H : (if t239 = true then ((conductorref09_put.f k1 x5_1 ((rd_T41 y234 x15_1).f0) ((rd_T41 y234 x15_1).f1)).bind fun t240 => (conductorref09_Join.l0 k1 t240 y234 (y234.length : Int) (wrap64 (x15_1 + 1)))) else (conductorref09_Join.l0 k1 x5_1 y234 (y234.length : Int) (wrap64 (x15_1 + 1)))) = some r := H
        have A15 := Aside0.mk A150
        clear A150
        by_cases c16 : t239 = true
        ·subst c16
         have H1 : ((conductorref09_put.f k1 x5_1 ((rd_T41 y234 x15_1).f0) ((rd_T41 y234 x15_1).f1)).bind fun t240 => (conductorref09_Join.l0 k1 t240 y234 (y234.length : Int) (wrap64 (x15_1 + 1)))) = some r := by rw [if_pos rfl] at H; exact H
         clear H
         have H := H1
         clear H1
         replace H := Option.bind_eq_some_iff.mp H
         obtain ⟨t240, A170, H⟩ := H
         replace H : (conductorref09_Join.l0 k1 t240 y234 (y234.length : Int) (wrap64 (x15_1 + 1))) = some r := H
         have A17 := Aside0.mk A170
         clear A170
         have H' := Aside0.mk H
         clear H
         have p237 : 0 ≤ (x15_1 : Int) := of_decide_eq_true (by first | (with_reducible assumption) | assumption)
         have q237 : x15_1 < (y234.length : Int) := of_decide_eq_true (by first | (with_reducible assumption) | assumption)
         obtain ⟨ad237, e237, hx237_0, hx237_1⟩ := at_T41 (Kd.R_reads' HO_13.out).2.2 x15_1 p237 q237
         cases e237
         replace p237 := eq_true p237
         replace q237 := eq_true q237
         go_wp2_with (first | ((with_reducible refine gate_dst (N := 7) rfl ?_); refine box_event ?hg (N := 7) ?hd (cs := #[.string (⟨#[]⟩ : ByteArray), .string (⟨#[]⟩ : ByteArray)]) (t := 41) ?hr ?_; (case hd => rfl); (case hg => rfl); (case hr => first | (go_simp; done) | (go_simp; rfl)); intro gb238 hg w18 hbox hb; have n0_ := Aside0.mk (Kd.R_below (Kd.R_elderB (by (with_reducible repeat (first | apply Kd.R_alloc | apply Kd.R_drewN | apply Kd.R_drew)); exact HO_5.out) gb238 (Nat.le_of_eq hg.symm)) hb); have n1_ := Aside0.mk (Kd.R_below (Kd.R_elderB (by (with_reducible repeat (first | apply Kd.R_alloc | apply Kd.R_drewN | apply Kd.R_drew)); exact HO_13.out) gb238 (Nat.le_of_eq hg.symm)) hb); have n2_ := Aside0.mk (below_step (by repeat (first | (with_reducible first | exact HB.out | apply below_alloc | apply pw_below_drewN | apply below_drew1) | exact HB.out)) hb); have n3_ := Aside0.mk (hbox); have n4_ := Aside0.mk ((by rw [hg]; exact (below_size (by repeat (first | (with_reducible first | exact HB.out | apply below_alloc | apply pw_below_drewN | apply below_drew1) | exact HB.out))) : w.heap.size ≤ gb238)); have n5_ := Aside0.mk ((by rw [hg]; exact (below_size (by repeat (first | (with_reducible first | exact HB.out | apply below_alloc | apply pw_below_drewN | apply below_drew1) | exact HB.out))) : w.heap.size ≤ gb238)); clear HO_5; clear HO_13; clear HB; have HO_5 := n0_; have HO_13 := n1_; have HB := n2_; have BK238 := n3_; have GW238 := n4_; have GE238 := n5_; clear n0_ n1_ n2_ n3_ n4_ n5_; clear hb hbox hg; have hcz19_0 : w18.cell? ⟨gb238, 0, none⟩ = some (.string (⟨#[]⟩ : ByteArray)) := (blk_cell BK238.out 0).trans rfl; have hcz19_1 : w18.cell? ⟨gb238, 1, none⟩ = some (.string (⟨#[]⟩ : ByteArray)) := (blk_cell BK238.out 1).trans rfl; have hfz19_0 := blk_frozen BK238.out 0; have hfz19_1 := blk_frozen BK238.out 1) | ((with_reducible refine gate_callee (f := 31) rfl ?_); refine goesL_ (some 20) rfl rfl Try.func31 (by kernel_rfl) rfl #[.agg #[.string ((rd_T41 y234 x15_1).f0), .string ((rd_T41 y234 x15_1).f1)]] rfl (by (try simp only [List.map_toArray, List.map_cons, List.map_nil]); first | done | rfl | (simp only [List.length_drop, List.length_take]; rfl)) ?_; (with_reducible refine (conductorref09_Right.calls ((rd_T41 y234 x15_1).f0) ((rd_T41 y234 x15_1).f1) true _ A15.out).mono ?_); rintro e w20 ⟨rfl, hb⟩; refine ⟨_, rfl, ?_⟩; have n0_ := Aside0.mk (Kd.R_below (by (with_reducible repeat (first | apply Kd.R_alloc | apply Kd.R_drewN | apply Kd.R_drew)); exact (Kd.R_mono (Kd.R_far (p := ⟨gb238, 1, none⟩) (Kd.R_far (p := ⟨gb238, 0, none⟩) (Kd.R_mono HO_5.out (fun k_ hk => (⟨hk, hk.2⟩ : _ ∧ k_ ≠ gb238))) (fun _ hk => hk.2) (.string ((rd_T41 y234 x15_1).f0))) (fun _ hk => hk.2) (.string ((rd_T41 y234 x15_1).f1))) (fun _ h_ => h_.1))) hb); have n1_ := Aside0.mk (Kd.R_below (by (with_reducible repeat (first | apply Kd.R_alloc | apply Kd.R_drewN | apply Kd.R_drew)); exact (Kd.R_mono (Kd.R_far (p := ⟨gb238, 1, none⟩) (Kd.R_far (p := ⟨gb238, 0, none⟩) (Kd.R_mono HO_13.out (fun k_ hk => (⟨hk, hk.2⟩ : _ ∧ k_ ≠ gb238))) (fun _ hk => hk.2) (.string ((rd_T41 y234 x15_1).f0))) (fun _ hk => hk.2) (.string ((rd_T41 y234 x15_1).f1))) (fun _ h_ => h_.1))) hb); have n2_ := Aside0.mk (blk_below (g := gb238) (o := .cells #[.string ((rd_T41 y234 x15_1).f0), .string ((rd_T41 y234 x15_1).f1)] 41 (0, 0)) (by (with_reducible repeat (first | refine blk_drewN ?_ _ | refine blk_drew ?_ | refine blk_alloc ?_ _)); refine blk_put (cs := #[.string ((rd_T41 y234 x15_1).f0), .string (⟨#[]⟩ : ByteArray)]) ?_ 1 _ rfl; (with_reducible repeat (first | refine blk_drewN ?_ _ | refine blk_drew ?_ | refine blk_alloc ?_ _)); refine blk_put (cs := #[.string (⟨#[]⟩ : ByteArray), .string (⟨#[]⟩ : ByteArray)]) ?_ 0 _ rfl; (with_reducible repeat (first | refine blk_drewN ?_ _ | refine blk_drew ?_ | refine blk_alloc ?_ _)); exact BK238.out) hb); have n3_ := Aside0.mk (below_step (by repeat (first | (with_reducible first | exact HB.out | apply below_alloc | apply pw_below_drewN | apply below_drew1 | refine below_set ?_ GE238.out) | exact HB.out)) hb); clear HO_5; clear HO_13; clear BK238; clear HB; have HO_5 := n0_; have HO_13 := n1_; have BK238 := n2_; have HB := n3_; clear n0_ n1_ n2_ n3_; (try clear hb); (try clear hb2); (try clear hk); (try clear hi); have hcz21_0 : w20.cell? ⟨gb238, 0, none⟩ = some (.string ((rd_T41 y234 x15_1).f0)) := (blk_cell BK238.out 0).trans rfl; have hcz21_1 : w20.cell? ⟨gb238, 1, none⟩ = some (.string ((rd_T41 y234 x15_1).f1)) := (blk_cell BK238.out 1).trans rfl; have hfz21_0 := blk_frozen BK238.out 0; have hfz21_1 := blk_frozen BK238.out 1; obtain ⟨Ao22, co22, eo22⟩ := Kd.R_slice HO_5.out; subst eo22) | ((with_reducible refine gate_callee (f := 69) rfl ?_); refine goesL_ (some 23) rfl rfl Try.func69 (by kernel_rfl) rfl #[.slice Ao22 x5_1.length co22, .agg #[.string ((rd_T41 y234 x15_1).f0), .string ((rd_T41 y234 x15_1).f1)]] rfl (by (try simp only [List.map_toArray, List.map_cons, List.map_nil]); first | done | rfl | (simp only [List.length_drop, List.length_take]; rfl)) ?_; (with_reducible refine (conductorref09_put.calls k1 _ _ x5_1 ((rd_T41 y234 x15_1).f0) ((rd_T41 y234 x15_1).f1) t240 _ ?side1 ?side2 A17.out).mono ?_); (case side1 => repeat (first | exact (Kd.R_reads' HO_5.out).2.2 | (with_reducible refine Kd.C_alloc ?_ _) | (with_reducible refine Kd.C_drewN ?_ _) | (with_reducible refine Kd.C_drew ?_))); (case side2 => exact (Kd.R_reads' HO_5.out).2.1); rintro e w23 ⟨v241, rfl, ho0, hb⟩; refine ⟨_, rfl, ?_⟩; have n0_ := Aside0.mk (Kd.R_elder' (by (with_reducible repeat (first | apply Kd.R_alloc | apply Kd.R_drewN | apply Kd.R_drew)); exact HO_5.out) (Kd.R_base ho0) hb); have n1_ := Aside0.mk (Kd.R_elder' (by (with_reducible repeat (first | apply Kd.R_alloc | apply Kd.R_drewN | apply Kd.R_drew)); exact HO_13.out) (Kd.R_base ho0) hb); have n2_ := Aside0.mk (Kd.R_lower (Kd.R_newB (Kd.R_new' (Kd.R_new' ho0 (Kd.R_lt (by (with_reducible repeat (first | apply Kd.R_alloc | apply Kd.R_drewN | apply Kd.R_drew)); exact HO_5.out))) (Kd.R_lt (by (with_reducible repeat (first | apply Kd.R_alloc | apply Kd.R_drewN | apply Kd.R_drew)); exact HO_13.out))) (g := gb238) (o := .cells #[.string ((rd_T41 y234 x15_1).f0), .string ((rd_T41 y234 x15_1).f1)] 41 (0, 0)) (by (with_reducible repeat (first | refine blk_drewN ?_ _ | refine blk_drew ?_ | refine blk_alloc ?_ _)); exact BK238.out)) (below_size (by repeat (first | (with_reducible first | exact HB.out | apply below_alloc | apply pw_below_drewN | apply below_drew1 | refine below_set ?_ GE238.out) | exact HB.out)))); have n3_ := Aside0.mk (blk_below (g := gb238) (o := .cells #[.string ((rd_T41 y234 x15_1).f0), .string ((rd_T41 y234 x15_1).f1)] 41 (0, 0)) (by (with_reducible repeat (first | refine blk_drewN ?_ _ | refine blk_drew ?_ | refine blk_alloc ?_ _)); exact BK238.out) hb); have n4_ := Aside0.mk (below_step (by repeat (first | (with_reducible first | exact HB.out | apply below_alloc | apply pw_below_drewN | apply below_drew1 | refine below_set ?_ GE238.out) | exact HB.out)) hb); clear HO_5; clear HO_13; clear BK238; clear HB; have HO_5 := n0_; have HO_13 := n1_; have HO242 := n2_; have BK238 := n3_; have HB := n4_; clear n0_ n1_ n2_ n3_ n4_; (try clear hb); (try clear hb2); (try clear hk); (try clear hi); (try clear ho0)))
         go_roundg k1
         case measure => have := HK1.out; omega
         case rel => exact ⟨(t240), (wrap64 (x15_1 + 1)), (by first | rfl | (simp; done) | (simp [*]; done)), H', ⟨by have := HK1.out; omega⟩, ⟨by (with_reducible repeat (first | apply Kd.R_alloc | apply Kd.R_drewN | apply Kd.R_drew)); exact Kd.R_mono HO242.out (fun _ hk => hk.1.2)⟩, ⟨by (with_reducible repeat (first | apply Kd.R_alloc | apply Kd.R_drewN | apply Kd.R_drew)); exact Kd.R_mono HO_13.out (fun _ hk => hk.2)⟩, ⟨by repeat (first | (with_reducible first | exact HB.out | apply below_alloc | apply pw_below_drewN | apply below_drew1 | refine below_set ?_ GE238.out) | exact HB.out)⟩⟩
        ·replace c16 := Bool.eq_false_iff.mpr c16
         subst c16
         have H1 : (conductorref09_Join.l0 k1 x5_1 y234 (y234.length : Int) (wrap64 (x15_1 + 1))) = some r := by rw [if_neg (show ¬ (false = true) by decide)] at H; exact H
         clear H
         have H := H1
         clear H1
         have H' := Aside0.mk H
         clear H
         have p237 : 0 ≤ (x15_1 : Int) := of_decide_eq_true (by first | (with_reducible assumption) | assumption)
         have q237 : x15_1 < (y234.length : Int) := of_decide_eq_true (by first | (with_reducible assumption) | assumption)
         obtain ⟨ad237, e237, hx237_0, hx237_1⟩ := at_T41 (Kd.R_reads' HO_13.out).2.2 x15_1 p237 q237
         cases e237
         replace p237 := eq_true p237
         replace q237 := eq_true q237
         go_wp2_with (first | ((with_reducible refine gate_dst (N := 7) rfl ?_); refine box_event ?hg (N := 7) ?hd (cs := #[.string (⟨#[]⟩ : ByteArray), .string (⟨#[]⟩ : ByteArray)]) (t := 41) ?hr ?_; (case hd => rfl); (case hg => rfl); (case hr => first | (go_simp; done) | (go_simp; rfl)); intro gb238 hg w24 hbox hb; have n0_ := Aside0.mk (Kd.R_below (Kd.R_elderB (by (with_reducible repeat (first | apply Kd.R_alloc | apply Kd.R_drewN | apply Kd.R_drew)); exact HO_5.out) gb238 (Nat.le_of_eq hg.symm)) hb); have n1_ := Aside0.mk (Kd.R_below (Kd.R_elderB (by (with_reducible repeat (first | apply Kd.R_alloc | apply Kd.R_drewN | apply Kd.R_drew)); exact HO_13.out) gb238 (Nat.le_of_eq hg.symm)) hb); have n2_ := Aside0.mk (below_step (by repeat (first | (with_reducible first | exact HB.out | apply below_alloc | apply pw_below_drewN | apply below_drew1) | exact HB.out)) hb); have n3_ := Aside0.mk (hbox); have n4_ := Aside0.mk ((by rw [hg]; exact (below_size (by repeat (first | (with_reducible first | exact HB.out | apply below_alloc | apply pw_below_drewN | apply below_drew1) | exact HB.out))) : w.heap.size ≤ gb238)); have n5_ := Aside0.mk ((by rw [hg]; exact (below_size (by repeat (first | (with_reducible first | exact HB.out | apply below_alloc | apply pw_below_drewN | apply below_drew1) | exact HB.out))) : w.heap.size ≤ gb238)); clear HO_5; clear HO_13; clear HB; have HO_5 := n0_; have HO_13 := n1_; have HB := n2_; have BK238 := n3_; have GW238 := n4_; have GE238 := n5_; clear n0_ n1_ n2_ n3_ n4_ n5_; clear hb hbox hg; have hcz25_0 : w24.cell? ⟨gb238, 0, none⟩ = some (.string (⟨#[]⟩ : ByteArray)) := (blk_cell BK238.out 0).trans rfl; have hcz25_1 : w24.cell? ⟨gb238, 1, none⟩ = some (.string (⟨#[]⟩ : ByteArray)) := (blk_cell BK238.out 1).trans rfl; have hfz25_0 := blk_frozen BK238.out 0; have hfz25_1 := blk_frozen BK238.out 1) | ((with_reducible refine gate_callee (f := 31) rfl ?_); refine goesL_ (some 20) rfl rfl Try.func31 (by kernel_rfl) rfl #[.agg #[.string ((rd_T41 y234 x15_1).f0), .string ((rd_T41 y234 x15_1).f1)]] rfl (by (try simp only [List.map_toArray, List.map_cons, List.map_nil]); first | done | rfl | (simp only [List.length_drop, List.length_take]; rfl)) ?_; (with_reducible refine (conductorref09_Right.calls ((rd_T41 y234 x15_1).f0) ((rd_T41 y234 x15_1).f1) false _ A15.out).mono ?_); rintro e w26 ⟨rfl, hb⟩; refine ⟨_, rfl, ?_⟩; have n0_ := Aside0.mk (Kd.R_below (by (with_reducible repeat (first | apply Kd.R_alloc | apply Kd.R_drewN | apply Kd.R_drew)); exact (Kd.R_mono (Kd.R_far (p := ⟨gb238, 1, none⟩) (Kd.R_far (p := ⟨gb238, 0, none⟩) (Kd.R_mono HO_5.out (fun k_ hk => (⟨hk, hk.2⟩ : _ ∧ k_ ≠ gb238))) (fun _ hk => hk.2) (.string ((rd_T41 y234 x15_1).f0))) (fun _ hk => hk.2) (.string ((rd_T41 y234 x15_1).f1))) (fun _ h_ => h_.1))) hb); have n1_ := Aside0.mk (Kd.R_below (by (with_reducible repeat (first | apply Kd.R_alloc | apply Kd.R_drewN | apply Kd.R_drew)); exact (Kd.R_mono (Kd.R_far (p := ⟨gb238, 1, none⟩) (Kd.R_far (p := ⟨gb238, 0, none⟩) (Kd.R_mono HO_13.out (fun k_ hk => (⟨hk, hk.2⟩ : _ ∧ k_ ≠ gb238))) (fun _ hk => hk.2) (.string ((rd_T41 y234 x15_1).f0))) (fun _ hk => hk.2) (.string ((rd_T41 y234 x15_1).f1))) (fun _ h_ => h_.1))) hb); have n2_ := Aside0.mk (blk_below (g := gb238) (o := .cells #[.string ((rd_T41 y234 x15_1).f0), .string ((rd_T41 y234 x15_1).f1)] 41 (0, 0)) (by (with_reducible repeat (first | refine blk_drewN ?_ _ | refine blk_drew ?_ | refine blk_alloc ?_ _)); refine blk_put (cs := #[.string ((rd_T41 y234 x15_1).f0), .string (⟨#[]⟩ : ByteArray)]) ?_ 1 _ rfl; (with_reducible repeat (first | refine blk_drewN ?_ _ | refine blk_drew ?_ | refine blk_alloc ?_ _)); refine blk_put (cs := #[.string (⟨#[]⟩ : ByteArray), .string (⟨#[]⟩ : ByteArray)]) ?_ 0 _ rfl; (with_reducible repeat (first | refine blk_drewN ?_ _ | refine blk_drew ?_ | refine blk_alloc ?_ _)); exact BK238.out) hb); have n3_ := Aside0.mk (below_step (by repeat (first | (with_reducible first | exact HB.out | apply below_alloc | apply pw_below_drewN | apply below_drew1 | refine below_set ?_ GE238.out) | exact HB.out)) hb); clear HO_5; clear HO_13; clear BK238; clear HB; have HO_5 := n0_; have HO_13 := n1_; have BK238 := n2_; have HB := n3_; clear n0_ n1_ n2_ n3_; (try clear hb); (try clear hb2); (try clear hk); (try clear hi)))
         go_roundg k1
         case measure => have := HK1.out; omega
         case rel => exact ⟨(x5_1), (wrap64 (x15_1 + 1)), (by first | rfl | (simp; done) | (simp [*]; done)), H', ⟨by have := HK1.out; omega⟩, ⟨by (with_reducible repeat (first | apply Kd.R_alloc | apply Kd.R_drewN | apply Kd.R_drew)); exact Kd.R_mono HO_5.out (fun _ hk => hk.1)⟩, ⟨by (with_reducible repeat (first | apply Kd.R_alloc | apply Kd.R_drewN | apply Kd.R_drew)); exact Kd.R_mono HO_13.out (fun _ hk => hk.1)⟩, ⟨by repeat (first | (with_reducible first | exact HB.out | apply below_alloc | apply pw_below_drewN | apply below_drew1 | refine below_set ?_ GE238.out) | exact HB.out)⟩⟩
       ·rw [if_neg c14] at H
        exact absurd H (by simp)
      ·rw [if_neg c13] at H
       exact absurd H (by simp)
     ·rw [if_neg c12] at H
      have c12b0 : decide (x15_1 < (y234.length : Int)) = false := decide_eq_false c12
      clear c12
      obtain rfl := Option.some.inj H
      go_wp2
      go_ret
      exact ⟨_, by first | rfl | (simp [errW_none, errW_some] <;> rfl) | (simp [*, errW_none, errW_some] <;> rfl), by (with_reducible repeat (first | apply Kd.R_alloc | apply Kd.R_drewN | apply Kd.R_drew)); exact Kd.R_mono HO_5.out (fun _ hk => trivial), by repeat (first | (with_reducible first | exact HB.out | apply below_alloc | apply pw_below_drewN | apply below_drew1) | exact HB.out)⟩
  ·rw [if_neg c4] at H
   exact absurd H (by simp)
 ·rw [if_neg c3] at H
  exact absurd H (by simp)
end Go.Proofs.Ytjefihcbhdennaa.S
namespace Go.Proofs.Ytjefihcbhdennaa.S
open Go.RowKit Go.Proofs.YtjefihcbhdennaaW.PrintWords Go.Proofs.YtjefihcbhdennaaW.PrintLast Go.Proofs.YtjefihcbhdennaaW.PrintMore
attribute [local go_sem] max2_int min2_int max2_str min2_str str_leq str_gtr str_geq max_two min_two max_three min_three max_four min_four   -- for this text's walks alone
set_option linter.unusedVariables false
set_option linter.unusedSimpArgs false
def conductorref09_Fit.l0 : Nat → List (S41) → Int → Option ((List (S41)))
 | 0, _, _ => none
 | k + 1, x0, x1 => if (x0.length : Int) > (mx x1 1) then (if 0 < (x0.length : Int) then (if 1 < (x0.length : Int) then ((conductorref09_cover.f ((rd_T41 x0 0).f0) ((rd_T41 x0 0).f1) ((rd_T41 x0 1).f0) ((rd_T41 x0 1).f1)).bind fun bt248 => ((some (([(⟨bt248.1, bt248.2⟩ : S41)] : List (S41)) : List (S41))).bind fun y250 => (if 2 ≤ (x0.length : Int) then ((some (x0.drop 2 : List (S41))).bind fun y253 => (if y250.length + y253.length < 4398046511104 then (conductorref09_Fit.l0 k (y250 ++ y253) x1) else (none))) else (none)))) else (none)) else (none)) else (some x0)
def conductorref09_Fit.f (k : Nat) (l0 : List (S41)) (a1 : Int) : Option ((List (S41))) := (conductorref09_Join.f k l0 ([] : List (S41))).bind fun t243 => (conductorref09_Fit.l0 k t243 a1)
def conductorref09_Fit.T3 : Bool × List (List Nat × List Nat) := (true, [([], []), ([0], [0]), ([1], [1]), ([], []), ([3], [3]), ([4], [4]), ([2, 5], [2, 5]), ([6], [6]), ([7, 6, 0, 1, 2, 3, 4, 5, 6, 7], [7])])
def conductorref09_Fit.B3 : List Nat := [0, 1, 3, 0, 8, 24, 63, 127, 255]
theorem conductorref09_Fit.tab3 : rtab .any (opsOf Try.f25 3) = conductorref09_Fit.T3 := by kernel_rfl
theorem conductorref09_Fit.bits3 : waitsOk conductorref09_Fit.T3.2 conductorref09_Fit.B3 = true := by kernel_rfl
set_option maxHeartbeats 8000000 in
set_option maxRecDepth 100000 in
theorem conductorref09_Fit.calls (k : Nat) (A0 : Option Addr) (c0 : Nat) (l0 : List (S41)) (a1 : Int) (r : List (S41)) (w : World) (hr0 : Kd.C k41 w A0 l0.length l0) (hc0 : l0.length ≤ c0) (h : conductorref09_Fit.f k l0 a1 = some r) :
  Calls Try.prog 25 #[.slice A0 l0.length c0, .int .i64 a1] w fun e w' => ∃ v0_ : Value, e = .returned (v0_) ∧ Kd.R k41 41 w' w.heap.size (fun _ => True) v0_ r ∧ Below w.heap.size w w' := by
 have hu41 := Try.underlying41
 have HR0 := Aside0.mk hr0
 have HC0 := Aside0.mk hc0
 clear hr0 hc0
 have HB := Aside0.mk (Below.refl w.heap.size w)
 have H : ((conductorref09_Join.f k l0 ([] : List (S41))).bind fun t243 => (conductorref09_Fit.l0 k t243 a1)) = some r := h
 clear h
 replace H := Option.bind_eq_some_iff.mp H
 obtain ⟨t243, A30, H⟩ := H
 replace H : (conductorref09_Fit.l0 k t243 a1) = some r := H
 have A3 := Aside0.mk A30
 clear A30
 have H' := Aside0.mk H
 clear H
 go_enter Try.func25, Try.ntmps25
 go_wp2_with (first | ((with_reducible refine gate_callee (f := 40) rfl ?_); refine goesL_ (some 7) rfl rfl Try.func40 (by kernel_rfl) rfl #[.slice A0 l0.length c0, .slice none 0 0] rfl (by (try simp only [List.map_toArray, List.map_cons, List.map_nil]); first | done | rfl | (simp only [List.length_drop, List.length_take]; rfl)) ?_; (refine (conductorref09_Join.calls k _ _ l0 _ _ ([] : List (S41)) t243 _ ?side1 ?side2 ?side3 ?side4 A3.out).mono ?_); (case side1 => repeat (first | exact HR0.out | (with_reducible refine Kd.C_alloc ?_ _) | (with_reducible refine Kd.C_drewN ?_ _) | (with_reducible refine Kd.C_drew ?_))); (case side2 => exact HC0.out); (case side3 => exact Kd.C_nil _ _); (case side4 => exact Nat.le_refl _); rintro e w4 ⟨v244, rfl, ho0, hb⟩; refine ⟨_, rfl, ?_⟩; have n0_ := Aside0.mk (Kd.R_lower ho0 (below_size (by repeat (first | (with_reducible first | exact HB.out | apply below_alloc | apply pw_below_drewN | apply below_drew1) | exact HB.out)))); have n1_ := Aside0.mk (below_step (by repeat (first | (with_reducible first | exact HB.out | apply below_alloc | apply pw_below_drewN | apply below_drew1) | exact HB.out)) hb); clear HB; have HO245 := n0_; have HB := n1_; clear n0_ n1_; (try clear hb); (try clear hb2); (try clear hk); (try clear hi); (try clear ho0)))
 go_loopg [0] k (fun kq v0 w' => ∃ (x0_1 : List (S41)), Aside0 (conductorref09_Fit.l0 kq x0_1 a1 = some r) ∧ Aside0 (kq ≤ k) ∧ Aside0 (Kd.R k41 41 w' w.heap.size (fun _ => True) v0 x0_1) ∧ Aside0 (Below w.heap.size w w'))
 case atStart => exact ⟨(t243), H', ⟨Nat.le_refl _⟩, ⟨by (with_reducible repeat (first | apply Kd.R_alloc | apply Kd.R_drewN | apply Kd.R_drew)); exact HO245.out⟩, ⟨by repeat (first | (with_reducible first | exact HB.out | apply below_alloc | apply pw_below_drewN | apply below_drew1) | exact HB.out)⟩⟩
 case round =>
  clear H'
  try clear c2
  try clear p2
  try clear c4
  obtain ⟨x0_1, HA, HK1, HO_0, HB⟩ := hrel
  cases gk with
  | zero => exact absurd HA.out (by simp [conductorref09_Fit.l0])
  | succ k1 =>
   have H := HA.out
   clear HA
   simp only [conductorref09_Fit.l0] at H
   obtain ⟨ji5, hji5⟩ : ∃ j_ : Int, (mx a1 1) = j_ := ⟨_, rfl⟩
   replace H : (if (x0_1.length : Int) > (ji5) then (if 0 < (x0_1.length : Int) then (if 1 < (x0_1.length : Int) then ((conductorref09_cover.f ((rd_T41 x0_1 0).f0) ((rd_T41 x0_1 0).f1) ((rd_T41 x0_1 1).f0) ((rd_T41 x0_1 1).f1)).bind fun bt248 => ((some (([(⟨bt248.1, bt248.2⟩ : S41)] : List (S41)) : List (S41))).bind fun y250 => (if 2 ≤ (x0_1.length : Int) then ((some (x0_1.drop 2 : List (S41))).bind fun y253 => (if y250.length + y253.length < 4398046511104 then (conductorref09_Fit.l0 k1 (y250 ++ y253) a1) else (none))) else (none)))) else (none)) else (none)) else (some x0_1)) = some r := by first | (rw [hji5] at H; exact H) | (simp only [hji5] at H ⊢; exact H)
   (try rw [hji5] at hji4)
   (try rw [hji5] at hji4w)
   (try (have hji5l : 1 ≤ ji5 := by (rw [← hji5]; unfold mx; (repeat' split) <;> omega)))
   (try (have hji5m : 0 ≤ ji5 := by omega))
   have hji5_ : (if a1 < 1 then 1 else a1) = ji5 := hji5
   by_cases c6 : (x0_1.length : Int) > (ji5)
   ·rw [if_pos c6] at H
    have c6b0 : decide ((ji5) < (x0_1.length : Int)) = true := decide_eq_true c6
    clear c6
    by_cases c7 : 0 < (x0_1.length : Int)
    ·rw [if_pos c7] at H
     have c7b0 : decide (0 < (x0_1.length : Int)) = true := decide_eq_true c7
     have c7b1 : decide (0 < x0_1.length) = true := decide_eq_true (by omega)
     clear c7
     by_cases c8 : 1 < (x0_1.length : Int)
     ·rw [if_pos c8] at H
      have c8b0 : decide (1 < (x0_1.length : Int)) = true := decide_eq_true c8
      have c8b1 : decide (1 < x0_1.length) = true := decide_eq_true (by omega)
      clear c8
      replace H := Option.bind_eq_some_iff.mp H
      obtain ⟨⟨t248, t249⟩, A90, H⟩ := H
      replace H : ((some (([(⟨t248, t249⟩ : S41)] : List (S41)) : List (S41))).bind fun y250 => (if 2 ≤ (x0_1.length : Int) then ((some (x0_1.drop 2 : List (S41))).bind fun y253 => (if y250.length + y253.length < 4398046511104 then (conductorref09_Fit.l0 k1 (y250 ++ y253) a1) else (none))) else (none))) = some r := H
      have A9 := Aside0.mk A90
      clear A90
      obtain ⟨y250, hy250⟩ : ∃ y_ : List (S41), y_ = (([(⟨t248, t249⟩ : S41)] : List (S41))) := ⟨_, rfl⟩
      replace H : (if 2 ≤ (x0_1.length : Int) then ((some (x0_1.drop 2 : List (S41))).bind fun y253 => (if y250.length + y253.length < 4398046511104 then (conductorref09_Fit.l0 k1 (y250 ++ y253) a1) else (none))) else (none)) = some r := by first | (rw [hy250]; with_reducible exact H) | (have H2_ := (Option.bind_some _ _).symm.trans H; rw [hy250]; with_reducible exact H2_) | (have H2_ := (Option.bind_some _ _).symm.trans H; with_reducible exact H2_) | with_reducible exact H | (rw [hy250]; exact H) | exact H
      have Ny250 := Aside0.mk hy250
      clear hy250
      by_cases c10 : 2 ≤ (x0_1.length : Int)
      ·rw [if_pos c10] at H
       have c10b0 := eq_true c10
       have c10b1 : decide (2 ≤ (x0_1.length : Int)) = true := decide_eq_true c10
       clear c10
       obtain ⟨y253, hy253⟩ : ∃ y_ : List (S41), y_ = (x0_1.drop 2) := ⟨_, rfl⟩
       replace H : (if y250.length + y253.length < 4398046511104 then (conductorref09_Fit.l0 k1 (y250 ++ y253) a1) else (none)) = some r := by first | (rw [hy253]; with_reducible exact H) | (have H2_ := (Option.bind_some _ _).symm.trans H; rw [hy253]; with_reducible exact H2_) | (have H2_ := (Option.bind_some _ _).symm.trans H; with_reducible exact H2_) | with_reducible exact H | (rw [hy253]; exact H) | exact H
       have Ny253 := Aside0.mk hy253
       clear hy253
       by_cases c11 : y250.length + y253.length < 4398046511104
       ·rw [if_pos c11] at H
        have LMc11 := Aside0.mk c11
        clear c11
        obtain ⟨y257, hy257⟩ : ∃ y_ : List (S41), y_ = (y250 ++ y253) := ⟨_, rfl⟩
        replace H : (conductorref09_Fit.l0 k1 y257 a1) = some r := by first | (rw [hy257]; with_reducible exact H) | (have H2_ := (Option.bind_some _ _).symm.trans H; rw [hy257]; with_reducible exact H2_) | (have H2_ := (Option.bind_some _ _).symm.trans H; with_reducible exact H2_) | with_reducible exact H | (rw [hy257]; exact H) | exact H
        have Ny257 := Aside0.mk hy257
        clear hy257
        have H' := Aside0.mk H
        clear H
        obtain ⟨Ao12, co12, eo12⟩ := Kd.R_slice HO_0.out
        subst eo12
        try go_wp2
        have n0_ := Aside0.mk (Kd.R_drew HO_0.out)
        have n1_ := Aside0.mk (below_drew1 HB.out)
        clear HO_0
        clear HB
        have HO_0 := n0_
        have HB := n1_
        clear n0_ n1_
        have p246 : 0 ≤ (0 : Int) := (by omega)
        have q246 : 0 < (x0_1.length : Int) := of_decide_eq_true (by first | (with_reducible assumption) | assumption)
        obtain ⟨ad246, e246, hx246_0, hx246_1⟩ := at_T41 (Kd.R_reads' HO_0.out).2.2 0 p246 q246
        cases e246
        have qi246 : (0 < x0_1.length) = True := eq_true (by omega)
        (try rw [show ((0 : Int)).toNat = 0 from rfl] at hx246_0)
        (try rw [show 0 * 2 = 0 from rfl] at hx246_0)
        (try rw [Addr.add_zero'] at hx246_0)
        (try rw [show ((0 : Int)).toNat = 0 from rfl] at hx246_1)
        (try rw [show 0 * 2 = 0 from rfl] at hx246_1)
        (try rw [Addr.add_zero'] at hx246_1)
        replace p246 := eq_true p246
        replace q246 := eq_true q246
        have p247 : 0 ≤ (1 : Int) := (by omega)
        have q247 : 1 < (x0_1.length : Int) := of_decide_eq_true (by first | (with_reducible assumption) | assumption)
        obtain ⟨ad247, e247, hx247_0, hx247_1⟩ := at_T41 (Kd.R_reads' HO_0.out).2.2 1 p247 q247
        obtain rfl : ad246 = ad247 := (by injection e247)
        (try simp only [show (1 : Int).toNat = 1 from rfl, Nat.reduceMul, Nat.reduceEqDiff, Go.Addr.add, ↓reduceIte] at hx247_0)
        (try simp only [show (1 : Int).toNat = 1 from rfl, Nat.reduceMul, Nat.reduceEqDiff, Go.Addr.add, ↓reduceIte] at hx247_1)
        have qi247 : (1 < x0_1.length) = True := eq_true (by omega)
        (try rw [show ((1 : Int)).toNat = 1 from rfl] at hx247_0)
        (try rw [show 1 * 2 = 2 from rfl] at hx247_0)
        (try rw [show ((1 : Int)).toNat = 1 from rfl] at hx247_1)
        (try rw [show 1 * 2 = 2 from rfl] at hx247_1)
        replace p247 := eq_true p247
        replace q247 := eq_true q247
        refine start_ (n := 9) (S := fun w' => w'.cell? ad246 = some (.string ((rd_T41 x0_1 0).f0)) ∧ w'.cell? ⟨ad246.block, ad246.off + 1, none⟩ = some (.string ((rd_T41 x0_1 0).f1)) ∧ w'.cell? ⟨ad246.block, ad246.off + 2, none⟩ = some (.string ((rd_T41 x0_1 1).f0)) ∧ w'.cell? ⟨ad246.block, ad246.off + 2 + 1, none⟩ = some (.string ((rd_T41 x0_1 1).f1))) (ds := []) #[false, false, false, false, false, false, false, false, false] (by kernel_rfl) rfl rfl ⟨hx246_0, hx246_1, hx247_0, hx247_1⟩ (fun hHeld => ?_); refine with_tabW conductorref09_Fit.tab3 conductorref09_Fit.bits3 (fun HT_ HW_ => ?_)
        generalize wr.drew = w13 at HO_0 HB hx246_0 hx246_1 hx247_0 hx247_1 hHeld ⊢
        refine pure_ (i := 0) (N := some 13) (v := ?_) (a' := ?_) #[true, false, false, false, false, false, false, false, false] rfl rfl (any_of HT_.out (by kernel_rfl)) (fun _ _ _ h => h) (Or.inl ⟨by rfl, ?_⟩) ?_ ?_
        rotate_left
        ·intro w'
         go_simp
         with_reducible rfl
        rotate_left
        ·simp only [Act.put, List.setIfInBounds_toArray, List.set_cons_zero, List.set_cons_succ, i64_w, i32_w]
         rfl
        refine pure_ (i := 1) (N := some 14) (v := ?_) (a' := ?_) #[true, true, false, false, false, false, false, false, false] rfl rfl (any_of HT_.out (by kernel_rfl)) (fun _ _ _ h => h) (Or.inl ⟨by rfl, ?_⟩) ?_ ?_
        rotate_left
        ·intro w'
         go_simp
         with_reducible rfl
        rotate_left
        ·simp only [Act.put, List.setIfInBounds_toArray, List.set_cons_zero, List.set_cons_succ, i64_w, i32_w]
         rfl
        refine pure_ (i := 3) (N := some 16) (v := ?_) (a' := ?_) #[true, true, false, true, false, false, false, false, false] rfl rfl (any_of HT_.out (by kernel_rfl)) (fun _ _ _ h => h) (Or.inl ⟨by rfl, ?_⟩) ?_ ?_
        rotate_left
        ·intro w'
         go_simp
         with_reducible rfl
        rotate_left
        ·simp only [Act.put, List.setIfInBounds_toArray, List.set_cons_zero, List.set_cons_succ, i64_w, i32_w]
         rfl
        refine pure_ (i := 4) (N := some 17) (v := ?_) (a' := ?_) #[true, true, false, true, true, false, false, false, false] rfl rfl (any_of HT_.out (by kernel_rfl)) (fun _ _ _ h => h) (Or.inl ⟨by rfl, ?_⟩) ?_ ?_
        rotate_left
        ·intro w'
         go_simp
         with_reducible rfl
        rotate_left
        ·simp only [Act.put, List.setIfInBounds_toArray, List.set_cons_zero, List.set_cons_succ, i64_w, i32_w]
         rfl
        refine take_ (i := 2) (N := some 15) (v := ?_) (a' := ?_) #[true, true, true, true, true, false, false, false, false] rfl rfl (take_ofW HT_.out HW_.out (by kernel_rfl)) (fun _ _ _ h => h) (Or.inl ⟨by rfl, ?_⟩) hHeld ?_ ?_
        rotate_left
        ·rintro w' ⟨s0, s1, s2, s3⟩
         go_simp
         with_reducible rfl
        rotate_left
        ·simp only [Act.put, List.setIfInBounds_toArray, List.set_cons_zero, List.set_cons_succ, i64_w, i32_w]
         rfl
        refine take_ (i := 5) (N := some 18) (v := ?_) (a' := ?_) #[true, true, true, true, true, true, false, false, false] rfl rfl (take_ofW HT_.out HW_.out (by kernel_rfl)) (fun _ _ _ h => h) (Or.inl ⟨by rfl, ?_⟩) hHeld ?_ ?_
        rotate_left
        ·rintro w' ⟨s0, s1, s2, s3⟩
         go_simp
         with_reducible rfl
        rotate_left
        ·simp only [Act.put, List.setIfInBounds_toArray, List.set_cons_zero, List.set_cons_succ, i64_w, i32_w]
         rfl
        refine one_ (i := 6) (N := some 19) #[true, true, true, true, true, true, true, false, false] rfl rfl (one_of HT_.out (by kernel_rfl)) (by decide) (fun K hK => ?_)
        refine goes_ Try.func59 (by kernel_rfl) rfl #[.agg #[.string ((rd_T41 x0_1 0).f0), .string ((rd_T41 x0_1 0).f1)], .agg #[.string ((rd_T41 x0_1 1).f0), .string ((rd_T41 x0_1 1).f1)]] (by rfl) rfl rfl (by (try simp only [List.map_toArray, List.map_cons, List.map_nil]); first | done | rfl | (simp only [List.length_drop, List.length_take]; rfl)) ?_
        with_reducible refine (conductorref09_cover.calls ((rd_T41 x0_1 0).f0) ((rd_T41 x0_1 0).f1) ((rd_T41 x0_1 1).f0) ((rd_T41 x0_1 1).f1) t248 t249 _ A9.out).mono ?_
        rintro e w14 ⟨rfl, hb⟩
        have HS0_ := (hb.cell (World.block_lt_of_cell? _ _ (hHeld.1))).trans (hHeld.1)
        have HS1_ := (hb.cell (World.block_lt_of_cell? _ _ (hHeld.2.1))).trans (hHeld.2.1)
        have HS2_ := (hb.cell (World.block_lt_of_cell? _ _ (hHeld.2.2.1))).trans (hHeld.2.2.1)
        have HS3_ := (hb.cell (World.block_lt_of_cell? _ _ (hHeld.2.2.2))).trans (hHeld.2.2.2)
        refine ⟨_, rfl, ?_⟩
        have n0_ := Aside0.mk (Kd.R_below (by (with_reducible repeat (first | apply Kd.R_alloc | apply Kd.R_drewN | apply Kd.R_drew)); exact HO_0.out) hb)
        have n1_ := Aside0.mk (below_step (by repeat (first | (with_reducible first | exact HB.out | apply below_alloc | apply pw_below_drewN | apply below_drew1) | exact HB.out)) hb)
        clear HO_0
        clear HB
        have HO_0 := n0_
        have HB := n1_
        clear n0_ n1_
        (try clear hb)
        (try clear hb2)
        (try clear hk)
        (try clear hi)
        refine hK.out _ _ ⟨HS0_, HS1_, HS2_, HS3_⟩ (fun hHeld => ?_)
        clear hK K
        refine norm_ (a' := ?_) ?_ ?_
        rotate_left
        ·show Act.put _ (some 19) _ = _
         simp only [Act.put, List.setIfInBounds_toArray, List.set_cons_zero, List.set_cons_succ, i64_w, i32_w]
         rfl
        refine one_ (i := 7) (N := some 20) #[true, true, true, true, true, true, true, true, false] rfl rfl (one_of HT_.out (by kernel_rfl)) (by decide) (fun K hK => ?_)
        refine Kd.R_lit_step k41 _ 41 ?hg (N := 20) ?hd (xs := ([(⟨t248, t249⟩ : S41)] : List (S41))) (inner := [.string t248, .string t249]) (ok := fun _ => True) (okp := fun _ => True) ?hr ?hp (fun _ hk => hk) trivial (Below.refl _ _) (Nat.le_refl _) (by simp) ?_; (case hd => rfl); (case hg => rfl); (case hr => first | (go_simp; done) | (go_simp; rfl)); (case hp => exact (Reps.c2 (show Kd.M k41 _ _ _ (⟨t248, t249⟩ : S41) [.string t248, .string t249] from (k41_mkM _ _ _ (⟨t248, t249⟩ : S41) )) (Reps.none _ _)))
        intro v251 w15 ho16 hb hg_ hnew_
        have HS0_ := (hb.cell (World.block_lt_of_cell? _ _ (hHeld.1))).trans (hHeld.1)
        have HS1_ := (hb.cell (World.block_lt_of_cell? _ _ (hHeld.2.1))).trans (hHeld.2.1)
        have HS2_ := (hb.cell (World.block_lt_of_cell? _ _ (hHeld.2.2.1))).trans (hHeld.2.2.1)
        have HS3_ := (hb.cell (World.block_lt_of_cell? _ _ (hHeld.2.2.2))).trans (hHeld.2.2.2)
        clear hg_ hnew_
        (first | rw [← Ny250.out] at ho16 | (simp only [Int.reduceToNat] at ho16; rw [← Ny250.out] at ho16))
        have n0_ := Aside0.mk (Kd.R_elder' (by (with_reducible repeat (first | apply Kd.R_alloc | apply Kd.R_drewN | apply Kd.R_drew)); exact HO_0.out) (Kd.R_base ho16) hb)
        have n1_ := Aside0.mk (Kd.R_lower (Kd.R_new' ho16 (Kd.R_lt (by (with_reducible repeat (first | apply Kd.R_alloc | apply Kd.R_drewN | apply Kd.R_drew)); exact HO_0.out))) (below_size (by repeat (first | (with_reducible first | exact HB.out | apply below_alloc | apply pw_below_drewN | apply below_drew1) | exact HB.out))))
        have n2_ := Aside0.mk (below_step (by repeat (first | (with_reducible first | exact HB.out | apply below_alloc | apply pw_below_drewN | apply below_drew1) | exact HB.out)) hb)
        clear HO_0
        clear HB
        have HO_0 := n0_
        have HO252 := n1_
        have HB := n2_
        clear n0_ n1_ n2_
        clear hb ho16
        refine hK.out _ _ ⟨HS0_, HS1_, HS2_, HS3_⟩ (fun hHeld => ?_)
        clear hK K
        refine norm_ (a' := ?_) ?_ ?_
        rotate_left
        ·show Act.put _ (some 20) _ = _
         simp only [Act.put, List.setIfInBounds_toArray, List.set_cons_zero, List.set_cons_succ, i64_w, i32_w]
         rfl
        refine pure_ (i := 8) (N := some 5) (v := ?_) (a' := ?_) #[true, true, true, true, true, true, true, true, true] rfl rfl (any_of HT_.out (by kernel_rfl)) (fun _ _ _ h => h) (Or.inl ⟨by rfl, ?_⟩) ?_ ?_
        rotate_left
        ·intro w'
         go_simp
         with_reducible rfl
        rotate_left
        ·simp only [Act.put, List.setIfInBounds_toArray, List.set_cons_zero, List.set_cons_succ, i64_w, i32_w]
         rfl
        refine done_ (done_of HT_.out (by kernel_rfl)) ?_
        have q17 : (2 : Int) ≤ ((x0_1.length : Int) : Int) := of_decide_eq_true (by first | (with_reducible assumption) | assumption)
        obtain ⟨i017, hi017, _, hsz17, _⟩ := info_parts info41
        have hroom17 : x0_1.length ≤ co12 := (Kd.R_reads' HO_0.out).2.1
        have hC17 : Kd.C k41 _ (some ad246) x0_1.length x0_1 := (Kd.R_reads' HO_0.out).2.2
        have hcut17 := cut_from (P := Try.prog) 24 41 .i64 Try.underlying24 hi017 2 hsz17 (some ad246) x0_1.length co12 2 (by omega) q17
        have hr17 := Kd.C_drop (m := (2 : Int).toNat) (c := co12) hC17 (by omega) hroom17
        obtain ⟨A17, hA17⟩ : ∃ A1, A1 = (if co12 = (2 : Int).toNat then (some ad246) else ((some ad246) : Option Addr).map (·.add ((2 : Int).toNat * 2))) := ⟨_, rfl⟩
        obtain ⟨c17, hc17⟩ : ∃ c1, c1 = co12 - (2 : Int).toNat := ⟨_, rfl⟩
        have hy17 : y253.length = x0_1.length - (2 : Int).toNat := (by rw [Ny253.out, List.length_drop] <;> omega)
        rw [show (x0_1).drop (2 : Int).toNat = y253 from Ny253.out.symm] at hr17
        replace hr17 : Kd.C k41 _ A17 y253.length y253 := (by rw [hA17]; exact hr17)
        rw [← hy17, ← hA17, ← hc17] at hcut17
        have HR256 := Aside0.mk hr17
        have HC256 := Aside0.mk (show y253.length ≤ c17 from by rw [hy17, hc17]; exact Nat.sub_le_sub_right hroom17 _)
        clear hr17 hC17 hroom17 hi017 hsz17 hc17
        have KY17 := Aside0.mk hy17
        have KA17 := Aside0.mk hA17
        clear hy17 hA17
        have KL17 := Aside0.mk (show 2 ≤ x0_1.length from by omega)
        replace q17 := eq_true q17
        try go_wp2_with (first | ((with_reducible refine gate_builtin (b := .append) (xs := #[.tmp 21, .tmp 23]) rfl ?_); at_builtin; refine Kd.R_append_rows k41 (w0 := w) w.heap.size rfl (.tmp 21) (.tmp 23) 24 41 (.agg #[(.string ⟨#[]⟩), (.string ⟨#[]⟩)]) 32 rfl Try.underlying24 info41 rfl (by decide) (by omega) v251 y250 y253 _ _ _ (fun k_ => some k_ ≠ (.slice (some ad246) x0_1.length co12 : Value).ownBlock) (fun _ => False) rfl rfl ?aO ?aR (fun _ _ h => h) (fun _ h => h.elim) ?aF ?aB ?aS ?aL ?_; (case aR => repeat (first | exact (by repeat (first | (with_reducible exact HR256.out) | (with_reducible refine Kd.C_alloc ?_ _) | (with_reducible refine Kd.C_drewN ?_ _) | (with_reducible refine Kd.C_drew ?_) | exact HR256.out)) | (with_reducible refine Kd.C_alloc ?_ _) | (with_reducible refine Kd.C_drewN ?_ _) | (with_reducible refine Kd.C_drew ?_))); (case aB => exact (by repeat (first | (with_reducible first | exact HB.out | apply below_alloc | apply pw_below_drewN | apply below_drew1) | exact HB.out))); (case aF => exact (fun k_ hk => Kd.fresh' (Kd.R_lt (by (with_reducible repeat (first | apply Kd.R_alloc | apply Kd.R_drewN | apply Kd.R_drew)); exact HO_0.out)) k_ hk)); (case aO => exact (by (with_reducible repeat (first | apply Kd.R_alloc | apply Kd.R_drewN | apply Kd.R_drew)); exact Kd.R_mono HO252.out (fun _ hk => hk.2))); (case aS => exact (below_size (by repeat (first | (with_reducible first | exact HB.out | apply below_alloc | apply pw_below_drewN | apply below_drew1) | exact HB.out)))); (case aL => have := LMc11.out; omega); intro v258 w18 ho hb hg hat; rw [← Ny257.out] at ho; have n0_ := Aside0.mk (Kd.R_after (ok := (fun _ => True)) (by (with_reducible repeat (first | apply Kd.R_alloc | apply Kd.R_drewN | apply Kd.R_drew)); exact HO_0.out) hg hat); have n1_ := Aside0.mk (hb); have n2_ := Aside0.mk ((show Kd.C k41 w18 A17 y253.length y253 from by rw [Ny253.out, KA17.out]; exact Kd.C_drop (m := 2) (c := co12) ((Kd.R_reads' (Kd.R_after (ok := (fun _ => True)) (by (with_reducible repeat (first | apply Kd.R_alloc | apply Kd.R_drewN | apply Kd.R_drew)); exact HO_0.out) hg hat)).2.2) KL17.out ((Kd.R_reads' (Kd.R_after (ok := (fun _ => True)) (by (with_reducible repeat (first | apply Kd.R_alloc | apply Kd.R_drewN | apply Kd.R_drew)); exact HO_0.out) hg hat)).2.1))); have n3_ := Aside0.mk (ho); clear HO_0; clear HB; clear HR256; clear HO252; have HO_0 := n0_; have HB := n1_; have HR256 := n2_; have HO259 := n3_; clear n0_ n1_ n2_ n3_; clear ho hb hg hat))
        go_roundg k1
        case measure => have := HK1.out; omega
        case rel => exact ⟨(y257), H', ⟨by have := HK1.out; omega⟩, ⟨by (with_reducible repeat (first | apply Kd.R_alloc | apply Kd.R_drewN | apply Kd.R_drew)); exact Kd.R_mono HO259.out (fun _ hk => trivial)⟩, ⟨by repeat (first | (with_reducible first | exact HB.out | apply below_alloc | apply pw_below_drewN | apply below_drew1) | exact HB.out)⟩⟩
       ·rw [if_neg c11] at H
        exact absurd H (by simp)
      ·rw [if_neg c10] at H
       exact absurd H (by simp)
     ·rw [if_neg c8] at H
      exact absurd H (by simp)
    ·rw [if_neg c7] at H
     exact absurd H (by simp)
   ·rw [if_neg c6] at H
    have c6b0 : decide ((ji5) < (x0_1.length : Int)) = false := decide_eq_false c6
    clear c6
    obtain rfl := Option.some.inj H
    obtain ⟨Ao19, co19, eo19⟩ := Kd.R_slice HO_0.out
    subst eo19
    go_wp2
    go_ret
    exact ⟨_, by first | rfl | (simp [errW_none, errW_some] <;> rfl) | (simp only [← hji5]; first | rfl | (simp [errW_none, errW_some] <;> rfl)) | (simp [*, errW_none, errW_some] <;> rfl), by (with_reducible repeat (first | apply Kd.R_alloc | apply Kd.R_drewN | apply Kd.R_drew)); exact HO_0.out, by repeat (first | (with_reducible first | exact HB.out | apply below_alloc | apply pw_below_drewN | apply below_drew1) | exact HB.out)⟩
end Go.Proofs.Ytjefihcbhdennaa.S
namespace Go.Proofs.Ytjefihcbhdennaa.S
open Go.RowKit Go.Proofs.YtjefihcbhdennaaW.PrintWords Go.Proofs.YtjefihcbhdennaaW.PrintLast Go.Proofs.YtjefihcbhdennaaW.PrintMore
attribute [local go_sem] max2_int min2_int max2_str min2_str str_leq str_gtr str_geq max_two min_two max_three min_three max_four min_four   -- for this text's walks alone
set_option linter.unusedVariables false
set_option linter.unusedSimpArgs false
def conductorlaw09_SpanFits.j0 : Nat → List (S41) → Int → Bool → Option (Bool)
 | 0, _, _, _ => none
 | k + 1, x0, x1, x12 => if x12 = true then ((conductorlaw09_live.f k).bind fun t262 => (some t262)) else ((some (([] : List (S41)) : List (S41))).bind fun y263 => (if y263.length + x0.length < 4398046511104 then ((span_Fit.f k x0 x1).bind fun t269 => ((conductorref09_Fit.f k x0 x1).bind fun t272 => ((conductorref09_Same.f k t269 t272).bind fun t275 => (if t275 = true then ((conductorref09_Same.f k x0 (y263 ++ x0)).bind fun t276 => (some t276)) else (some false))))) else (none)))
def conductorlaw09_SpanFits.f (k : Nat) (l0 : List (S41)) (a1 : Int) : Option (Bool) := (conductorlaw09_live.f k).bind fun t260 => (if t260 = true then ((conductorlaw09_Few.f k l0).bind fun t261 => (conductorlaw09_SpanFits.j0 k l0 a1 (!t261))) else (conductorlaw09_SpanFits.j0 k l0 a1 true))
set_option maxHeartbeats 8000000 in
set_option maxRecDepth 100000 in
theorem conductorlaw09_SpanFits.calls (k : Nat) (A0 : Option Addr) (c0 : Nat) (l0 : List (S41)) (a1 : Int) (r : Bool) (w : World) (hr0 : Kd.C k41 w A0 l0.length l0) (hc0 : l0.length ≤ c0) (h : conductorlaw09_SpanFits.f k l0 a1 = some r) :
  Calls Try.prog 6 #[.slice A0 l0.length c0, .int .i64 a1] w fun e w' => e = .returned (.bool r) ∧ Below w.heap.size w w' := by
 have HR0 := Aside0.mk hr0
 have HC0 := Aside0.mk hc0
 clear hr0 hc0
 have HB := Aside0.mk (Below.refl w.heap.size w)
 have H : ((conductorlaw09_live.f k).bind fun t260 => (if t260 = true then ((conductorlaw09_Few.f k l0).bind fun t261 => (conductorlaw09_SpanFits.j0 k l0 a1 (!t261))) else (conductorlaw09_SpanFits.j0 k l0 a1 true))) = some r := h
 clear h
 have HC3 := Aside0.mk H
 clear H
 go_enter Try.func6, Try.ntmps6
 go_upto_region 1 with (fail)
 go_cut [12] (fun v12 wc => ∃ (kq : Nat) (x12_2 : Bool), v12 = .bool x12_2 ∧ Aside0 (conductorlaw09_SpanFits.j0 kq l0 a1 x12_2 = some r) ∧ Aside0 (kq ≤ k) ∧ Aside0 (Below w.heap.size w wc))
 case first =>
  have H := HC3.out
  clear HC3
  replace H := Option.bind_eq_some_iff.mp H
  obtain ⟨t260, A40, H⟩ := H
  replace H : (if t260 = true then ((conductorlaw09_Few.f k l0).bind fun t261 => (conductorlaw09_SpanFits.j0 k l0 a1 (!t261))) else (conductorlaw09_SpanFits.j0 k l0 a1 true)) = some r := H
  have A4 := Aside0.mk A40
  clear A40
  by_cases c5 : t260 = true
  ·subst c5
   have H1 : ((conductorlaw09_Few.f k l0).bind fun t261 => (conductorlaw09_SpanFits.j0 k l0 a1 (!t261))) = some r := by rw [if_pos rfl] at H; exact H
   clear H
   have H := H1
   clear H1
   replace H := Option.bind_eq_some_iff.mp H
   obtain ⟨t261, A60, H⟩ := H
   replace H : (conductorlaw09_SpanFits.j0 k l0 a1 (!t261)) = some r := H
   have A6 := Aside0.mk A60
   clear A60
   have H' := Aside0.mk H
   clear H
   go_wp2_with (first | ((with_reducible refine gate_callee (f := 21) rfl ?_); refine goesL_ (some 6) rfl rfl Try.func21 (by kernel_rfl) rfl #[] rfl (by (try simp only [List.map_toArray, List.map_cons, List.map_nil]); first | done | rfl | (simp only [List.length_drop, List.length_take]; rfl)) ?_; (with_reducible refine (conductorlaw09_live.calls k  true _ A4.out).mono ?_); rintro e w7 ⟨rfl, hb⟩; refine ⟨_, rfl, ?_⟩; have n0_ := Aside0.mk (below_step (by repeat (first | (with_reducible first | exact HB.out | apply below_alloc | apply pw_below_drewN | apply below_drew1) | exact HB.out)) hb); clear HB; have HB := n0_; clear n0_; (try clear hb); (try clear hb2); (try clear hk); (try clear hi)) | (go_at_call 22; (with_reducible refine (conductorlaw09_Few.calls k _ _ l0 t261 _ ?side1 ?side2 A6.out).mono ?_); (case side1 => repeat (first | exact (Kd.C_below HR0.out HB.out) | (with_reducible refine Kd.C_alloc ?_ _) | (with_reducible refine Kd.C_drewN ?_ _) | (with_reducible refine Kd.C_drew ?_))); (case side2 => exact HC0.out); rintro e w8 ⟨rfl, hb⟩; have n0_ := Aside0.mk (below_step (by repeat (first | (with_reducible first | exact HB.out | apply below_alloc | apply pw_below_drewN | apply below_drew1) | exact HB.out)) hb); clear HB; have HB := n0_; clear n0_; (try clear hb); (try clear hb2); (try clear hk); (try clear hi)))
   go_meet
   case rel => exact ⟨_, (!t261), (by first | rfl | (simp; done) | (simp [*]; done)), H', ⟨by first | omega | exact Nat.le_refl _⟩, ⟨by repeat (first | (with_reducible first | exact HB.out | apply below_alloc | apply pw_below_drewN | apply below_drew1) | exact HB.out)⟩⟩
  ·replace c5 := Bool.eq_false_iff.mpr c5
   subst c5
   have H1 : (conductorlaw09_SpanFits.j0 k l0 a1 true) = some r := by rw [if_neg (show ¬ (false = true) by decide)] at H; exact H
   clear H
   have H := H1
   clear H1
   have H' := Aside0.mk H
   clear H
   go_wp2_with (first | ((with_reducible refine gate_callee (f := 21) rfl ?_); refine goesL_ (some 6) rfl rfl Try.func21 (by kernel_rfl) rfl #[] rfl (by (try simp only [List.map_toArray, List.map_cons, List.map_nil]); first | done | rfl | (simp only [List.length_drop, List.length_take]; rfl)) ?_; (with_reducible refine (conductorlaw09_live.calls k  false _ A4.out).mono ?_); rintro e w9 ⟨rfl, hb⟩; refine ⟨_, rfl, ?_⟩; have n0_ := Aside0.mk (below_step (by repeat (first | (with_reducible first | exact HB.out | apply below_alloc | apply pw_below_drewN | apply below_drew1) | exact HB.out)) hb); clear HB; have HB := n0_; clear n0_; (try clear hb); (try clear hb2); (try clear hk); (try clear hi)))
   go_meet
   case rel => exact ⟨_, (true), (by first | rfl | (simp; done) | (simp [*]; done)), H', ⟨by first | omega | exact Nat.le_refl _⟩, ⟨by repeat (first | (with_reducible first | exact HB.out | apply below_alloc | apply pw_below_drewN | apply below_drew1) | exact HB.out)⟩⟩
 case rest =>
  clear HC3
  try clear c2
  try clear p2
  try clear c5
  try clear c6
  obtain ⟨kq, x12_2, rfl, HA, HJ2, HB⟩ := hcut
  cases kq with
  | zero => exact absurd HA.out (by simp [conductorlaw09_SpanFits.j0])
  | succ kj2 =>
   have H := HA.out
   clear HA
   simp only [conductorlaw09_SpanFits.j0] at H
   by_cases c10 : x12_2 = true
   ·subst c10
    have H1 : ((conductorlaw09_live.f kj2).bind fun t262 => (some t262)) = some r := by rw [if_pos rfl] at H; exact H
    clear H
    have H := H1
    clear H1
    replace H := Option.bind_eq_some_iff.mp H
    obtain ⟨t262, A110, H⟩ := H
    replace H : (some t262) = some r := H
    have A11 := Aside0.mk A110
    clear A110
    obtain rfl := Option.some.inj H
    go_wp2_with (first | ((with_reducible refine gate_callee (f := 21) rfl ?_); refine goesL_ (some 13) rfl rfl Try.func21 (by kernel_rfl) rfl #[] rfl (by (try simp only [List.map_toArray, List.map_cons, List.map_nil]); first | done | rfl | (simp only [List.length_drop, List.length_take]; rfl)) ?_; (with_reducible refine (conductorlaw09_live.calls kj2  t262 _ A11.out).mono ?_); rintro e w12 ⟨rfl, hb⟩; refine ⟨_, rfl, ?_⟩; have n0_ := Aside0.mk (below_step (by repeat (first | (with_reducible first | exact HB.out | apply below_alloc | apply pw_below_drewN | apply below_drew1) | exact HB.out)) hb); clear HB; have HB := n0_; clear n0_; (try clear hb); (try clear hb2); (try clear hk); (try clear hi)))
    go_ret
    exact ⟨by first | rfl | (simp [errW_none, errW_some] <;> rfl) | (simp [*, errW_none, errW_some] <;> rfl), by repeat (first | (with_reducible first | exact HB.out | apply below_alloc | apply pw_below_drewN | apply below_drew1) | exact HB.out)⟩
   ·replace c10 := Bool.eq_false_iff.mpr c10
    subst c10
    have H1 : ((some (([] : List (S41)) : List (S41))).bind fun y263 => (if y263.length + l0.length < 4398046511104 then ((span_Fit.f kj2 l0 a1).bind fun t269 => ((conductorref09_Fit.f kj2 l0 a1).bind fun t272 => ((conductorref09_Same.f kj2 t269 t272).bind fun t275 => (if t275 = true then ((conductorref09_Same.f kj2 l0 (y263 ++ l0)).bind fun t276 => (some t276)) else (some false))))) else (none))) = some r := by rw [if_neg (show ¬ (false = true) by decide)] at H; exact H
    clear H
    have H := H1
    clear H1
    obtain ⟨y263, hy263⟩ : ∃ y_ : List (S41), y_ = (([] : List (S41))) := ⟨_, rfl⟩
    replace H : (if y263.length + l0.length < 4398046511104 then ((span_Fit.f kj2 l0 a1).bind fun t269 => ((conductorref09_Fit.f kj2 l0 a1).bind fun t272 => ((conductorref09_Same.f kj2 t269 t272).bind fun t275 => (if t275 = true then ((conductorref09_Same.f kj2 l0 (y263 ++ l0)).bind fun t276 => (some t276)) else (some false))))) else (none)) = some r := by first | (rw [hy263]; with_reducible exact H) | (have H2_ := (Option.bind_some _ _).symm.trans H; rw [hy263]; with_reducible exact H2_) | (have H2_ := (Option.bind_some _ _).symm.trans H; with_reducible exact H2_) | with_reducible exact H | (rw [hy263]; exact H) | exact H
    have Ny263 := Aside0.mk hy263
    clear hy263
    by_cases c13 : y263.length + l0.length < 4398046511104
    ·rw [if_pos c13] at H
     have LMc13 := Aside0.mk c13
     clear c13
     obtain ⟨y266, hy266⟩ : ∃ y_ : List (S41), y_ = (y263 ++ l0) := ⟨_, rfl⟩
     replace H : ((span_Fit.f kj2 l0 a1).bind fun t269 => ((conductorref09_Fit.f kj2 l0 a1).bind fun t272 => ((conductorref09_Same.f kj2 t269 t272).bind fun t275 => (if t275 = true then ((conductorref09_Same.f kj2 l0 y266).bind fun t276 => (some t276)) else (some false))))) = some r := by first | (rw [hy266]; with_reducible exact H) | (have H2_ := (Option.bind_some _ _).symm.trans H; rw [hy266]; with_reducible exact H2_) | (have H2_ := (Option.bind_some _ _).symm.trans H; with_reducible exact H2_) | with_reducible exact H | (rw [hy266]; exact H) | exact H
     have Ny266 := Aside0.mk hy266
     clear hy266
     replace H := Option.bind_eq_some_iff.mp H
     obtain ⟨t269, A140, H⟩ := H
     replace H : ((conductorref09_Fit.f kj2 l0 a1).bind fun t272 => ((conductorref09_Same.f kj2 t269 t272).bind fun t275 => (if t275 = true then ((conductorref09_Same.f kj2 l0 y266).bind fun t276 => (some t276)) else (some false)))) = some r := H
     have A14 := Aside0.mk A140
     clear A140
     replace H := Option.bind_eq_some_iff.mp H
     obtain ⟨t272, A150, H⟩ := H
     replace H : ((conductorref09_Same.f kj2 t269 t272).bind fun t275 => (if t275 = true then ((conductorref09_Same.f kj2 l0 y266).bind fun t276 => (some t276)) else (some false))) = some r := H
     have A15 := Aside0.mk A150
     clear A150
     replace H := Option.bind_eq_some_iff.mp H
     obtain ⟨t275, A160, H⟩ := H
     replace H : (if t275 = true then ((conductorref09_Same.f kj2 l0 y266).bind fun t276 => (some t276)) else (some false)) = some r := H
     have A16 := Aside0.mk A160
     clear A160
     by_cases c17 : t275 = true
     ·subst c17
      have H1 : ((conductorref09_Same.f kj2 l0 y266).bind fun t276 => (some t276)) = some r := by rw [if_pos rfl] at H; exact H
      clear H
      have H := H1
      clear H1
      replace H := Option.bind_eq_some_iff.mp H
      obtain ⟨t276, A180, H⟩ := H
      replace H : (some t276) = some r := H
      have A18 := Aside0.mk A180
      clear A180
      obtain rfl := Option.some.inj H
      go_wp2_with (first | ((with_reducible refine gate_dst (N := 14) rfl ?_); refine Kd.R_lit k41 _ 41 ?hg (N := 14) ?hd (xs := ([] : List (S41))) (inner := []) (ok := fun _ => True) (okp := fun _ => True) ?hr ?hp (fun _ hk => hk) trivial (Below.refl _ _) (Nat.le_refl _) (by simp) ?_; (case hd => rfl); (case hg => rfl); (case hr => first | (go_simp; done) | (go_simp; rfl)); (case hp => exact (Reps.none _ _)); intro v264 w19 ho20 hb hg_ hnew_; clear hg_ hnew_; (first | rw [← Ny263.out] at ho20 | (simp only [Int.reduceToNat] at ho20; rw [← Ny263.out] at ho20)); have n0_ := Aside0.mk (Kd.R_lower ho20 (below_size (by repeat (first | (with_reducible first | exact HB.out | apply below_alloc | apply pw_below_drewN | apply below_drew1) | exact HB.out)))); have n1_ := Aside0.mk (below_step (by repeat (first | (with_reducible first | exact HB.out | apply below_alloc | apply pw_below_drewN | apply below_drew1) | exact HB.out)) hb); clear HB; have HO265 := n0_; have HB := n1_; clear n0_ n1_; clear hb ho20) | ((with_reducible refine gate_builtin (b := .append) (xs := #[.tmp 14, .tmp 15]) rfl ?_); at_builtin; refine Kd.R_append_rows k41 (w0 := w) w.heap.size rfl (.tmp 14) (.tmp 15) 24 41 (.agg #[(.string ⟨#[]⟩), (.string ⟨#[]⟩)]) 32 rfl Try.underlying24 info41 rfl (by decide) (by omega) v264 y263 l0 _ _ _ (fun _ => True) (fun _ => False) rfl rfl ?aO ?aR (fun _ _ h => h) (fun _ h => h.elim) ?aF ?aB ?aS ?aL ?_; (case aR => repeat (first | exact (Kd.C_below HR0.out HB.out) | (with_reducible refine Kd.C_alloc ?_ _) | (with_reducible refine Kd.C_drewN ?_ _) | (with_reducible refine Kd.C_drew ?_))); (case aB => exact (by repeat (first | (with_reducible first | exact HB.out | apply below_alloc | apply pw_below_drewN | apply below_drew1) | exact HB.out))); (case aF => exact (fun _ _ => trivial)); (case aO => exact (by (with_reducible repeat (first | apply Kd.R_alloc | apply Kd.R_drewN | apply Kd.R_drew)); exact HO265.out)); (case aS => exact (below_size (by repeat (first | (with_reducible first | exact HB.out | apply below_alloc | apply pw_below_drewN | apply below_drew1) | exact HB.out)))); (case aL => have := LMc13.out; omega); intro v267 w21 ho hb hg hat; rw [← Ny266.out] at ho; have n0_ := Aside0.mk (hb); have n1_ := Aside0.mk (ho); clear HB; clear HO265; have HB := n0_; have HO268 := n1_; clear n0_ n1_; clear ho hb hg hat) | ((with_reducible refine gate_callee (f := 24) rfl ?_); refine goesL_ (some 19) rfl rfl Try.func24 (by kernel_rfl) rfl #[.slice A0 l0.length c0, .int .i64 a1] rfl (by (try simp only [List.map_toArray, List.map_cons, List.map_nil]); first | done | rfl | (simp only [List.length_drop, List.length_take]; rfl)) ?_; (with_reducible refine (span_Fit.calls kj2 _ _ l0 a1 t269 _ ?side1 ?side2 A14.out).mono ?_); (case side1 => repeat (first | exact (Kd.C_below HR0.out HB.out) | (with_reducible refine Kd.C_alloc ?_ _) | (with_reducible refine Kd.C_drewN ?_ _) | (with_reducible refine Kd.C_drew ?_))); (case side2 => exact HC0.out); rintro e w22 ⟨v270, rfl, ho0, hb⟩; refine ⟨_, rfl, ?_⟩; have n0_ := Aside0.mk (Kd.R_elder' (by (with_reducible repeat (first | apply Kd.R_alloc | apply Kd.R_drewN | apply Kd.R_drew)); exact HO268.out) (Kd.R_base ho0) hb); have n1_ := Aside0.mk (Kd.R_lower (Kd.R_new' ho0 (Kd.R_lt (by (with_reducible repeat (first | apply Kd.R_alloc | apply Kd.R_drewN | apply Kd.R_drew)); exact HO268.out))) (below_size (by repeat (first | (with_reducible first | exact HB.out | apply below_alloc | apply pw_below_drewN | apply below_drew1) | exact HB.out)))); have n2_ := Aside0.mk (below_step (by repeat (first | (with_reducible first | exact HB.out | apply below_alloc | apply pw_below_drewN | apply below_drew1) | exact HB.out)) hb); clear HO268; clear HB; have HO268 := n0_; have HO271 := n1_; have HB := n2_; clear n0_ n1_ n2_; (try clear hb); (try clear hb2); (try clear hk); (try clear hi); (try clear ho0)) | ((with_reducible refine gate_callee (f := 25) rfl ?_); refine goesL_ (some 22) rfl rfl Try.func25 (by kernel_rfl) rfl #[.slice A0 l0.length c0, .int .i64 a1] rfl (by (try simp only [List.map_toArray, List.map_cons, List.map_nil]); first | done | rfl | (simp only [List.length_drop, List.length_take]; rfl)) ?_; (with_reducible refine (conductorref09_Fit.calls kj2 _ _ l0 a1 t272 _ ?side1 ?side2 A15.out).mono ?_); (case side1 => repeat (first | exact (Kd.C_below HR0.out HB.out) | (with_reducible refine Kd.C_alloc ?_ _) | (with_reducible refine Kd.C_drewN ?_ _) | (with_reducible refine Kd.C_drew ?_))); (case side2 => exact HC0.out); rintro e w23 ⟨v273, rfl, ho0, hb⟩; refine ⟨_, rfl, ?_⟩; have n0_ := Aside0.mk (Kd.R_elder' (by (with_reducible repeat (first | apply Kd.R_alloc | apply Kd.R_drewN | apply Kd.R_drew)); exact HO268.out) (Kd.R_base ho0) hb); have n1_ := Aside0.mk (Kd.R_elder' (by (with_reducible repeat (first | apply Kd.R_alloc | apply Kd.R_drewN | apply Kd.R_drew)); exact HO271.out) (Kd.R_base ho0) hb); have n2_ := Aside0.mk (Kd.R_lower (Kd.R_new' (Kd.R_new' ho0 (Kd.R_lt (by (with_reducible repeat (first | apply Kd.R_alloc | apply Kd.R_drewN | apply Kd.R_drew)); exact HO268.out))) (Kd.R_lt (by (with_reducible repeat (first | apply Kd.R_alloc | apply Kd.R_drewN | apply Kd.R_drew)); exact HO271.out))) (below_size (by repeat (first | (with_reducible first | exact HB.out | apply below_alloc | apply pw_below_drewN | apply below_drew1) | exact HB.out)))); have n3_ := Aside0.mk (below_step (by repeat (first | (with_reducible first | exact HB.out | apply below_alloc | apply pw_below_drewN | apply below_drew1) | exact HB.out)) hb); clear HO268; clear HO271; clear HB; have HO268 := n0_; have HO271 := n1_; have HO274 := n2_; have HB := n3_; clear n0_ n1_ n2_ n3_; (try clear hb); (try clear hb2); (try clear hk); (try clear hi); (try clear ho0); obtain ⟨Ao24, co24, eo24⟩ := Kd.R_slice HO271.out; subst eo24; obtain ⟨Ao25, co25, eo25⟩ := Kd.R_slice HO274.out; subst eo25) | ((with_reducible refine gate_callee (f := 23) rfl ?_); refine goesL_ (some 23) rfl rfl Try.func23 (by kernel_rfl) rfl #[.slice Ao24 t269.length co24, .slice Ao25 t272.length co25] rfl (by (try simp only [List.map_toArray, List.map_cons, List.map_nil]); first | done | rfl | (simp only [List.length_drop, List.length_take]; rfl)) ?_; (with_reducible refine (conductorref09_Same.calls kj2 _ _ t269 _ _ t272 true _ ?side1 ?side2 ?side3 ?side4 A16.out).mono ?_); (case side1 => repeat (first | exact (Kd.R_reads' HO271.out).2.2 | (with_reducible refine Kd.C_alloc ?_ _) | (with_reducible refine Kd.C_drewN ?_ _) | (with_reducible refine Kd.C_drew ?_))); (case side2 => exact (Kd.R_reads' HO271.out).2.1); (case side3 => repeat (first | exact (Kd.R_reads' HO274.out).2.2 | (with_reducible refine Kd.C_alloc ?_ _) | (with_reducible refine Kd.C_drewN ?_ _) | (with_reducible refine Kd.C_drew ?_))); (case side4 => exact (Kd.R_reads' HO274.out).2.1); rintro e w' ⟨rfl, ⟨nd, rfl⟩⟩; refine ⟨_, rfl, ?_⟩; obtain ⟨Ao26, co26, eo26⟩ := Kd.R_slice HO268.out; subst eo26) | (go_at_call 23; (with_reducible refine (conductorref09_Same.calls kj2 _ _ l0 _ _ y266 t276 _ ?side1 ?side2 ?side3 ?side4 A18.out).mono ?_); (case side1 => repeat (first | exact (Kd.C_below HR0.out (by repeat (first | (with_reducible first | exact HB.out | apply below_alloc | apply pw_below_drewN | apply below_drew1) | exact HB.out))) | (with_reducible refine Kd.C_alloc ?_ _) | (with_reducible refine Kd.C_drewN ?_ _) | (with_reducible refine Kd.C_drew ?_))); (case side2 => exact HC0.out); (case side3 => repeat (first | exact (Kd.R_reads' HO268.out).2.2 | (with_reducible refine Kd.C_alloc ?_ _) | (with_reducible refine Kd.C_drewN ?_ _) | (with_reducible refine Kd.C_drew ?_))); (case side4 => exact (Kd.R_reads' HO268.out).2.1); rintro e w' ⟨rfl, ⟨nd, rfl⟩⟩))
      go_ret
      exact ⟨by first | rfl | (simp [errW_none, errW_some] <;> rfl) | (simp [*, errW_none, errW_some] <;> rfl), by repeat (first | (with_reducible first | exact HB.out | apply below_alloc | apply pw_below_drewN | apply below_drew1) | exact HB.out)⟩
     ·replace c17 := Bool.eq_false_iff.mpr c17
      subst c17
      have H1 : (some false) = some r := by rw [if_neg (show ¬ (false = true) by decide)] at H; exact H
      clear H
      have H := H1
      clear H1
      obtain rfl := Option.some.inj H
      go_wp2_with (first | ((with_reducible refine gate_dst (N := 14) rfl ?_); refine Kd.R_lit k41 _ 41 ?hg (N := 14) ?hd (xs := ([] : List (S41))) (inner := []) (ok := fun _ => True) (okp := fun _ => True) ?hr ?hp (fun _ hk => hk) trivial (Below.refl _ _) (Nat.le_refl _) (by simp) ?_; (case hd => rfl); (case hg => rfl); (case hr => first | (go_simp; done) | (go_simp; rfl)); (case hp => exact (Reps.none _ _)); intro v264 w27 ho28 hb hg_ hnew_; clear hg_ hnew_; (first | rw [← Ny263.out] at ho28 | (simp only [Int.reduceToNat] at ho28; rw [← Ny263.out] at ho28)); have n0_ := Aside0.mk (Kd.R_lower ho28 (below_size (by repeat (first | (with_reducible first | exact HB.out | apply below_alloc | apply pw_below_drewN | apply below_drew1) | exact HB.out)))); have n1_ := Aside0.mk (below_step (by repeat (first | (with_reducible first | exact HB.out | apply below_alloc | apply pw_below_drewN | apply below_drew1) | exact HB.out)) hb); clear HB; have HO265 := n0_; have HB := n1_; clear n0_ n1_; clear hb ho28) | ((with_reducible refine gate_builtin (b := .append) (xs := #[.tmp 14, .tmp 15]) rfl ?_); at_builtin; refine Kd.R_append_rows k41 (w0 := w) w.heap.size rfl (.tmp 14) (.tmp 15) 24 41 (.agg #[(.string ⟨#[]⟩), (.string ⟨#[]⟩)]) 32 rfl Try.underlying24 info41 rfl (by decide) (by omega) v264 y263 l0 _ _ _ (fun _ => True) (fun _ => False) rfl rfl ?aO ?aR (fun _ _ h => h) (fun _ h => h.elim) ?aF ?aB ?aS ?aL ?_; (case aR => repeat (first | exact (Kd.C_below HR0.out HB.out) | (with_reducible refine Kd.C_alloc ?_ _) | (with_reducible refine Kd.C_drewN ?_ _) | (with_reducible refine Kd.C_drew ?_))); (case aB => exact (by repeat (first | (with_reducible first | exact HB.out | apply below_alloc | apply pw_below_drewN | apply below_drew1) | exact HB.out))); (case aF => exact (fun _ _ => trivial)); (case aO => exact (by (with_reducible repeat (first | apply Kd.R_alloc | apply Kd.R_drewN | apply Kd.R_drew)); exact HO265.out)); (case aS => exact (below_size (by repeat (first | (with_reducible first | exact HB.out | apply below_alloc | apply pw_below_drewN | apply below_drew1) | exact HB.out)))); (case aL => have := LMc13.out; omega); intro v267 w29 ho hb hg hat; rw [← Ny266.out] at ho; have n0_ := Aside0.mk (hb); have n1_ := Aside0.mk (ho); clear HB; clear HO265; have HB := n0_; have HO268 := n1_; clear n0_ n1_; clear ho hb hg hat) | ((with_reducible refine gate_callee (f := 24) rfl ?_); refine goesL_ (some 19) rfl rfl Try.func24 (by kernel_rfl) rfl #[.slice A0 l0.length c0, .int .i64 a1] rfl (by (try simp only [List.map_toArray, List.map_cons, List.map_nil]); first | done | rfl | (simp only [List.length_drop, List.length_take]; rfl)) ?_; (with_reducible refine (span_Fit.calls kj2 _ _ l0 a1 t269 _ ?side1 ?side2 A14.out).mono ?_); (case side1 => repeat (first | exact (Kd.C_below HR0.out HB.out) | (with_reducible refine Kd.C_alloc ?_ _) | (with_reducible refine Kd.C_drewN ?_ _) | (with_reducible refine Kd.C_drew ?_))); (case side2 => exact HC0.out); rintro e w30 ⟨v270, rfl, ho0, hb⟩; refine ⟨_, rfl, ?_⟩; have n0_ := Aside0.mk (Kd.R_elder' (by (with_reducible repeat (first | apply Kd.R_alloc | apply Kd.R_drewN | apply Kd.R_drew)); exact HO268.out) (Kd.R_base ho0) hb); have n1_ := Aside0.mk (Kd.R_lower (Kd.R_new' ho0 (Kd.R_lt (by (with_reducible repeat (first | apply Kd.R_alloc | apply Kd.R_drewN | apply Kd.R_drew)); exact HO268.out))) (below_size (by repeat (first | (with_reducible first | exact HB.out | apply below_alloc | apply pw_below_drewN | apply below_drew1) | exact HB.out)))); have n2_ := Aside0.mk (below_step (by repeat (first | (with_reducible first | exact HB.out | apply below_alloc | apply pw_below_drewN | apply below_drew1) | exact HB.out)) hb); clear HO268; clear HB; have HO268 := n0_; have HO271 := n1_; have HB := n2_; clear n0_ n1_ n2_; (try clear hb); (try clear hb2); (try clear hk); (try clear hi); (try clear ho0)) | ((with_reducible refine gate_callee (f := 25) rfl ?_); refine goesL_ (some 22) rfl rfl Try.func25 (by kernel_rfl) rfl #[.slice A0 l0.length c0, .int .i64 a1] rfl (by (try simp only [List.map_toArray, List.map_cons, List.map_nil]); first | done | rfl | (simp only [List.length_drop, List.length_take]; rfl)) ?_; (with_reducible refine (conductorref09_Fit.calls kj2 _ _ l0 a1 t272 _ ?side1 ?side2 A15.out).mono ?_); (case side1 => repeat (first | exact (Kd.C_below HR0.out HB.out) | (with_reducible refine Kd.C_alloc ?_ _) | (with_reducible refine Kd.C_drewN ?_ _) | (with_reducible refine Kd.C_drew ?_))); (case side2 => exact HC0.out); rintro e w31 ⟨v273, rfl, ho0, hb⟩; refine ⟨_, rfl, ?_⟩; have n0_ := Aside0.mk (Kd.R_elder' (by (with_reducible repeat (first | apply Kd.R_alloc | apply Kd.R_drewN | apply Kd.R_drew)); exact HO268.out) (Kd.R_base ho0) hb); have n1_ := Aside0.mk (Kd.R_elder' (by (with_reducible repeat (first | apply Kd.R_alloc | apply Kd.R_drewN | apply Kd.R_drew)); exact HO271.out) (Kd.R_base ho0) hb); have n2_ := Aside0.mk (Kd.R_lower (Kd.R_new' (Kd.R_new' ho0 (Kd.R_lt (by (with_reducible repeat (first | apply Kd.R_alloc | apply Kd.R_drewN | apply Kd.R_drew)); exact HO268.out))) (Kd.R_lt (by (with_reducible repeat (first | apply Kd.R_alloc | apply Kd.R_drewN | apply Kd.R_drew)); exact HO271.out))) (below_size (by repeat (first | (with_reducible first | exact HB.out | apply below_alloc | apply pw_below_drewN | apply below_drew1) | exact HB.out)))); have n3_ := Aside0.mk (below_step (by repeat (first | (with_reducible first | exact HB.out | apply below_alloc | apply pw_below_drewN | apply below_drew1) | exact HB.out)) hb); clear HO268; clear HO271; clear HB; have HO268 := n0_; have HO271 := n1_; have HO274 := n2_; have HB := n3_; clear n0_ n1_ n2_ n3_; (try clear hb); (try clear hb2); (try clear hk); (try clear hi); (try clear ho0); obtain ⟨Ao32, co32, eo32⟩ := Kd.R_slice HO271.out; subst eo32; obtain ⟨Ao33, co33, eo33⟩ := Kd.R_slice HO274.out; subst eo33) | ((with_reducible refine gate_callee (f := 23) rfl ?_); refine goesL_ (some 23) rfl rfl Try.func23 (by kernel_rfl) rfl #[.slice Ao32 t269.length co32, .slice Ao33 t272.length co33] rfl (by (try simp only [List.map_toArray, List.map_cons, List.map_nil]); first | done | rfl | (simp only [List.length_drop, List.length_take]; rfl)) ?_; (with_reducible refine (conductorref09_Same.calls kj2 _ _ t269 _ _ t272 false _ ?side1 ?side2 ?side3 ?side4 A16.out).mono ?_); (case side1 => repeat (first | exact (Kd.R_reads' HO271.out).2.2 | (with_reducible refine Kd.C_alloc ?_ _) | (with_reducible refine Kd.C_drewN ?_ _) | (with_reducible refine Kd.C_drew ?_))); (case side2 => exact (Kd.R_reads' HO271.out).2.1); (case side3 => repeat (first | exact (Kd.R_reads' HO274.out).2.2 | (with_reducible refine Kd.C_alloc ?_ _) | (with_reducible refine Kd.C_drewN ?_ _) | (with_reducible refine Kd.C_drew ?_))); (case side4 => exact (Kd.R_reads' HO274.out).2.1); rintro e w' ⟨rfl, ⟨nd, rfl⟩⟩; refine ⟨_, rfl, ?_⟩))
      go_ret
      exact ⟨by first | rfl | (simp [errW_none, errW_some] <;> rfl) | (simp [*, errW_none, errW_some] <;> rfl), by repeat (first | (with_reducible first | exact HB.out | apply below_alloc | apply pw_below_drewN | apply below_drew1) | exact HB.out)⟩
    ·rw [if_neg c13] at H
     exact absurd H (by simp)
end Go.Proofs.Ytjefihcbhdennaa.S
namespace Go.Proofs.YtjefihcbhdennaaW.PrintWords
open Go.RowKit Go.ChangeShapes Go.WideShapes
namespace Kd
/-- What reads as data at type T reads as kind d, and is well formed. -/
def Opens {α : Type} (P : Program) (T : TypeId) (d : Kd α) (wf : α → Prop) : Prop :=
  ∀ {H : Type} (enc : TypeId × Value → H) (w : World) (fuel : Nat) (cs : List Value) (x : DataW H × List MemPlace),
    DataW.trod enc P w 0 (fun _ => true) true fuel T cs = some x → ∃ a : α, d.K w a cs ∧ wf a
theorem opens_string {P : Program} {T : TypeId} (hT : P.underlying T = some .string) : Opens P T Kd.string (fun s => s.size ≤ 9223372036854775807) := by
  intro H enc w fuel cs x h
  obtain ⟨s, h1, _, h2⟩ := DataW.trod_string hT h
  exact ⟨s, h1, by simpa [maxLen] using h2⟩
theorem list_of_lt {α : Type} {Q : Nat → α → Prop} : ∀ n : Nat, (∀ i, i < n → ∃ x, Q i x) → ∃ xs : List α, xs.length = n ∧ ∀ i x, xs[i]? = some x → Q i x
  | 0, _ => ⟨[], rfl, fun i x h => by simp at h⟩
  | n + 1, h => by
    obtain ⟨xs, hl, hq⟩ := list_of_lt n (fun i hi => h i (by omega))
    obtain ⟨y, hy⟩ := h n (by omega)
    refine ⟨xs ++ [y], by simp [hl], fun i x hx => ?_⟩
    rcases Nat.lt_or_ge i n with hlt | hge
    · rw [List.getElem?_append_left (by omega)] at hx
      exact hq i x hx
    · rw [List.getElem?_append_right (by omega)] at hx
      have hi : i - xs.length = 0 := by
        have := (List.getElem?_eq_some_iff.1 hx).1
        simp at this
        omega
      rw [hi] at hx
      simp at hx
      subst hx
      obtain rfl : i = n := by omega
      exact hy
theorem opens_slice {α : Type} {P : Program} {T e : TypeId} {d : Kd α} {wf : α → Prop} (hT : P.underlying T = some (.slice e)) (hc : P.cellsOf e = d.sz) (ho : Opens P e d wf) :
    Opens P T (Kd.slice e d) (fun xs => ∀ x ∈ xs, wf x) := by
  intro H enc w fuel cs x h
  rcases Deep.open_slice hT h with ⟨rfl, _⟩ | ⟨a, len, cap, m, n, D, Pl, rfl, hb, hl, hm, hmm, rfl, hx⟩
  · exact ⟨[], ⟨none, 0, rfl, Nat.le_refl _, C_nil d w⟩, by simp⟩
  · simp only [if_true] at hmm
    subst hmm
    obtain ⟨xs, hlen, hq⟩ := list_of_lt (α := α) (Q := fun i p => ∃ cs', w.cells? 0 (a.add (i * P.cellsOf e)) (P.cellsOf e) = some cs' ∧ d.K w p cs' ∧ wf p) len (fun i hi => by
      obtain ⟨cs', h1, h2⟩ := hx i (by omega)
      obtain ⟨p, hp, hwf⟩ := ho enc w n cs' _ h2
      exact ⟨p, cs', h1, hp, hwf⟩)
    subst hlen
    refine ⟨xs, ⟨some a, m, rfl, hl, rfl, by simp [maxLen] at hm; omega, fun _ => ⟨a, rfl, fun j p hj => ?_⟩⟩, fun p hp => ?_⟩
    · obtain ⟨cs', h1, h2, _⟩ := hq j p hj
      obtain ⟨_, h3, h4⟩ := World.cells?_some h1
      rw [hc] at h3 h4
      refine ⟨cs', h3, h2, fun i u hi => ?_⟩
      have hi2 : i < d.sz := by rw [← h3]; exact (List.getElem?_eq_some_iff.1 hi).1
      rw [← Deep.add_add, h4 i hi2, hi]
    · obtain ⟨i, hi, rfl⟩ := List.getElem_of_mem hp
      obtain ⟨_, _, _, h4⟩ := hq i _ (List.getElem?_eq_getElem hi)
      exact h4
/-- The fields from one on, at an offset. -/
def OpensF {α : Type} (P : Program) (fs : List Field) (off : Nat) (d : Kd α) (wf : α → Prop) : Prop :=
  ∀ {H : Type} (enc : TypeId × Value → H) (w : World) (n : Nat) (cs : List Value), (∀ (i : Nat) (f : Field), fs[i]? = some f → ∃ x, DataW.trod enc P w 0 (fun _ => true) true n f.type ((cs.drop f.offset).take (P.cellsOf f.type)) = some x) →
    cs.length = off + d.sz → ∃ a : α, d.K w a (cs.drop off) ∧ wf a
theorem opensF_one {α : Type} {P : Program} {f : Field} {off : Nat} {d : Kd α} {wf : α → Prop} (hoff : f.offset = off) (hc : P.cellsOf f.type = d.sz) (ho : Opens P f.type d wf) : OpensF P [f] off d wf := by
  intro H enc w n cs h hl
  obtain ⟨x, hx⟩ := h 0 f rfl
  rw [hoff, hc, List.take_of_length_le (by rw [List.length_drop]; omega)] at hx
  exact ho enc w n _ _ hx
theorem opensF_cons {α β : Type} {P : Program} {f : Field} {fs : List Field} {off : Nat} {d : Kd α} {d' : Kd β} {wf : α → Prop} {wf' : β → Prop} (hoff : f.offset = off) (hc : P.cellsOf f.type = d.sz) (ho : Opens P f.type d wf) (hs : OpensF P fs (off + d.sz) d' wf') :
    OpensF P (f :: fs) off (Kd.pair d d') (fun p => wf p.1 ∧ wf' p.2) := by
  intro H enc w n cs h hl
  obtain ⟨x, hx⟩ := h 0 f rfl
  rw [hoff, hc] at hx
  obtain ⟨a, ha, hwa⟩ := ho enc w n _ _ hx
  obtain ⟨b, hb, hwb⟩ := hs enc w n cs (fun i g hg => h (i + 1) g hg) (by rw [hl]; show off + (d.sz + d'.sz) = _; omega)
  refine ⟨(a, b), ⟨_, _, ?_, ha, hb⟩, hwa, hwb⟩
  rw [← List.drop_drop, List.take_append_drop]
theorem opens_struct {α β : Type} {P : Program} {T : TypeId} {fs : Array Field} {d : Kd α} {wf : α → Prop} (f : β → α) (g : α → β) (hfg : ∀ a, f (g a) = a) (hT : P.underlying T = some (.struct fs)) (hc : P.cellsOf T = d.sz) (hs : OpensF P fs.toList 0 d wf) :
    Opens P T (Kd.iso d f) (fun b => wf (f b)) := by
  intro H enc w fuel cs x h
  obtain ⟨xs, n, _, _, hl, hxl, hx⟩ := DataW.trod_struct hT h
  obtain ⟨a, ha, hwa⟩ := hs enc w n cs (fun i f hf => by
    have hi : i < fs.size := by have := (List.getElem?_eq_some_iff.1 hf).1; simpa using this
    refine ⟨_, (hx i f (by simpa using hf)).trans (List.getElem?_eq_getElem (by omega))⟩) (by rw [hl, hc, Nat.zero_add])
  refine ⟨g a, ?_, ?_⟩
  · show d.K w (f (g a)) cs
    rw [hfg]
    exact ha
  · show wf (f (g a))
    rw [hfg]
    exact hwa
/-- An argument that is a slice. -/
theorem arg_slice {α : Type} {P : Program} {T e : TypeId} {d : Kd α} {wf : List α → Prop} (ho : Opens P T (Kd.slice e d) wf) {H : Type} {enc : TypeId × Value → H} {W : World} {v : Value} {x : DataW H} {p : List MemPlace}
    {r : Reach} {base : Nat} (hT : P.underlying T = some (.slice e)) (hv : Value.okWide P W r base T v) (h : DataW.Trod enc P W 0 (fun _ => true) true T v x p) :
    ∃ A c xs, v = .slice A xs.length c ∧ xs.length ≤ c ∧ d.C W A xs.length xs ∧ wf xs := by
  obtain ⟨a, len, cap, rfl⟩ := okWide_slice hT hv
  obtain ⟨fuel, hf⟩ := h
  obtain ⟨xs, ⟨A, c, hcs, hl, hC⟩, hwf⟩ := ho enc W fuel _ _ hf
  simp only [Value.cells, List.cons.injEq, and_true] at hcs
  exact ⟨A, c, xs, hcs, hl, hC, hwf⟩
end Kd
end Go.Proofs.YtjefihcbhdennaaW.PrintWords
namespace Go.Proofs.Ytjefihcbhdennaa.S
open Go.RowKit Go.Proofs.YtjefihcbhdennaaW.PrintWords
theorem wf_i64 {n : Int} (h : (Lit.int .i64 n).wf = true) : -9223372036854775808 ≤ n ∧ n ≤ 9223372036854775807 := by
  simp [Lit.wf] at h
  first | exact h | (have := h.1; have := h.2; exact ⟨by omega, by omega⟩)
theorem opens_imp {α : Type} {P : Program} {T : TypeId} {d : Kd α} {wf wf' : α → Prop} (h : Kd.Opens P T d wf) (hi : ∀ w a cs, d.K w a cs → wf a → wf' a) : Kd.Opens P T d wf' := by
  intro H enc w fuel cs x hx
  obtain ⟨a, h1, h2⟩ := h enc w fuel cs x hx
  exact ⟨a, h1, hi w a cs h1 h2⟩
def W41 (x : S41) : Prop := x.f0.size ≤ 9223372036854775807 ∧ x.f1.size ≤ 9223372036854775807
def WL41 (l : List S41) : Prop := l.length ≤ 9223372036854775807 ∧ ∀ x ∈ l, W41 x
theorem opens41 : Kd.Opens Try.prog 41 k41 W41 := Kd.opens_struct (fun x : S41 => (x.f0, x.f1)) (fun p => ⟨p.1, p.2⟩) (fun _ => rfl) Try.underlying41 (by kernel_rfl)
    (Kd.opensF_cons rfl (by kernel_rfl) (Kd.opens_string Try.underlying9) (Kd.opensF_one rfl (by kernel_rfl) (Kd.opens_string Try.underlying9)))
theorem opens24 : Kd.Opens Try.prog 24 (Kd.slice 41 k41) WL41 := opens_imp (Kd.opens_slice Try.underlying24 (by kernel_rfl) opens41) (fun w a cs h k => by
  obtain ⟨A, c, _, _, g⟩ := h
  exact ⟨g.2.1, k⟩)
end Go.Proofs.Ytjefihcbhdennaa.S
namespace Go.Proofs.Ytjefihcbhdennaa.Pure
open Go.RowKit Go.Proofs.YtjefihcbhdennaaW.PrintWords Go.Proofs.Ytjefihcbhdennaa.S
theorem w1 {i n : Nat} (h : i < n) (hn : n ≤ 9223372036854775807) : wrap64 ((i : Int) + 1) = ((i + 1 : Nat) : Int) := by unfold wrap64; omega
theorem rd41 (l : List S41) (i : Nat) (h : i < l.length) : rd_T41 l (i : Int) = l[i] := by
  simp [rd_T41, List.getD_eq_getElem?_getD, h]
theorem bl (a b : ByteArray) : Op.bytesLess a.toList b.toList = decide (a.toList < b.toList) := Proofs.bytesLess_eq _ _
theorem lt_tri (a b : List UInt8) : a < b ∨ a = b ∨ b < a := by
  by_cases h1 : a < b
  · exact .inl h1
  · by_cases h : b < a
    · exact .inr (.inr h)
    · exact .inr (.inl (List.le_antisymm (List.not_lt.1 h) (List.not_lt.1 h1)))
theorem maxS_toList (x y : ByteArray) : (Lib.maxS x y).toList = if x.toList < y.toList then y.toList else x.toList := by
  unfold Lib.maxS
  rw [Lib.toList_data, Lib.toList_data, Lib.toList_data]
  by_cases h : x.data.toList < y.data.toList <;> simp [h]
theorem ltt {a b c : List UInt8} (h : a < b) (k : b < c) : a < c := List.lt_trans h k
theorem lti (a : List UInt8) : ¬ a < a := List.lt_irrefl a
def FewB (l : List S41) : Bool := decide ((l.length : Int) ≤ 40) && l.all fun s => decide (s.f0.size ≤ 300) && decide (s.f1.size ≤ 300)
theorem Few_ev (l : List S41) (hl : l.length ≤ 9223372036854775807) : Ev (fun k => conductorlaw09_Few.f k l) (FewB l) := by
  have key : ∀ d i : Nat, i + d = l.length → Ev (fun k => conductorlaw09_Few.l0 k l l (l.length : Int) (i : Int)) (decide ((l.length : Int) ≤ 40) && (l.drop i).all fun s => decide (s.f0.size ≤ 300) && decide (s.f1.size ≤ 300)) := by
    intro d
    induction d with
    | zero =>
      intro i hd
      refine Ev.step (f := fun _ => some (decide ((l.length : Int) ≤ 40))) (fun k => ?_) ?_
      · simp only [conductorlaw09_Few.l0]
        rw [if_neg (by omega)]
      · rw [List.drop_eq_nil_of_le (by omega)]; simpa using Ev.now _
    | succ d ih =>
      intro i hd
      have hi : i < l.length := by omega
      rw [List.drop_eq_getElem_cons hi, List.all_cons]
      by_cases h1 : (l[i].f0.size : Int) > 300
      · refine Ev.step (f := fun _ => some false) (fun k => ?_) ?_
        · simp only [conductorlaw09_Few.l0]
          rw [if_pos (by omega), if_pos (by omega), if_pos (by omega), rd41 _ i hi, if_pos h1]
        · have : ¬ l[i].f0.size ≤ 300 := by omega
          simpa [this] using Ev.now false
      · by_cases h2 : (l[i].f1.size : Int) > 300
        · refine Ev.step (f := fun _ => some false) (fun k => ?_) ?_
          · simp only [conductorlaw09_Few.l0]
            rw [if_pos (by omega), if_pos (by omega), if_pos (by omega), rd41 _ i hi, if_neg h1, if_pos h2]
          · have : ¬ l[i].f1.size ≤ 300 := by omega
            simpa [this] using Ev.now false
        · have h1' : l[i].f0.size ≤ 300 := by omega
          have h2' : l[i].f1.size ≤ 300 := by omega
          have := ih (i + 1) (by omega)
          refine Ev.step (fun k => ?_) (by simpa [h1', h2'] using this)
          simp only [conductorlaw09_Few.l0]
          rw [if_pos (by omega), if_pos (by omega), if_pos (by omega), rd41 _ i hi, if_neg h1, if_neg h2, w1 hi hl]; rfl
  exact key l.length 0 (by omega)
end Go.Proofs.Ytjefihcbhdennaa.Pure
namespace Go.Proofs.Ytjefihcbhdennaa.Pure
open Go.RowKit Go.Proofs.YtjefihcbhdennaaW.PrintWords Go.Proofs.Ytjefihcbhdennaa.S
def g (d : List S41) (i : Nat) : S41 := d.getD i z41
theorem rd_g (d : List S41) (i : Nat) : rd_T41 d (i : Int) = g d i := by simp [rd_T41, g]
theorem g_get (d : List S41) (i : Nat) (h : i < d.length) : g d i = d[i] := by simp [g, List.getD_eq_getElem?_getD, h]
def sw (d : List S41) (i j : Nat) : List S41 := (d.set i (g d j)).set j (g d i)
theorem sw_len (d : List S41) (i j : Nat) : (sw d i j).length = d.length := by simp [sw]
theorem g_sw (d : List S41) (i j t : Nat) (hi : i < d.length) (hj : j < d.length) : g (sw d i j) t = if t = j then g d i else if t = i then g d j else g d t := by
  unfold sw g
  simp only [List.getD_eq_getElem?_getD, List.getElem?_set, List.length_set]
  by_cases h1 : t = j
  · subst h1; simp [hj]
  · by_cases h2 : t = i
    · subst h2; simp [Ne.symm h1, hi, h1]
    · simp [Ne.symm h1, Ne.symm h2, h1, h2]
theorem sw_perm (d : List S41) (i j : Nat) (hi : i < d.length) (hj : j < d.length) : (sw d i j).Perm d := by
  unfold sw
  rw [g_get d i hi, g_get d j hj]
  exact List.set_set_perm hi hj
def le (x y : S41) : Prop := ¬ y.f0.toList < x.f0.toList
theorem le_refl (x : S41) : le x x := lti _
theorem le_trans {x y z : S41} (h : le x y) (k : le y z) : le x z := fun hz => by
  rcases lt_tri x.f0.toList y.f0.toList with e | e | e
  · exact k (ltt hz e)
  · unfold le at k; rw [← e] at k; exact k hz
  · exact h e
theorem le_of_lt {x y : S41} (h : x.f0.toList < y.f0.toList) : le x y := fun k => lti _ (ltt h k)
theorem cmpL_lt : ∀ a b : List UInt8, Lib.compareBytes a b < 0 ↔ a < b
  | [], [] => by simp [Lib.compareBytes]
  | [], _ :: _ => by simp [Lib.compareBytes]
  | _ :: _, [] => by simp [Lib.compareBytes]
  | a :: u, b :: v => by
    simp only [Lib.compareBytes, List.cons_lt_cons_iff]
    by_cases h1 : a < b
    · simp [h1]
    · by_cases h2 : b < a
      · have : a ≠ b := fun e => by subst e; exact h1 h2
        simp [h1, h2, this]
      · have : a = b := UInt8.le_antisymm (UInt8.not_lt.1 h2) (UInt8.not_lt.1 h1)
        simp [h1, h2, this, cmpL_lt u v]
theorem cmp_some (x y : S41) : ∃ c : Int, span_Join_2.f x.f0 x.f1 y.f0 y.f1 = some c ∧ (c < 0 ↔ x.f0.toList < y.f0.toList) := by
  refine ⟨Lib.compareBytes x.f0.data.toList y.f0.data.toList, rfl, ?_⟩
  rw [cmpL_lt, Lib.toList_data, Lib.toList_data]
def Keep (d r : List S41) (a b : Nat) : Prop := r.length = d.length ∧ r.Perm d ∧ (∀ t, t < a ∨ b ≤ t → g r t = g d t) ∧ ∀ t, a ≤ t → t < b → ∃ s, a ≤ s ∧ s < b ∧ g r t = g d s
theorem Keep.refl (d : List S41) (a b : Nat) : Keep d d a b := ⟨rfl, List.Perm.refl _, fun _ _ => rfl, fun t h1 h2 => ⟨t, h1, h2, rfl⟩⟩
theorem Keep.wide {d r : List S41} {a b a' b' : Nat} (h : Keep d r a b) (ha : a' ≤ a) (hb : b ≤ b') : Keep d r a' b' :=
  ⟨h.1, h.2.1, fun t ht => h.2.2.1 t (by omega), fun t h1 h2 => by
    by_cases hin : a ≤ t ∧ t < b
    · obtain ⟨s, s1, s2, s3⟩ := h.2.2.2 t hin.1 hin.2
      exact ⟨s, by omega, by omega, s3⟩
    · exact ⟨t, h1, h2, h.2.2.1 t (by omega)⟩⟩
theorem Keep.trans {d r q : List S41} {a b : Nat} (h : Keep d r a b) (k : Keep r q a b) : Keep d q a b :=
  ⟨k.1.trans h.1, k.2.1.trans h.2.1, fun t ht => (k.2.2.1 t ht).trans (h.2.2.1 t ht), fun t h1 h2 => by
    obtain ⟨s, s1, s2, s3⟩ := k.2.2.2 t h1 h2
    obtain ⟨u, u1, u2, u3⟩ := h.2.2.2 s s1 s2
    exact ⟨u, u1, u2, s3.trans u3⟩⟩
theorem Keep.sw {d : List S41} {i j a b : Nat} (hi : i < d.length) (hj : j < d.length) (h1 : a ≤ i) (h2 : i < b) (h3 : a ≤ j) (h4 : j < b) : Keep d (sw d i j) a b :=
  ⟨sw_len d i j, sw_perm d i j hi hj, fun t ht => by rw [g_sw d i j t hi hj, if_neg (by omega), if_neg (by omega)], fun t k1 k2 => by
    rw [g_sw d i j t hi hj]
    split
    · exact ⟨i, h1, h2, rfl⟩
    · split
      · exact ⟨j, h3, h4, rfl⟩
      · exact ⟨t, k1, k2, rfl⟩⟩
def Srt (d : List S41) (a b : Nat) : Prop := ∀ p q, a ≤ p → p < q → q < b → le (g d p) (g d q)
theorem Srt.same {d r : List S41} {a b : Nat} (h : Srt d a b) (e : ∀ t, a ≤ t → t < b → g r t = g d t) : Srt r a b := fun p q h1 h2 h3 => by
  rw [e p h1 (by omega), e q (by omega) h3]; exact h p q h1 h2 h3
abbrev Small (n : Nat) : Prop := n < 1000000
theorem wp {i j : Nat} (hi : Small i) (hj : Small j) : wrap64 ((i : Int) + (j : Int)) = ((i + j : Nat) : Int) := by unfold wrap64; simp only [Small] at hi hj; omega
theorem wm {i j : Nat} (hi : Small i) (h : j ≤ i) : wrap64 ((i : Int) - (j : Int)) = ((i - j : Nat) : Int) := by unfold wrap64; simp only [Small] at hi; omega
theorem wm1 {i : Nat} (hi : Small i) (h : 1 ≤ i) : wrap64 ((i : Int) - 1) = ((i - 1 : Nat) : Int) := by unfold wrap64; simp only [Small] at hi; omega
theorem wp1 {i : Nat} (hi : Small i) : wrap64 ((i : Int) + 1) = ((i + 1 : Nat) : Int) := by unfold wrap64; simp only [Small] at hi; omega
theorem wmid {i j : Nat} (hi : Small i) (hj : Small j) : wrap64 ((IntKind.u64.wrap (wrap64 ((i : Int) + (j : Int)))) / 2) = (((i + j) / 2 : Nat) : Int) := by
  rw [wp hi hj]
  have : IntKind.u64.wrap ((i + j : Nat) : Int) = ((i + j : Nat) : Int) := by
    simp only [Small] at hi hj
    simp only [IntKind.wrap]
    first | omega | (simp [IntKind.signed, IntKind.bits]; omega) | (unfold wrapU; omega)
  rw [this]; unfold wrap64; simp only [Small] at hi hj; omega
theorem ins_inner (a b i : Nat) (hb : Small b) (hai : a ≤ i) (hib : i < b) (d0 : List S41) (R : List S41 → Prop)
    (hc : ∀ d : List S41, Keep d0 d a b → Srt d a (i + 1) → ∃ r, Ev (fun k => api_Span_80.l0 k d a b ((i + 1 : Nat) : Int)) r ∧ R r) (hb0 : b ≤ d0.length) : ∀ (j : Nat) (d : List S41), a ≤ j → j ≤ i → Keep d0 d a b → (∀ p q, a ≤ p → p < q → q ≤ i → q ≠ j → le (g d p) (g d q)) →
    ∃ r, Ev (fun k => api_Span_80.l1 k d a b i j) r ∧ R r := by
  intro j
  induction j with
  | zero =>
    intro d haj hji hk hs
    obtain ⟨r, h1, h2⟩ := hc d hk (fun p q k1 k2 k3 => hs p q k1 k2 (by omega) (by omega))
    refine ⟨r, Ev.step (fun k => ?_) h1, h2⟩
    simp only [api_Span_80.l1]
    rw [if_neg (by omega), wp1 (by simp only [Small] at *; omega)]
  | succ j ih =>
    intro d haj hji hk hs
    by_cases hja : j + 1 > a
    · have hjd : j + 1 < d.length := by rw [hk.1]; omega
      obtain ⟨c, e1, e2⟩ := cmp_some (g d (j + 1)) (g d j)
      have ej : wrap64 (((j + 1 : Nat) : Int) - 1) = (j : Int) := by rw [wm1 (by simp only [Small] at *; omega) (by omega)]; rfl
      by_cases hlt : c < 0
      · have hlt' := e2.1 hlt
        have h0 := ih (sw d (j + 1) j) (by omega) (by omega) (hk.trans (Keep.sw hjd (by omega) (by omega) (by omega) (by omega) (by omega))) (fun p q k1 k2 k3 k4 => by
          rw [g_sw _ _ _ _ hjd (by omega), g_sw _ _ _ _ hjd (by omega)]
          by_cases q1 : q = j + 1
          · subst q1
            rw [if_neg (show ¬ j + 1 = j by omega), if_pos rfl]
            by_cases p1 : p = j
            · subst p1; rw [if_pos rfl]; exact le_of_lt hlt'
            · rw [if_neg p1, if_neg (by omega)]; exact hs p j k1 (by omega) (by omega) (by omega)
          · rw [if_neg k4, if_neg q1]
            by_cases p1 : p = j
            · subst p1; rw [if_pos rfl]; exact hs (p + 1) q (by omega) (by omega) k3 q1
            · rw [if_neg p1]
              by_cases p2 : p = j + 1
              · subst p2; rw [if_pos rfl]; exact hs j q (by omega) (by omega) k3 q1
              · rw [if_neg p2]; exact hs p q k1 k2 k3 q1)
        obtain ⟨r, h1, h2⟩ := h0
        refine ⟨r, Ev.step (fun k => ?_) h1, h2⟩
        simp only [api_Span_80.l1]
        rw [if_pos (by omega), if_pos (by omega), if_pos (by omega), ej, if_pos (by omega), if_pos (by omega), rd_g, rd_g, e1, Option.bind_some, if_pos hlt]
        simp only [Int.toNat_natCast]; rfl
      · have hle : le (g d j) (g d (j + 1)) := fun h => hlt (e2.2 h)
        obtain ⟨r, h1, h2⟩ := hc d hk (fun p q k1 k2 k3 => by
          by_cases q1 : q = j + 1
          · subst q1
            by_cases p1 : p = j
            · subst p1; exact hle
            · exact le_trans (hs p j k1 (by omega) (by omega) (by omega)) hle
          · exact hs p q k1 k2 (by omega) q1)
        refine ⟨r, Ev.step (fun k => ?_) h1, h2⟩
        simp only [api_Span_80.l1]
        rw [if_pos (by omega), if_pos (by omega), if_pos (by omega), ej, if_pos (by omega), if_pos (by omega), rd_g, rd_g, e1, Option.bind_some, if_neg hlt, wp1 (by simp only [Small] at *; omega)]
    · obtain ⟨r, h1, h2⟩ := hc d hk (fun p q k1 k2 k3 => hs p q k1 k2 (by omega) (by omega))
      refine ⟨r, Ev.step (fun k => ?_) h1, h2⟩
      simp only [api_Span_80.l1]
      rw [if_neg (by omega), wp1 (by simp only [Small] at *; omega)]
theorem ins_outer (a b : Nat) (hb : Small b) (d0 : List S41) (hb0 : b ≤ d0.length) : ∀ (n i : Nat) (d : List S41), i + n = b → a < i → Keep d0 d a b → Srt d a i →
    ∃ r, Ev (fun k => api_Span_80.l0 k d a b i) r ∧ Keep d0 r a b ∧ Srt r a b := by
  intro n
  induction n with
  | zero =>
    intro i d hi hai hk hs
    refine ⟨d, Ev.step (f := fun _ => some d) (fun k => ?_) (Ev.now _), hk, ?_⟩
    · simp only [api_Span_80.l0]
      rw [if_neg (by omega)]
    · rwa [show i = b by omega] at hs
  | succ n ih =>
    intro i d hi hai hk hs
    obtain ⟨r, h1, h2⟩ := ins_inner a b i hb (by omega) (by omega) d0 (fun r => Keep d0 r a b ∧ Srt r a b) (fun d' k' s' => ih (i + 1) d' (by omega) (by omega) k' s') hb0 i d (by omega) (Nat.le_refl _) hk (fun p q k1 k2 k3 k4 => hs p q k1 k2 (by omega))
    refine ⟨r, Ev.step (fun k => ?_) h1, h2⟩
    simp only [api_Span_80.l0]
    rw [if_pos (by omega)]
theorem ins_ev (d : List S41) (a b : Nat) (hb : Small b) (hab : a ≤ b) (hbd : b ≤ d.length) : ∃ r, Ev (fun k => api_Span_80.f k d a b) r ∧ Keep d r a b ∧ Srt r a b := by
  unfold api_Span_80.f
  rw [wp1 (by simp only [Small] at *; omega)]
  by_cases h : a + 1 ≤ b
  · exact ins_outer a b hb d hbd (b - (a + 1)) (a + 1) d (by omega) (by omega) (Keep.refl _ _ _) (fun p q k1 k2 k3 => by omega)
  · refine ⟨d, Ev.step (f := fun _ => some d) (fun k => ?_) (Ev.now _), Keep.refl _ _ _, fun p q k1 k2 k3 => by omega⟩
    simp only [api_Span_80.l0]
    rw [if_neg (by omega)]
end Go.Proofs.Ytjefihcbhdennaa.Pure
