/- Texts of this session, merged for the law SsiJoins: S74, O, SK, SPa. No condition. -/
import Derived.Test.YtjefihcbhdennaaZSsiJoinsd
import Derived.Test.YtjefihcbhdennaaZSsiJoinsp
import Derived.Test.YtjefihcbhdennaaZSsiJoinsr
import Derived.Test.YtjefihcbhdennaaZSsiJoinss
import Derived.Test.YtjefihcbhdennaaZSsiJoinsv
import Derived.Test.YtjefihcbhdennaaZSsiJoinsx
import Derived.Test.YtjefihcbhdennaaZSsiJoinsy
import Derived.Test.YtjefihcbhdennaaZSsiJoinsz
import Derived.Test.YtjefihcbhdennaaZSsiJoinsl
import Derived.Deep.Slices
import Derived.ChangeArms
import Derived.WideShapes
import Derived.ChangeAt2
import Derived.Lib.SmallJoins
namespace Go.Proofs.Ytjefihcbhdennaa.S
open Go.RowKit Go.Proofs.YtjefihcbhdennaaW.PrintWords Go.Proofs.YtjefihcbhdennaaW.PrintLast Go.Proofs.YtjefihcbhdennaaW.PrintMore
attribute [local go_sem] max2_int min2_int max2_str min2_str str_leq str_gtr str_geq max_two min_two max_three min_three max_four min_four
set_option linter.unusedVariables false
set_option linter.unusedSimpArgs false
mutual
def conductorlaw10_SsiJoins.j0 : Nat → List (S26) → List (S26) → Int → Int → Int → Bool → Option (Bool)
 | 0, _, _, _, _, _, _ => none
 | k + 1, x0, x1, x2, x3, x4, x23 => if x23 = true then ((conductorlaw10_live.f k).bind fun t703 => (some t703)) else ((some (([] : List (S26)) : List (S26))).bind fun y704 => (if y704.length + x0.length < 1759218604441 then ((some (y704 ++ x0 : List (S26))).bind fun y707 => (if (x0.length : Int) > 1 then (if 0 < (x0.length : Int) then (if 1 < (x0.length : Int) then ((ssi_Join.f k ((rd_T26 x0 0).f0) ((rd_T26 x0 0).f1) ((rd_T26 x0 0).f2) ((rd_T26 x0 0).f3) ((rd_T26 x0 0).f4) ((rd_T26 x0 0).f5) ((rd_T26 x0 1).f0) ((rd_T26 x0 1).f1) ((rd_T26 x0 1).f2) ((rd_T26 x0 1).f3) ((rd_T26 x0 1).f4) ((rd_T26 x0 1).f5) x4).bind fun bt712 => ((conductorref10_Join.f k ((rd_T26 x0 0).f0) ((rd_T26 x0 0).f1) ((rd_T26 x0 0).f2) ((rd_T26 x0 0).f3) ((rd_T26 x0 0).f4) ((rd_T26 x0 0).f5) ((rd_T26 x0 1).f0) ((rd_T26 x0 1).f1) ((rd_T26 x0 1).f2) ((rd_T26 x0 1).f3) ((rd_T26 x0 1).f4) ((rd_T26 x0 1).f5) x4).bind fun bt724 => ((conductorref10_SameOne.f k bt712.1 bt712.2.1 bt712.2.2.1 bt712.2.2.2.1 bt712.2.2.2.2.1 bt712.2.2.2.2.2 bt724.1 bt724.2.1 bt724.2.2.1 bt724.2.2.2.1 bt724.2.2.2.2.1 bt724.2.2.2.2.2).bind fun t734 => (conductorlaw10_SsiJoins.j1 k x0 x1 x2 x3 x4 y707 (!t734))))) else (none)) else (none)) else (conductorlaw10_SsiJoins.j1 k x0 x1 x2 x3 x4 y707 false))) else (none)))
def conductorlaw10_SsiJoins.j1 : Nat → List (S26) → List (S26) → Int → Int → Int → List (S26) → Bool → Option (Bool)
 | 0, _, _, _, _, _, _, _ => none
 | k + 1, x0, x1, x2, x3, x4, x11, x50 => if x50 = true then (some false) else ((ssi_Forget.f k x0 x2).bind fun t735 => ((conductorref10_Forget.f k x0 x2).bind fun t738 => ((conductorref10_Same.f k t735 t738).bind fun t741 => (if t741 = true then ((ssi_Fit.f k x0 x3 x4).bind fun t742 => ((conductorref10_Fit.f k x0 x3 x4).bind fun t745 => ((conductorref10_Same.f k t742 t745).bind fun t748 => (if t748 = true then ((ssi_Same.f k x0 x1).bind fun t749 => ((conductorref10_Same.f k x0 x1).bind fun t750 => (if (t749 == t750) = true then ((conductorref10_Same.f k x0 x11).bind fun t751 => (some t751)) else (some false)))) else (some false))))) else (some false)))))
end
def conductorlaw10_SsiJoins.f (k : Nat) (l0 : List (S26)) (l1 : List (S26)) (a2 : Int) (a3 : Int) (a4 : Int) : Option (Bool) := (conductorlaw10_live.f k).bind fun t700 => (if t700 = true then ((conductorlaw10_few.f k l0).bind fun t701 => (if t701 = true then ((conductorlaw10_few.f k l1).bind fun t702 => (conductorlaw10_SsiJoins.j0 k l0 l1 a2 a3 a4 (!t702))) else (conductorlaw10_SsiJoins.j0 k l0 l1 a2 a3 a4 true))) else (conductorlaw10_SsiJoins.j0 k l0 l1 a2 a3 a4 true))
def conductorlaw10_SsiJoins.T4 : Bool × List (List Nat × List Nat) := (true, [([], []), ([0], [0]), ([1], [1]), ([2], [2]), ([3], [3]), ([4, 3], [3, 4]), ([5, 3], [3, 5]), ([3], [3]), ([7, 3], [3, 7]), ([8, 3], [3, 8]), ([3], [3]), ([6, 9, 10, 3, 3], [3, 6, 9, 10]), ([3], [3]), ([12, 3], [3, 12]), ([13, 3], [3, 13]), ([3], [3]), ([15, 3], [3, 15]), ([16, 3], [3, 16]), ([3], [3]), ([14, 17, 18, 11, 3], [3, 14, 17, 18]), ([11, 19, 19, 3], [3, 11, 19]), ([20, 3], [3, 20]), ([3, 21], [3, 21])])
def conductorlaw10_SsiJoins.B4 : List Nat := [0, 1, 3, 7, 15, 31, 63, 15, 143, 399, 15, 2047, 15, 4111, 12303, 15, 32783, 98319, 15, 524287, 1048575, 2097151, 4194303]
theorem conductorlaw10_SsiJoins.tab4 : rtab .any (opsOf Try.f14 4) = conductorlaw10_SsiJoins.T4 := by kernel_rfl
theorem conductorlaw10_SsiJoins.bits4 : waitsOk conductorlaw10_SsiJoins.T4.2 conductorlaw10_SsiJoins.B4 = true := by kernel_rfl
set_option maxHeartbeats 8000000 in
set_option maxRecDepth 100000 in
theorem conductorlaw10_SsiJoins.calls (k : Nat) (P0_ : Nat → Prop) (A0 : Option Addr) (c0 : Nat) (l0 : List (S26)) (A1 : Option Addr) (c1 : Nat) (l1 : List (S26)) (a2 : Int) (a3 : Int) (a4 : Int) (r : Bool) (w : World) (hs0 : Kd.V k26 26 w w.heap.size (fun k_ => P0_ k_) (.slice A0 l0.length c0) l0) (hr1 : Kd.C k26 w A1 l1.length l1) (hc1 : l1.length ≤ c1) (h : conductorlaw10_SsiJoins.f k l0 l1 a2 a3 a4 = some r) (hT : Aside0 (r = true)) :
  Calls Try.prog 14 #[.slice A0 l0.length c0, .slice A1 l1.length c1, .int .u64 a2, .int .i64 a3, .int .i64 a4] w fun e w' => e = .returned (.bool r) ∧ Below w.heap.size w w' := by
 have hu26 := Try.underlying26
 have HO0 := Aside0.mk (show Kd.V k26 26 w w.heap.size (fun k_ => (P0_ k_ ∨ w.heap.size ≤ k_)) (.slice A0 l0.length c0) l0 from Kd.V_mono hs0 (fun k_ hk => .inl hk))
 have HR1 := Aside0.mk hr1; have HC1 := Aside0.mk hc1; clear hr1 hc1
 have HB := Aside0.mk (Below.refl w.heap.size w)
 have H : ((conductorlaw10_live.f k).bind fun t700 => (if t700 = true then ((conductorlaw10_few.f k l0).bind fun t701 => (if t701 = true then ((conductorlaw10_few.f k l1).bind fun t702 => (conductorlaw10_SsiJoins.j0 k l0 l1 a2 a3 a4 (!t702))) else (conductorlaw10_SsiJoins.j0 k l0 l1 a2 a3 a4 true))) else (conductorlaw10_SsiJoins.j0 k l0 l1 a2 a3 a4 true))) = some r := h
 clear h; have HC6 := Aside0.mk H; clear H
 go_enter Try.func14, Try.ntmps14
 go_upto_region 1 with (fail)
 go_cut [23] (fun v23 wc => ∃ (kq : Nat) (x23_5 : Bool), v23 = .bool x23_5 ∧ Aside0 (conductorlaw10_SsiJoins.j0 kq l0 l1 a2 a3 a4 x23_5 = some r) ∧ Aside0 (kq ≤ k) ∧ Aside0 (Kd.V k26 26 wc w.heap.size (fun k_ => (P0_ k_ ∨ w.heap.size ≤ k_)) (.slice A0 l0.length c0) l0) ∧ Aside0 (Below w.heap.size w wc))
 case first =>
  have H := HC6.out
  clear HC6; replace H := Option.bind_eq_some_iff.mp H; obtain ⟨t700, A70, H⟩ := H
  replace H : (if t700 = true then ((conductorlaw10_few.f k l0).bind fun t701 => (if t701 = true then ((conductorlaw10_few.f k l1).bind fun t702 => (conductorlaw10_SsiJoins.j0 k l0 l1 a2 a3 a4 (!t702))) else (conductorlaw10_SsiJoins.j0 k l0 l1 a2 a3 a4 true))) else (conductorlaw10_SsiJoins.j0 k l0 l1 a2 a3 a4 true)) = some r := H
  have A7 := Aside0.mk A70; clear A70
  by_cases c8 : t700 = true
  ·subst c8
   have H1 : ((conductorlaw10_few.f k l0).bind fun t701 => (if t701 = true then ((conductorlaw10_few.f k l1).bind fun t702 => (conductorlaw10_SsiJoins.j0 k l0 l1 a2 a3 a4 (!t702))) else (conductorlaw10_SsiJoins.j0 k l0 l1 a2 a3 a4 true))) = some r := by rw [if_pos rfl] at H; exact H
   clear H; have H := H1; clear H1; replace H := Option.bind_eq_some_iff.mp H; obtain ⟨t701, A90, H⟩ := H
   replace H : (if t701 = true then ((conductorlaw10_few.f k l1).bind fun t702 => (conductorlaw10_SsiJoins.j0 k l0 l1 a2 a3 a4 (!t702))) else (conductorlaw10_SsiJoins.j0 k l0 l1 a2 a3 a4 true)) = some r := H
   have A9 := Aside0.mk A90; clear A90
   by_cases c10 : t701 = true
   ·subst c10
    have H1 : ((conductorlaw10_few.f k l1).bind fun t702 => (conductorlaw10_SsiJoins.j0 k l0 l1 a2 a3 a4 (!t702))) = some r := by rw [if_pos rfl] at H; exact H
    clear H; have H := H1; clear H1; replace H := Option.bind_eq_some_iff.mp H; obtain ⟨t702, A110, H⟩ := H
    replace H : (conductorlaw10_SsiJoins.j0 k l0 l1 a2 a3 a4 (!t702)) = some r := H
    have A11 := Aside0.mk A110; clear A110; have H' := Aside0.mk H; clear H
    go_wp2_with (first | ((with_reducible refine gate_callee (f := 15) rfl ?_); refine goesL_ (some 12) rfl rfl Try.func15 (by kernel_rfl) rfl #[] rfl sa_ ?_; (with_reducible refine (conductorlaw10_live.calls k  true _ A7.out).mono ?_); rintro e w12 ⟨rfl, hb⟩; refine ⟨_, rfl, ?_⟩; have n0_ := Aside0.mk (Kd.V_below (by exact HO0.out) hb); have n1_ := Aside0.mk (below_step bl_ hb); clear HO0; clear HB; have HO0 := n0_; have HB := n1_; clear n0_ n1_; (try clear hb); (try clear hb2); (try clear hk); (try clear hi)) | (go_at_call 16; (with_reducible refine (conductorlaw10_few.calls k _ _ l0 true _ ?side1 ?side2 A9.out).mono ?_); (case side1 => exact (Kd.V_reads' HO0.out).2.2); (case side2 => exact (Kd.V_reads' HO0.out).2.1); rintro e w13 ⟨rfl, hb⟩; have n0_ := Aside0.mk (Kd.V_below (by exact HO0.out) hb); have n1_ := Aside0.mk (below_step bl_ hb); clear HO0; clear HB; have HO0 := n0_; have HB := n1_; clear n0_ n1_; (try clear hb); (try clear hb2); (try clear hk); (try clear hi)) | (go_at_call 16; (with_reducible refine (conductorlaw10_few.calls k _ _ l1 t702 _ ?side1 ?side2 A11.out).mono ?_); (case side1 => exact (Kd.C_below HR1.out HB.out)); (case side2 => exact HC1.out); rintro e w14 ⟨rfl, hb⟩; have n0_ := Aside0.mk (Kd.V_below (by exact HO0.out) hb); have n1_ := Aside0.mk (below_step bl_ hb); clear HO0; clear HB; have HO0 := n0_; have HB := n1_; clear n0_ n1_; (try clear hb); (try clear hb2); (try clear hk); (try clear hi)))
    go_meet
    case rel => exact ⟨_, (!t702), (by first | rfl | (simp; done) | (simp [*]; done)), H', ⟨by first | omega | exact Nat.le_refl _⟩, ⟨by exact HO0.out⟩, ⟨bl_⟩⟩
   ·replace c10 := Bool.eq_false_iff.mpr c10
    subst c10
    have H1 : (conductorlaw10_SsiJoins.j0 k l0 l1 a2 a3 a4 true) = some r := by rw [if_neg (show ¬ (false = true) by decide)] at H; exact H
    clear H; have H := H1; clear H1; have H' := Aside0.mk H; clear H
    go_wp2_with (first | ((with_reducible refine gate_callee (f := 15) rfl ?_); refine goesL_ (some 12) rfl rfl Try.func15 (by kernel_rfl) rfl #[] rfl sa_ ?_; (with_reducible refine (conductorlaw10_live.calls k  true _ A7.out).mono ?_); rintro e w15 ⟨rfl, hb⟩; refine ⟨_, rfl, ?_⟩; have n0_ := Aside0.mk (Kd.V_below (by exact HO0.out) hb); have n1_ := Aside0.mk (below_step bl_ hb); clear HO0; clear HB; have HO0 := n0_; have HB := n1_; clear n0_ n1_; (try clear hb); (try clear hb2); (try clear hk); (try clear hi)) | (go_at_call 16; (with_reducible refine (conductorlaw10_few.calls k _ _ l0 false _ ?side1 ?side2 A9.out).mono ?_); (case side1 => exact (Kd.V_reads' HO0.out).2.2); (case side2 => exact (Kd.V_reads' HO0.out).2.1); rintro e w16 ⟨rfl, hb⟩; have n0_ := Aside0.mk (Kd.V_below (by exact HO0.out) hb); have n1_ := Aside0.mk (below_step bl_ hb); clear HO0; clear HB; have HO0 := n0_; have HB := n1_; clear n0_ n1_; (try clear hb); (try clear hb2); (try clear hk); (try clear hi)))
    go_meet
    case rel => exact ⟨_, (true), (by first | rfl | (simp; done) | (simp [*]; done)), H', ⟨by first | omega | exact Nat.le_refl _⟩, ⟨by exact HO0.out⟩, ⟨bl_⟩⟩
  ·replace c8 := Bool.eq_false_iff.mpr c8
   subst c8
   have H1 : (conductorlaw10_SsiJoins.j0 k l0 l1 a2 a3 a4 true) = some r := by rw [if_neg (show ¬ (false = true) by decide)] at H; exact H
   clear H; have H := H1; clear H1; have H' := Aside0.mk H; clear H
   go_wp2_with (first | ((with_reducible refine gate_callee (f := 15) rfl ?_); refine goesL_ (some 12) rfl rfl Try.func15 (by kernel_rfl) rfl #[] rfl sa_ ?_; (with_reducible refine (conductorlaw10_live.calls k  false _ A7.out).mono ?_); rintro e w17 ⟨rfl, hb⟩; refine ⟨_, rfl, ?_⟩; have n0_ := Aside0.mk (Kd.V_below (by exact HO0.out) hb); have n1_ := Aside0.mk (below_step bl_ hb); clear HO0; clear HB; have HO0 := n0_; have HB := n1_; clear n0_ n1_; (try clear hb); (try clear hb2); (try clear hk); (try clear hi)))
   go_meet
   case rel => exact ⟨_, (true), (by first | rfl | (simp; done) | (simp [*]; done)), H', ⟨by first | omega | exact Nat.le_refl _⟩, ⟨by exact HO0.out⟩, ⟨bl_⟩⟩
 case rest =>
  clear HC6; obtain ⟨kq, x23_5, rfl, HA, HJ5, HO_0, HB⟩ := hcut
  cases kq with
  | zero => exact absurd HA.out (by simp [conductorlaw10_SsiJoins.j0])
  | succ kj5 =>
   have H := HA.out
   clear HA
   simp only [conductorlaw10_SsiJoins.j0] at H
   by_cases c18 : x23_5 = true
   ·subst c18
    have H1 : ((conductorlaw10_live.f kj5).bind fun t703 => (some t703)) = some r := by rw [if_pos rfl] at H; exact H
    clear H; have H := H1; clear H1; replace H := Option.bind_eq_some_iff.mp H; obtain ⟨t703, A190, H⟩ := H
    replace H : (some t703) = some r := H
    have A19 := Aside0.mk A190; clear A190; obtain rfl := Option.some.inj H
    go_wp2_with (first | ((with_reducible refine gate_callee (f := 15) rfl ?_); refine goesL_ (some 24) rfl rfl Try.func15 (by kernel_rfl) rfl #[] rfl sa_ ?_; (with_reducible refine (conductorlaw10_live.calls kj5  t703 _ A19.out).mono ?_); rintro e w20 ⟨rfl, hb⟩; refine ⟨_, rfl, ?_⟩; have n0_ := Aside0.mk (Kd.V_below (by exact HO_0.out) hb); have n1_ := Aside0.mk (below_step bl_ hb); clear HO_0; clear HB; have HO_0 := n0_; have HB := n1_; clear n0_ n1_; (try clear hb); (try clear hb2); (try clear hk); (try clear hi)))
    go_ret
    exact ⟨by first | rfl | (simp [errW_none, errW_some] <;> rfl) | (simp [*, errW_none, errW_some] <;> rfl), bl_⟩
   ·replace c18 := Bool.eq_false_iff.mpr c18
    subst c18
    have H1 : ((some (([] : List (S26)) : List (S26))).bind fun y704 => (if y704.length + l0.length < 1759218604441 then ((some (y704 ++ l0 : List (S26))).bind fun y707 => (if (l0.length : Int) > 1 then (if 0 < (l0.length : Int) then (if 1 < (l0.length : Int) then ((ssi_Join.f kj5 ((rd_T26 l0 0).f0) ((rd_T26 l0 0).f1) ((rd_T26 l0 0).f2) ((rd_T26 l0 0).f3) ((rd_T26 l0 0).f4) ((rd_T26 l0 0).f5) ((rd_T26 l0 1).f0) ((rd_T26 l0 1).f1) ((rd_T26 l0 1).f2) ((rd_T26 l0 1).f3) ((rd_T26 l0 1).f4) ((rd_T26 l0 1).f5) a4).bind fun bt712 => ((conductorref10_Join.f kj5 ((rd_T26 l0 0).f0) ((rd_T26 l0 0).f1) ((rd_T26 l0 0).f2) ((rd_T26 l0 0).f3) ((rd_T26 l0 0).f4) ((rd_T26 l0 0).f5) ((rd_T26 l0 1).f0) ((rd_T26 l0 1).f1) ((rd_T26 l0 1).f2) ((rd_T26 l0 1).f3) ((rd_T26 l0 1).f4) ((rd_T26 l0 1).f5) a4).bind fun bt724 => ((conductorref10_SameOne.f kj5 bt712.1 bt712.2.1 bt712.2.2.1 bt712.2.2.2.1 bt712.2.2.2.2.1 bt712.2.2.2.2.2 bt724.1 bt724.2.1 bt724.2.2.1 bt724.2.2.2.1 bt724.2.2.2.2.1 bt724.2.2.2.2.2).bind fun t734 => (conductorlaw10_SsiJoins.j1 kj5 l0 l1 a2 a3 a4 y707 (!t734))))) else (none)) else (none)) else (conductorlaw10_SsiJoins.j1 kj5 l0 l1 a2 a3 a4 y707 false))) else (none))) = some r := by rw [if_neg (show ¬ (false = true) by decide)] at H; exact H
    clear H; have H := H1; clear H1
    obtain ⟨y704, hy704⟩ : ∃ y_ : List (S26), y_ = (([] : List (S26))) := ⟨_, rfl⟩
    replace H : (if y704.length + l0.length < 1759218604441 then ((some (y704 ++ l0 : List (S26))).bind fun y707 => (if (l0.length : Int) > 1 then (if 0 < (l0.length : Int) then (if 1 < (l0.length : Int) then ((ssi_Join.f kj5 ((rd_T26 l0 0).f0) ((rd_T26 l0 0).f1) ((rd_T26 l0 0).f2) ((rd_T26 l0 0).f3) ((rd_T26 l0 0).f4) ((rd_T26 l0 0).f5) ((rd_T26 l0 1).f0) ((rd_T26 l0 1).f1) ((rd_T26 l0 1).f2) ((rd_T26 l0 1).f3) ((rd_T26 l0 1).f4) ((rd_T26 l0 1).f5) a4).bind fun bt712 => ((conductorref10_Join.f kj5 ((rd_T26 l0 0).f0) ((rd_T26 l0 0).f1) ((rd_T26 l0 0).f2) ((rd_T26 l0 0).f3) ((rd_T26 l0 0).f4) ((rd_T26 l0 0).f5) ((rd_T26 l0 1).f0) ((rd_T26 l0 1).f1) ((rd_T26 l0 1).f2) ((rd_T26 l0 1).f3) ((rd_T26 l0 1).f4) ((rd_T26 l0 1).f5) a4).bind fun bt724 => ((conductorref10_SameOne.f kj5 bt712.1 bt712.2.1 bt712.2.2.1 bt712.2.2.2.1 bt712.2.2.2.2.1 bt712.2.2.2.2.2 bt724.1 bt724.2.1 bt724.2.2.1 bt724.2.2.2.1 bt724.2.2.2.2.1 bt724.2.2.2.2.2).bind fun t734 => (conductorlaw10_SsiJoins.j1 kj5 l0 l1 a2 a3 a4 y707 (!t734))))) else (none)) else (none)) else (conductorlaw10_SsiJoins.j1 kj5 l0 l1 a2 a3 a4 y707 false))) else (none)) = some r := by first | (rw [hy704]; with_reducible exact H) | (have H2_ := (Option.bind_some _ _).symm.trans H; rw [hy704]; with_reducible exact H2_) | (have H2_ := (Option.bind_some _ _).symm.trans H; with_reducible exact H2_) | with_reducible exact H | (rw [hy704]; exact H) | exact H
    have Ny704 := Aside0.mk hy704; clear hy704
    by_cases c21 : y704.length + l0.length < 1759218604441
    ·rw [if_pos c21] at H
     have LMc21 := Aside0.mk c21; clear c21
     obtain ⟨y707, hy707⟩ : ∃ y_ : List (S26), y_ = (y704 ++ l0) := ⟨_, rfl⟩
     replace H : (if (l0.length : Int) > 1 then (if 0 < (l0.length : Int) then (if 1 < (l0.length : Int) then ((ssi_Join.f kj5 ((rd_T26 l0 0).f0) ((rd_T26 l0 0).f1) ((rd_T26 l0 0).f2) ((rd_T26 l0 0).f3) ((rd_T26 l0 0).f4) ((rd_T26 l0 0).f5) ((rd_T26 l0 1).f0) ((rd_T26 l0 1).f1) ((rd_T26 l0 1).f2) ((rd_T26 l0 1).f3) ((rd_T26 l0 1).f4) ((rd_T26 l0 1).f5) a4).bind fun bt712 => ((conductorref10_Join.f kj5 ((rd_T26 l0 0).f0) ((rd_T26 l0 0).f1) ((rd_T26 l0 0).f2) ((rd_T26 l0 0).f3) ((rd_T26 l0 0).f4) ((rd_T26 l0 0).f5) ((rd_T26 l0 1).f0) ((rd_T26 l0 1).f1) ((rd_T26 l0 1).f2) ((rd_T26 l0 1).f3) ((rd_T26 l0 1).f4) ((rd_T26 l0 1).f5) a4).bind fun bt724 => ((conductorref10_SameOne.f kj5 bt712.1 bt712.2.1 bt712.2.2.1 bt712.2.2.2.1 bt712.2.2.2.2.1 bt712.2.2.2.2.2 bt724.1 bt724.2.1 bt724.2.2.1 bt724.2.2.2.1 bt724.2.2.2.2.1 bt724.2.2.2.2.2).bind fun t734 => (conductorlaw10_SsiJoins.j1 kj5 l0 l1 a2 a3 a4 y707 (!t734))))) else (none)) else (none)) else (conductorlaw10_SsiJoins.j1 kj5 l0 l1 a2 a3 a4 y707 false)) = some r := by first | (rw [hy707]; with_reducible exact H) | (have H2_ := (Option.bind_some _ _).symm.trans H; rw [hy707]; with_reducible exact H2_) | (have H2_ := (Option.bind_some _ _).symm.trans H; with_reducible exact H2_) | with_reducible exact H | (rw [hy707]; exact H) | exact H
     have Ny707 := Aside0.mk hy707; clear hy707; have HC22 := Aside0.mk H; clear H
     go_upto_region 4 with (first | ((with_reducible refine gate_dst (N := 25) rfl ?_); refine Kd.N_lit k26 _ 26 ?hg (N' := 25) ?hd (xs := ([] : List (S26))) (inner := []) (ok := (fun k_ => (P0_ k_ ∨ w.heap.size ≤ k_))) (okp := (fun k_ => (P0_ k_ ∨ w.heap.size ≤ k_))) ?hr ?hp (fun _ hk => hk) ((show ∀ k_, wc.heap.size ≤ k_ → (fun k_ => (P0_ k_ ∨ w.heap.size ≤ k_)) k_ from fun k_ hk => (.inr (Nat.le_trans (below_size bl_) hk))) _ (Nat.le_refl _)) (Below.refl _ _) (Nat.le_refl _) (by simp) ?_; (case hd => rfl); (case hg => rfl); (case hr => first | (go_simp; done) | (go_simp; rfl)); (case hp => exact (Reps.none _ _)); intro v705 w23 ho24 hb hg_ hnew_; clear hg_ hnew_; (first | rw [← Ny704.out] at ho24 | (simp only [Int.reduceToNat] at ho24; rw [← Ny704.out] at ho24)); have n0_ := Aside0.mk (Kd.V_elder' (by exact HO_0.out) (Kd.N_base ho24) hb); have n1_ := Aside0.mk (Kd.N_lower ho24 (below_size bl_)); have n2_ := Aside0.mk (below_step bl_ hb); clear HO_0; clear HB; have HO_0 := n0_; have HO706 := n1_; have HB := n2_; clear n0_ n1_ n2_; clear hb ho24) | ((with_reducible refine gate_builtin (b := .append) (xs := #[.tmp 25, .tmp 26]) rfl ?_); at_builtin; refine Kd.N_append_rows k26 (w0 := w) w.heap.size rfl (.tmp 25) (.tmp 26) 22 26 (.agg #[(.int .u64 0), (.int .u64 0), (.int .u64 0), (.int .u64 0), (.slice none 0 0), (.slice none 0 0)]) 80 rfl Try.underlying22 info26 rfl (by decide) (by omega) v705 y704 l0 _ _ _ (fun k_ => (P0_ k_ ∨ w.heap.size ≤ k_)) (fun k_ => ((fun k_ => (P0_ k_ ∨ w.heap.size ≤ k_))) k_ ∧ some k_ ≠ (v705 : Value).ownBlock) rfl rfl ?aO ?aR (fun _ hk => hk) ?aF ?aB ?aS ?aL ?_; (case aR => exact (by skip; exact Kd.V_F (Kd.V_mono (ok' := (fun k_ => ((fun k_ => (P0_ k_ ∨ w.heap.size ≤ k_))) k_ ∧ some k_ ≠ (v705 : Value).ownBlock)) (HO_0.out) (fun k_ hk => ⟨hk.1, hk.2⟩)))); (case aB => exact bl_); (case aF => exact (fun k_ hk => (.inr (Nat.le_trans (below_size bl_) hk)))); (case aO => exact (by exact HO706.out)); (case aS => exact (below_size bl_)); (case aL => have := LMc21.out; omega); intro v708 w25 ho hb hg hat; rw [← Ny707.out] at ho; have n0_ := Aside0.mk (Kd.V_afterv (ok := (fun k_ => (P0_ k_ ∨ w.heap.size ≤ k_))) (by exact HO_0.out) hg hat); have n1_ := Aside0.mk (hb); have n2_ := Aside0.mk (ho); clear HO_0; clear HB; clear HO706; have HO_0 := n0_; have HB := n1_; have HO709 := n2_; clear n0_ n1_ n2_; clear ho hb hg hat))
     (try simp only [Act.put, List.setIfInBounds_toArray, List.set_cons_zero, List.set_cons_succ])
     go_cut [50] (fun v50 wc => ∃ (kq : Nat) (x50_21 : Bool), v50 = .bool x50_21 ∧ Aside0 (conductorlaw10_SsiJoins.j1 kq l0 l1 a2 a3 a4 y707 x50_21 = some r) ∧ Aside0 (kq ≤ kj5) ∧ Aside0 (Kd.V k26 26 wc w.heap.size (fun k_ => (P0_ k_ ∨ w.heap.size ≤ k_) ∧ some k_ ≠ (v708 : Value).ownBlock) (.slice A0 l0.length c0) l0) ∧ Aside0 (Kd.N k26 26 wc w.heap.size (fun k_ => (P0_ k_ ∨ w.heap.size ≤ k_)) v708 y707) ∧ Aside0 (Below w.heap.size w wc))
     case first =>
      have H := HC22.out
      clear HC22
      by_cases c26 : (l0.length : Int) > 1
      ·rw [if_pos c26] at H
       have c26b0 : decide (1 < (l0.length : Int)) = true := decide_eq_true c26
       have c26b1 : decide (1 < l0.length) = true := decide_eq_true (by omega)
       clear c26
       (first | rw [c26b0] | (simp only [i64_w, i32_w]; rw [c26b0]) | skip)
       by_cases c27 : 0 < (l0.length : Int)
       ·rw [if_pos c27] at H
        have c27b0 : decide (0 < (l0.length : Int)) = true := decide_eq_true c27
        have c27b1 : decide (0 < l0.length) = true := decide_eq_true (by omega)
        clear c27
        by_cases c28 : 1 < (l0.length : Int)
        ·rw [if_pos c28] at H
         have c28b0 : decide (1 < (l0.length : Int)) = true := decide_eq_true c28
         have c28b1 : decide (1 < l0.length) = true := decide_eq_true (by omega)
         clear c28; replace H := Option.bind_eq_some_iff.mp H; obtain ⟨⟨t712, t713, t714, t715, t716, t719⟩, A290, H⟩ := H
         replace H : ((conductorref10_Join.f kj5 ((rd_T26 l0 0).f0) ((rd_T26 l0 0).f1) ((rd_T26 l0 0).f2) ((rd_T26 l0 0).f3) ((rd_T26 l0 0).f4) ((rd_T26 l0 0).f5) ((rd_T26 l0 1).f0) ((rd_T26 l0 1).f1) ((rd_T26 l0 1).f2) ((rd_T26 l0 1).f3) ((rd_T26 l0 1).f4) ((rd_T26 l0 1).f5) a4).bind fun bt724 => ((conductorref10_SameOne.f kj5 t712 t713 t714 t715 t716 t719 bt724.1 bt724.2.1 bt724.2.2.1 bt724.2.2.2.1 bt724.2.2.2.2.1 bt724.2.2.2.2.2).bind fun t734 => (conductorlaw10_SsiJoins.j1 kj5 l0 l1 a2 a3 a4 y707 (!t734)))) = some r := H
         have A29 := Aside0.mk A290; clear A290; replace H := Option.bind_eq_some_iff.mp H; obtain ⟨⟨t724, t725, t726, t727, t728, t731⟩, A300, H⟩ := H
         replace H : ((conductorref10_SameOne.f kj5 t712 t713 t714 t715 t716 t719 t724 t725 t726 t727 t728 t731).bind fun t734 => (conductorlaw10_SsiJoins.j1 kj5 l0 l1 a2 a3 a4 y707 (!t734))) = some r := H
         have A30 := Aside0.mk A300; clear A300; replace H := Option.bind_eq_some_iff.mp H; obtain ⟨t734, A310, H⟩ := H
         replace H : (conductorlaw10_SsiJoins.j1 kj5 l0 l1 a2 a3 a4 y707 (!t734)) = some r := H
         have A31 := Aside0.mk A310; clear A310; have H' := Aside0.mk H; clear H
         try go_wp2
         have n0_ := Aside0.mk (Kd.V_drew HO_0.out)
         have n1_ := Aside0.mk (Kd.N_drew HO709.out)
         have n2_ := Aside0.mk (below_drew1 HB.out)
         clear HO_0; clear HO709; clear HB; have HO_0 := n0_; have HO709 := n1_; have HB := n2_; clear n0_ n1_ n2_
         have p710 : 0 ≤ (0 : Int) := (by omega)
         have q710 : 0 < (l0.length : Int) := od_
         obtain ⟨ad710, A710_4, c710_4, A710_5, c710_5, e710, hx710_0, hx710_1, hx710_2, hx710_3, hx710_4, hx710_5, hl710_4, hi710_4, hl710_5, hi710_5⟩ := at_T26 (Kd.V_reads' HO_0.out).2.2 0 p710 q710
         cases e710
         obtain ⟨ce710, hce710, hMe710, hcc710⟩ := Kd.V_get HO_0.out z26 0 p710 (by first | exact q710 | exact od_ | (have e_ := (Kd.V_reads' HO_0.out).1; omega))
         obtain ⟨ua710_4, uc710_4, ua710_5, uc710_5, rfl, ul710_4, ge710_4, ul710_5, ge710_5⟩ := k26_openF hMe710
         have hv710_4 := hcc710 4 _ rfl
         rw [add_field _ _ 4 (by omega)] at hv710_4
         replace hv710_4 := Option.some.inj (hv710_4.symm.trans hx710_4)
         injection hv710_4 with hva_ hvn_ hvc_
         rw [hva_] at ge710_4
         rw [hvc_] at ul710_4
         have HL710_4 := Aside0.mk (show Kd.V k41 41 _ w.heap.size _ _ ((rd_T26 l0 0).f4) from Kd.V_mk ul710_4 ge710_4)
         clear hva_ hvn_ hvc_ ge710_4 ul710_4
         have hv710_5 := hcc710 5 _ rfl
         rw [add_field _ _ 5 (by omega)] at hv710_5
         replace hv710_5 := Option.some.inj (hv710_5.symm.trans hx710_5)
         injection hv710_5 with hva_ hvn_ hvc_
         rw [hva_] at ge710_5
         rw [hvc_] at ul710_5
         have HL710_5 := Aside0.mk (show Kd.V k41 41 _ w.heap.size _ _ ((rd_T26 l0 0).f5) from Kd.V_mk ul710_5 ge710_5)
         clear hva_ hvn_ hvc_ ge710_5 ul710_5; clear hcc710 hce710
         have qi710 : (0 < l0.length) = True := eq_true (by omega)
         (try rw [show ((0 : Int)).toNat = 0 from rfl] at hx710_0)
         (try rw [show 0 * 6 = 0 from rfl] at hx710_0)
         (try rw [Addr.add_zero'] at hx710_0)
         (try rw [show ((0 : Int)).toNat = 0 from rfl] at hx710_1)
         (try rw [show 0 * 6 = 0 from rfl] at hx710_1)
         (try rw [Addr.add_zero'] at hx710_1)
         (try rw [show ((0 : Int)).toNat = 0 from rfl] at hx710_2)
         (try rw [show 0 * 6 = 0 from rfl] at hx710_2)
         (try rw [Addr.add_zero'] at hx710_2)
         (try rw [show ((0 : Int)).toNat = 0 from rfl] at hx710_3)
         (try rw [show 0 * 6 = 0 from rfl] at hx710_3)
         (try rw [Addr.add_zero'] at hx710_3)
         (try rw [show ((0 : Int)).toNat = 0 from rfl] at hx710_4)
         (try rw [show 0 * 6 = 0 from rfl] at hx710_4)
         (try rw [Addr.add_zero'] at hx710_4)
         (try rw [show ((0 : Int)).toNat = 0 from rfl] at hx710_5)
         (try rw [show 0 * 6 = 0 from rfl] at hx710_5)
         (try rw [Addr.add_zero'] at hx710_5)
         have HR710_4 := Aside0.mk hi710_4; have HC710_4 := Aside0.mk hl710_4; clear hi710_4 hl710_4; have HR710_5 := Aside0.mk hi710_5; have HC710_5 := Aside0.mk hl710_5; clear hi710_5 hl710_5; replace p710 := eq_true p710; replace q710 := eq_true q710
         have p711 : 0 ≤ (1 : Int) := (by omega)
         have q711 : 1 < (l0.length : Int) := od_
         obtain ⟨ad711, A711_4, c711_4, A711_5, c711_5, e711, hx711_0, hx711_1, hx711_2, hx711_3, hx711_4, hx711_5, hl711_4, hi711_4, hl711_5, hi711_5⟩ := at_T26 (Kd.V_reads' HO_0.out).2.2 1 p711 q711
         obtain rfl : ad710 = ad711 := (by injection e711)
         obtain ⟨ce711, hce711, hMe711, hcc711⟩ := Kd.V_get HO_0.out z26 1 p711 (by first | exact q711 | exact od_ | (have e_ := (Kd.V_reads' HO_0.out).1; omega))
         obtain ⟨ua711_4, uc711_4, ua711_5, uc711_5, rfl, ul711_4, ge711_4, ul711_5, ge711_5⟩ := k26_openF hMe711
         have hv711_4 := hcc711 4 _ rfl
         rw [add_field _ _ 4 (by omega)] at hv711_4
         replace hv711_4 := Option.some.inj (hv711_4.symm.trans hx711_4)
         injection hv711_4 with hva_ hvn_ hvc_
         rw [hva_] at ge711_4
         rw [hvc_] at ul711_4
         have HL711_4 := Aside0.mk (show Kd.V k41 41 _ w.heap.size _ _ ((rd_T26 l0 1).f4) from Kd.V_mk ul711_4 ge711_4)
         clear hva_ hvn_ hvc_ ge711_4 ul711_4
         have hv711_5 := hcc711 5 _ rfl
         rw [add_field _ _ 5 (by omega)] at hv711_5
         replace hv711_5 := Option.some.inj (hv711_5.symm.trans hx711_5)
         injection hv711_5 with hva_ hvn_ hvc_
         rw [hva_] at ge711_5
         rw [hvc_] at ul711_5
         have HL711_5 := Aside0.mk (show Kd.V k41 41 _ w.heap.size _ _ ((rd_T26 l0 1).f5) from Kd.V_mk ul711_5 ge711_5)
         clear hva_ hvn_ hvc_ ge711_5 ul711_5; clear hcc711 hce711
         (try simp only [show (1 : Int).toNat = 1 from rfl, Nat.reduceMul, Nat.reduceEqDiff, Go.Addr.add, ↓reduceIte] at hx711_0)
         (try simp only [show (1 : Int).toNat = 1 from rfl, Nat.reduceMul, Nat.reduceEqDiff, Go.Addr.add, ↓reduceIte] at hx711_1)
         (try simp only [show (1 : Int).toNat = 1 from rfl, Nat.reduceMul, Nat.reduceEqDiff, Go.Addr.add, ↓reduceIte] at hx711_2)
         (try simp only [show (1 : Int).toNat = 1 from rfl, Nat.reduceMul, Nat.reduceEqDiff, Go.Addr.add, ↓reduceIte] at hx711_3)
         (try simp only [show (1 : Int).toNat = 1 from rfl, Nat.reduceMul, Nat.reduceEqDiff, Go.Addr.add, ↓reduceIte] at hx711_4)
         (try simp only [show (1 : Int).toNat = 1 from rfl, Nat.reduceMul, Nat.reduceEqDiff, Go.Addr.add, ↓reduceIte] at hx711_5)
         have qi711 : (1 < l0.length) = True := eq_true (by omega)
         (try rw [show ((1 : Int)).toNat = 1 from rfl] at hx711_0)
         (try rw [show 1 * 6 = 6 from rfl] at hx711_0)
         (try rw [show ((1 : Int)).toNat = 1 from rfl] at hx711_1)
         (try rw [show 1 * 6 = 6 from rfl] at hx711_1)
         (try rw [show ((1 : Int)).toNat = 1 from rfl] at hx711_2)
         (try rw [show 1 * 6 = 6 from rfl] at hx711_2)
         (try rw [show ((1 : Int)).toNat = 1 from rfl] at hx711_3)
         (try rw [show 1 * 6 = 6 from rfl] at hx711_3)
         (try rw [show ((1 : Int)).toNat = 1 from rfl] at hx711_4)
         (try rw [show 1 * 6 = 6 from rfl] at hx711_4)
         (try rw [show ((1 : Int)).toNat = 1 from rfl] at hx711_5)
         (try rw [show 1 * 6 = 6 from rfl] at hx711_5)
         have HR711_4 := Aside0.mk hi711_4; have HC711_4 := Aside0.mk hl711_4; clear hi711_4 hl711_4; have HR711_5 := Aside0.mk hi711_5; have HC711_5 := Aside0.mk hl711_5; clear hi711_5 hl711_5; replace p711 := eq_true p711; replace q711 := eq_true q711
         have p722 : 0 ≤ (0 : Int) := (by omega)
         have q722 : 0 < (l0.length : Int) := od_
         obtain ⟨ad722, A722_4, c722_4, A722_5, c722_5, e722, hx722_0, hx722_1, hx722_2, hx722_3, hx722_4, hx722_5, hl722_4, hi722_4, hl722_5, hi722_5⟩ := at_T26 (Kd.V_reads' HO_0.out).2.2 0 p722 q722
         obtain rfl : ad710 = ad722 := (by injection e722)
         obtain ⟨ce722, hce722, hMe722, hcc722⟩ := Kd.V_get HO_0.out z26 0 p722 (by first | exact q722 | exact od_ | (have e_ := (Kd.V_reads' HO_0.out).1; omega))
         obtain ⟨ua722_4, uc722_4, ua722_5, uc722_5, rfl, ul722_4, ge722_4, ul722_5, ge722_5⟩ := k26_openF hMe722
         have hv722_4 := hcc722 4 _ rfl
         rw [add_field _ _ 4 (by omega)] at hv722_4
         replace hv722_4 := Option.some.inj (hv722_4.symm.trans hx722_4)
         injection hv722_4 with hva_ hvn_ hvc_
         rw [hva_] at ge722_4
         rw [hvc_] at ul722_4
         have HL722_4 := Aside0.mk (show Kd.V k41 41 _ w.heap.size _ _ ((rd_T26 l0 0).f4) from Kd.V_mk ul722_4 ge722_4)
         clear hva_ hvn_ hvc_ ge722_4 ul722_4
         have hv722_5 := hcc722 5 _ rfl
         rw [add_field _ _ 5 (by omega)] at hv722_5
         replace hv722_5 := Option.some.inj (hv722_5.symm.trans hx722_5)
         injection hv722_5 with hva_ hvn_ hvc_
         rw [hva_] at ge722_5
         rw [hvc_] at ul722_5
         have HL722_5 := Aside0.mk (show Kd.V k41 41 _ w.heap.size _ _ ((rd_T26 l0 0).f5) from Kd.V_mk ul722_5 ge722_5)
         clear hva_ hvn_ hvc_ ge722_5 ul722_5; clear hcc722 hce722
         have qi722 : (0 < l0.length) = True := eq_true (by omega)
         (try rw [show ((0 : Int)).toNat = 0 from rfl] at hx722_0)
         (try rw [show 0 * 6 = 0 from rfl] at hx722_0)
         (try rw [Addr.add_zero'] at hx722_0)
         (try rw [show ((0 : Int)).toNat = 0 from rfl] at hx722_1)
         (try rw [show 0 * 6 = 0 from rfl] at hx722_1)
         (try rw [Addr.add_zero'] at hx722_1)
         (try rw [show ((0 : Int)).toNat = 0 from rfl] at hx722_2)
         (try rw [show 0 * 6 = 0 from rfl] at hx722_2)
         (try rw [Addr.add_zero'] at hx722_2)
         (try rw [show ((0 : Int)).toNat = 0 from rfl] at hx722_3)
         (try rw [show 0 * 6 = 0 from rfl] at hx722_3)
         (try rw [Addr.add_zero'] at hx722_3)
         (try rw [show ((0 : Int)).toNat = 0 from rfl] at hx722_4)
         (try rw [show 0 * 6 = 0 from rfl] at hx722_4)
         (try rw [Addr.add_zero'] at hx722_4)
         (try rw [show ((0 : Int)).toNat = 0 from rfl] at hx722_5)
         (try rw [show 0 * 6 = 0 from rfl] at hx722_5)
         (try rw [Addr.add_zero'] at hx722_5)
         have HR722_4 := Aside0.mk hi722_4; have HC722_4 := Aside0.mk hl722_4; clear hi722_4 hl722_4; have HR722_5 := Aside0.mk hi722_5; have HC722_5 := Aside0.mk hl722_5; clear hi722_5 hl722_5; replace p722 := eq_true p722; replace q722 := eq_true q722
         have ea_ := Option.some.inj (hx710_4.symm.trans hx722_4)
         injection ea_ with ea_ en_ ec_
         subst ea_; subst ec_; clear en_
         have ea_ := Option.some.inj (hx710_5.symm.trans hx722_5)
         injection ea_ with ea_ en_ ec_
         subst ea_; subst ec_; clear en_
         have p723 : 0 ≤ (1 : Int) := (by omega)
         have q723 : 1 < (l0.length : Int) := od_
         obtain ⟨ad723, A723_4, c723_4, A723_5, c723_5, e723, hx723_0, hx723_1, hx723_2, hx723_3, hx723_4, hx723_5, hl723_4, hi723_4, hl723_5, hi723_5⟩ := at_T26 (Kd.V_reads' HO_0.out).2.2 1 p723 q723
         obtain rfl : ad710 = ad723 := (by injection e723)
         obtain ⟨ce723, hce723, hMe723, hcc723⟩ := Kd.V_get HO_0.out z26 1 p723 (by first | exact q723 | exact od_ | (have e_ := (Kd.V_reads' HO_0.out).1; omega))
         obtain ⟨ua723_4, uc723_4, ua723_5, uc723_5, rfl, ul723_4, ge723_4, ul723_5, ge723_5⟩ := k26_openF hMe723
         have hv723_4 := hcc723 4 _ rfl
         rw [add_field _ _ 4 (by omega)] at hv723_4
         replace hv723_4 := Option.some.inj (hv723_4.symm.trans hx723_4)
         injection hv723_4 with hva_ hvn_ hvc_
         rw [hva_] at ge723_4
         rw [hvc_] at ul723_4
         have HL723_4 := Aside0.mk (show Kd.V k41 41 _ w.heap.size _ _ ((rd_T26 l0 1).f4) from Kd.V_mk ul723_4 ge723_4)
         clear hva_ hvn_ hvc_ ge723_4 ul723_4
         have hv723_5 := hcc723 5 _ rfl
         rw [add_field _ _ 5 (by omega)] at hv723_5
         replace hv723_5 := Option.some.inj (hv723_5.symm.trans hx723_5)
         injection hv723_5 with hva_ hvn_ hvc_
         rw [hva_] at ge723_5
         rw [hvc_] at ul723_5
         have HL723_5 := Aside0.mk (show Kd.V k41 41 _ w.heap.size _ _ ((rd_T26 l0 1).f5) from Kd.V_mk ul723_5 ge723_5)
         clear hva_ hvn_ hvc_ ge723_5 ul723_5; clear hcc723 hce723
         (try simp only [show (1 : Int).toNat = 1 from rfl, Nat.reduceMul, Nat.reduceEqDiff, Go.Addr.add, ↓reduceIte] at hx723_0)
         (try simp only [show (1 : Int).toNat = 1 from rfl, Nat.reduceMul, Nat.reduceEqDiff, Go.Addr.add, ↓reduceIte] at hx723_1)
         (try simp only [show (1 : Int).toNat = 1 from rfl, Nat.reduceMul, Nat.reduceEqDiff, Go.Addr.add, ↓reduceIte] at hx723_2)
         (try simp only [show (1 : Int).toNat = 1 from rfl, Nat.reduceMul, Nat.reduceEqDiff, Go.Addr.add, ↓reduceIte] at hx723_3)
         (try simp only [show (1 : Int).toNat = 1 from rfl, Nat.reduceMul, Nat.reduceEqDiff, Go.Addr.add, ↓reduceIte] at hx723_4)
         (try simp only [show (1 : Int).toNat = 1 from rfl, Nat.reduceMul, Nat.reduceEqDiff, Go.Addr.add, ↓reduceIte] at hx723_5)
         have qi723 : (1 < l0.length) = True := eq_true (by omega)
         (try rw [show ((1 : Int)).toNat = 1 from rfl] at hx723_0)
         (try rw [show 1 * 6 = 6 from rfl] at hx723_0)
         (try rw [show ((1 : Int)).toNat = 1 from rfl] at hx723_1)
         (try rw [show 1 * 6 = 6 from rfl] at hx723_1)
         (try rw [show ((1 : Int)).toNat = 1 from rfl] at hx723_2)
         (try rw [show 1 * 6 = 6 from rfl] at hx723_2)
         (try rw [show ((1 : Int)).toNat = 1 from rfl] at hx723_3)
         (try rw [show 1 * 6 = 6 from rfl] at hx723_3)
         (try rw [show ((1 : Int)).toNat = 1 from rfl] at hx723_4)
         (try rw [show 1 * 6 = 6 from rfl] at hx723_4)
         (try rw [show ((1 : Int)).toNat = 1 from rfl] at hx723_5)
         (try rw [show 1 * 6 = 6 from rfl] at hx723_5)
         have HR723_4 := Aside0.mk hi723_4; have HC723_4 := Aside0.mk hl723_4; clear hi723_4 hl723_4; have HR723_5 := Aside0.mk hi723_5; have HC723_5 := Aside0.mk hl723_5; clear hi723_5 hl723_5; replace p723 := eq_true p723; replace q723 := eq_true q723
         have ea_ := Option.some.inj (hx711_4.symm.trans hx723_4)
         injection ea_ with ea_ en_ ec_
         subst ea_; subst ec_; clear en_
         have ea_ := Option.some.inj (hx711_5.symm.trans hx723_5)
         injection ea_ with ea_ en_ ec_
         subst ea_; subst ec_; clear en_
         refine start_ (n := 23) (S := fun w' => w'.cell? ad710 = some (.int .u64 ((rd_T26 l0 0).f0)) ∧ w'.cell? ⟨ad710.block, ad710.off + 1, none⟩ = some (.int .u64 ((rd_T26 l0 0).f1)) ∧ w'.cell? ⟨ad710.block, ad710.off + 2, none⟩ = some (.int .u64 ((rd_T26 l0 0).f2)) ∧ w'.cell? ⟨ad710.block, ad710.off + 3, none⟩ = some (.int .u64 ((rd_T26 l0 0).f3)) ∧ w'.cell? ⟨ad710.block, ad710.off + 4, none⟩ = some (.slice A710_4 ((rd_T26 l0 0).f4).length c710_4) ∧ w'.cell? ⟨ad710.block, ad710.off + 5, none⟩ = some (.slice A710_5 ((rd_T26 l0 0).f5).length c710_5) ∧ w'.cell? ⟨ad710.block, ad710.off + 6, none⟩ = some (.int .u64 ((rd_T26 l0 1).f0)) ∧ w'.cell? ⟨ad710.block, ad710.off + 6 + 1, none⟩ = some (.int .u64 ((rd_T26 l0 1).f1)) ∧ w'.cell? ⟨ad710.block, ad710.off + 6 + 2, none⟩ = some (.int .u64 ((rd_T26 l0 1).f2)) ∧ w'.cell? ⟨ad710.block, ad710.off + 6 + 3, none⟩ = some (.int .u64 ((rd_T26 l0 1).f3)) ∧ w'.cell? ⟨ad710.block, ad710.off + 6 + 4, none⟩ = some (.slice A711_4 ((rd_T26 l0 1).f4).length c711_4) ∧ w'.cell? ⟨ad710.block, ad710.off + 6 + 5, none⟩ = some (.slice A711_5 ((rd_T26 l0 1).f5).length c711_5) ∧ w'.cell? ad710 = some (.int .u64 ((rd_T26 l0 0).f0)) ∧ w'.cell? ⟨ad710.block, ad710.off + 1, none⟩ = some (.int .u64 ((rd_T26 l0 0).f1)) ∧ w'.cell? ⟨ad710.block, ad710.off + 2, none⟩ = some (.int .u64 ((rd_T26 l0 0).f2)) ∧ w'.cell? ⟨ad710.block, ad710.off + 3, none⟩ = some (.int .u64 ((rd_T26 l0 0).f3)) ∧ w'.cell? ⟨ad710.block, ad710.off + 4, none⟩ = some (.slice A710_4 ((rd_T26 l0 0).f4).length c710_4) ∧ w'.cell? ⟨ad710.block, ad710.off + 5, none⟩ = some (.slice A710_5 ((rd_T26 l0 0).f5).length c710_5) ∧ w'.cell? ⟨ad710.block, ad710.off + 6, none⟩ = some (.int .u64 ((rd_T26 l0 1).f0)) ∧ w'.cell? ⟨ad710.block, ad710.off + 6 + 1, none⟩ = some (.int .u64 ((rd_T26 l0 1).f1)) ∧ w'.cell? ⟨ad710.block, ad710.off + 6 + 2, none⟩ = some (.int .u64 ((rd_T26 l0 1).f2)) ∧ w'.cell? ⟨ad710.block, ad710.off + 6 + 3, none⟩ = some (.int .u64 ((rd_T26 l0 1).f3)) ∧ w'.cell? ⟨ad710.block, ad710.off + 6 + 4, none⟩ = some (.slice A711_4 ((rd_T26 l0 1).f4).length c711_4) ∧ w'.cell? ⟨ad710.block, ad710.off + 6 + 5, none⟩ = some (.slice A711_5 ((rd_T26 l0 1).f5).length c711_5)) (ds := []) (fst_ 23 0) (by kernel_rfl) rfl rfl ⟨hx710_0, hx710_1, hx710_2, hx710_3, hx710_4, hx710_5, hx711_0, hx711_1, hx711_2, hx711_3, hx711_4, hx711_5, hx722_0, hx722_1, hx722_2, hx722_3, hx722_4, hx722_5, hx723_0, hx723_1, hx723_2, hx723_3, hx723_4, hx723_5⟩ (fun hHeld => ?_); refine with_tabW conductorlaw10_SsiJoins.tab4 conductorlaw10_SsiJoins.bits4 (fun HT_ HW_ => ?_)
         generalize w25.drew = w32 at HO_0 HO709 HB HL710_4 HL710_5 HL711_4 HL711_5 HL722_4 HL722_5 HL723_4 HL723_5 HR710_4 HR710_5 HR711_4 HR711_5 HR722_4 HR722_5 HR723_4 HR723_5 hx710_0 hx710_1 hx710_2 hx710_3 hx710_4 hx710_5 hx711_0 hx711_1 hx711_2 hx711_3 hx711_4 hx711_5 hx722_0 hx722_1 hx722_2 hx722_3 hx722_4 hx722_5 hx723_0 hx723_1 hx723_2 hx723_3 hx723_4 hx723_5 hHeld ⊢
         iterate 6 (refine pk_ (v := ?_) (a' := ?_) HT_.out rfl rfl (by kernel_rfl) (fun _ _ _ h => h) (Or.inl ⟨by rfl, ?_⟩) ?_ ?_; rotate_left; (· intro w'; go_simp; with_reducible rfl); rotate_left; (· simp only [Act.put, List.setIfInBounds_toArray, List.set_cons_zero, List.set_cons_succ, i64_w, i32_w]; rfl))
         refine pure_ (i := 7) (N := some 35) (v := ?_) (a' := ?_) #[true, true, true, true, true, true, false, true, false, false, false, false, false, false, false, false, false, false, false, false, false, false, false] rfl rfl (any_of HT_.out (by kernel_rfl)) (fun _ _ _ h => h) (Or.inl ⟨by rfl, ?_⟩) ?_ ?_
         rotate_left
         ·intro w'
          go_simp
          with_reducible rfl
         rotate_left
         ·simp only [Act.put, List.setIfInBounds_toArray, List.set_cons_zero, List.set_cons_succ, i64_w, i32_w]
          rfl
         refine pure_ (i := 8) (N := some 36) (v := ?_) (a' := ?_) #[true, true, true, true, true, true, false, true, true, false, false, false, false, false, false, false, false, false, false, false, false, false, false] rfl rfl (any_of HT_.out (by kernel_rfl)) (fun _ _ _ h => h) (Or.inl ⟨by rfl, ?_⟩) ?_ ?_
         rotate_left
         ·intro w'
          go_simp
          with_reducible rfl
         rotate_left
         ·simp only [Act.put, List.setIfInBounds_toArray, List.set_cons_zero, List.set_cons_succ, i64_w, i32_w]
          rfl
         refine pure_ (i := 10) (N := some 38) (v := ?_) (a' := ?_) #[true, true, true, true, true, true, false, true, true, false, true, false, false, false, false, false, false, false, false, false, false, false, false] rfl rfl (any_of HT_.out (by kernel_rfl)) (fun _ _ _ h => h) (Or.inl ⟨by rfl, ?_⟩) ?_ ?_
         rotate_left
         ·intro w'
          go_simp
          with_reducible rfl
         rotate_left
         ·simp only [Act.put, List.setIfInBounds_toArray, List.set_cons_zero, List.set_cons_succ, i64_w, i32_w]
          rfl
         refine pure_ (i := 12) (N := some 40) (v := ?_) (a' := ?_) #[true, true, true, true, true, true, false, true, true, false, true, false, true, false, false, false, false, false, false, false, false, false, false] rfl rfl (any_of HT_.out (by kernel_rfl)) (fun _ _ _ h => h) (Or.inl ⟨by rfl, ?_⟩) ?_ ?_
         rotate_left
         ·intro w'
          go_simp
          with_reducible rfl
         rotate_left
         ·simp only [Act.put, List.setIfInBounds_toArray, List.set_cons_zero, List.set_cons_succ, i64_w, i32_w]
          rfl
         refine pure_ (i := 13) (N := some 41) (v := ?_) (a' := ?_) #[true, true, true, true, true, true, false, true, true, false, true, false, true, true, false, false, false, false, false, false, false, false, false] rfl rfl (any_of HT_.out (by kernel_rfl)) (fun _ _ _ h => h) (Or.inl ⟨by rfl, ?_⟩) ?_ ?_
         rotate_left
         ·intro w'
          go_simp
          with_reducible rfl
         rotate_left
         ·simp only [Act.put, List.setIfInBounds_toArray, List.set_cons_zero, List.set_cons_succ, i64_w, i32_w]
          rfl
         refine pure_ (i := 15) (N := some 43) (v := ?_) (a' := ?_) #[true, true, true, true, true, true, false, true, true, false, true, false, true, true, false, true, false, false, false, false, false, false, false] rfl rfl (any_of HT_.out (by kernel_rfl)) (fun _ _ _ h => h) (Or.inl ⟨by rfl, ?_⟩) ?_ ?_
         rotate_left
         ·intro w'
          go_simp
          with_reducible rfl
         rotate_left
         ·simp only [Act.put, List.setIfInBounds_toArray, List.set_cons_zero, List.set_cons_succ, i64_w, i32_w]
          rfl
         refine pure_ (i := 16) (N := some 44) (v := ?_) (a' := ?_) #[true, true, true, true, true, true, false, true, true, false, true, false, true, true, false, true, true, false, false, false, false, false, false] rfl rfl (any_of HT_.out (by kernel_rfl)) (fun _ _ _ h => h) (Or.inl ⟨by rfl, ?_⟩) ?_ ?_
         rotate_left
         ·intro w'
          go_simp
          with_reducible rfl
         rotate_left
         ·simp only [Act.put, List.setIfInBounds_toArray, List.set_cons_zero, List.set_cons_succ, i64_w, i32_w]
          rfl
         refine pure_ (i := 18) (N := some 46) (v := ?_) (a' := ?_) #[true, true, true, true, true, true, false, true, true, false, true, false, true, true, false, true, true, false, true, false, false, false, false] rfl rfl (any_of HT_.out (by kernel_rfl)) (fun _ _ _ h => h) (Or.inl ⟨by rfl, ?_⟩) ?_ ?_
         rotate_left
         ·intro w'
          go_simp
          with_reducible rfl
         rotate_left
         ·simp only [Act.put, List.setIfInBounds_toArray, List.set_cons_zero, List.set_cons_succ, i64_w, i32_w]
          rfl
         refine take_ (i := 6) (N := some 34) (v := ?_) (a' := ?_) #[true, true, true, true, true, true, true, true, true, false, true, false, true, true, false, true, true, false, true, false, false, false, false] rfl rfl (take_ofW HT_.out HW_.out (by kernel_rfl)) (fun _ _ _ h => h) (Or.inl ⟨by rfl, ?_⟩) hHeld ?_ ?_
         rotate_left
         ·rintro w' ⟨s0, s1, s2, s3, s4, s5, s6, s7, s8, s9, s10, s11, s12, s13, s14, s15, s16, s17, s18, s19, s20, s21, s22, s23⟩
          go_simp
          with_reducible rfl
         rotate_left
         ·simp only [Act.put, List.setIfInBounds_toArray, List.set_cons_zero, List.set_cons_succ, i64_w, i32_w]
          rfl
         refine take_ (i := 9) (N := some 37) (v := ?_) (a' := ?_) #[true, true, true, true, true, true, true, true, true, true, true, false, true, true, false, true, true, false, true, false, false, false, false] rfl rfl (take_ofW HT_.out HW_.out (by kernel_rfl)) (fun _ _ _ h => h) (Or.inl ⟨by rfl, ?_⟩) hHeld ?_ ?_
         rotate_left
         ·rintro w' ⟨s0, s1, s2, s3, s4, s5, s6, s7, s8, s9, s10, s11, s12, s13, s14, s15, s16, s17, s18, s19, s20, s21, s22, s23⟩
          go_simp
          with_reducible rfl
         rotate_left
         ·simp only [Act.put, List.setIfInBounds_toArray, List.set_cons_zero, List.set_cons_succ, i64_w, i32_w]
          rfl
         refine take_ (i := 14) (N := some 42) (v := ?_) (a' := ?_) #[true, true, true, true, true, true, true, true, true, true, true, false, true, true, true, true, true, false, true, false, false, false, false] rfl rfl (take_ofW HT_.out HW_.out (by kernel_rfl)) (fun _ _ _ h => h) (Or.inl ⟨by rfl, ?_⟩) hHeld ?_ ?_
         rotate_left
         ·rintro w' ⟨s0, s1, s2, s3, s4, s5, s6, s7, s8, s9, s10, s11, s12, s13, s14, s15, s16, s17, s18, s19, s20, s21, s22, s23⟩
          go_simp
          with_reducible rfl
         rotate_left
         ·simp only [Act.put, List.setIfInBounds_toArray, List.set_cons_zero, List.set_cons_succ, i64_w, i32_w]
          rfl
         refine take_ (i := 17) (N := some 45) (v := ?_) (a' := ?_) #[true, true, true, true, true, true, true, true, true, true, true, false, true, true, true, true, true, true, true, false, false, false, false] rfl rfl (take_ofW HT_.out HW_.out (by kernel_rfl)) (fun _ _ _ h => h) (Or.inl ⟨by rfl, ?_⟩) hHeld ?_ ?_
         rotate_left
         ·rintro w' ⟨s0, s1, s2, s3, s4, s5, s6, s7, s8, s9, s10, s11, s12, s13, s14, s15, s16, s17, s18, s19, s20, s21, s22, s23⟩
          go_simp
          with_reducible rfl
         rotate_left
         ·simp only [Act.put, List.setIfInBounds_toArray, List.set_cons_zero, List.set_cons_succ, i64_w, i32_w]
          rfl
         refine one_ (i := 11) (N := some 39) (fst_ 23 19) rfl rfl (one_of HT_.out (by kernel_rfl)) (by decide) (fun K hK => ?_)
         refine goes_ Try.func47 (by kernel_rfl) rfl #[.agg #[.int .u64 ((rd_T26 l0 0).f0), .int .u64 ((rd_T26 l0 0).f1), .int .u64 ((rd_T26 l0 0).f2), .int .u64 ((rd_T26 l0 0).f3), .slice A710_4 ((rd_T26 l0 0).f4).length c710_4, .slice A710_5 ((rd_T26 l0 0).f5).length c710_5], .agg #[.int .u64 ((rd_T26 l0 1).f0), .int .u64 ((rd_T26 l0 1).f1), .int .u64 ((rd_T26 l0 1).f2), .int .u64 ((rd_T26 l0 1).f3), .slice A711_4 ((rd_T26 l0 1).f4).length c711_4, .slice A711_5 ((rd_T26 l0 1).f5).length c711_5], .int .i64 a4] (by rfl) rfl rfl sa_ ?_
         with_reducible refine (ssi_Join.calls kj5 ((rd_T26 l0 0).f0) ((rd_T26 l0 0).f1) ((rd_T26 l0 0).f2) ((rd_T26 l0 0).f3) _ _ ((rd_T26 l0 0).f4) _ _ ((rd_T26 l0 0).f5) ((rd_T26 l0 1).f0) ((rd_T26 l0 1).f1) ((rd_T26 l0 1).f2) ((rd_T26 l0 1).f3) _ _ ((rd_T26 l0 1).f4) _ _ ((rd_T26 l0 1).f5) a4 t712 t713 t714 t715 t716 t719 _ ?side1 ?side2 ?side3 ?side4 ?side5 ?side6 ?side7 ?side8 A29.out).mono ?_
         (case side1 => exact HR710_4.out)
         (case side2 => exact HC710_4.out)
         (case side3 => exact HR710_5.out)
         (case side4 => exact HC710_5.out)
         (case side5 => exact HR711_4.out)
         (case side6 => exact HC711_4.out)
         (case side7 => exact HR711_5.out)
         (case side8 => exact HC711_5.out)
         rintro e w33 ⟨v717, v720, rfl, ho0, ho1, hb⟩
         have HS0_ := (hb.cell (World.block_lt_of_cell? _ _ (hHeld.1))).trans (hHeld.1)
         have HS1_ := (hb.cell (World.block_lt_of_cell? _ _ (hHeld.2.1))).trans (hHeld.2.1)
         have HS2_ := (hb.cell (World.block_lt_of_cell? _ _ (hHeld.2.2.1))).trans (hHeld.2.2.1)
         have HS3_ := (hb.cell (World.block_lt_of_cell? _ _ (hHeld.2.2.2.1))).trans (hHeld.2.2.2.1)
         have HS4_ := (hb.cell (World.block_lt_of_cell? _ _ (hHeld.2.2.2.2.1))).trans (hHeld.2.2.2.2.1)
         have HS5_ := (hb.cell (World.block_lt_of_cell? _ _ (hHeld.2.2.2.2.2.1))).trans (hHeld.2.2.2.2.2.1)
         have HS6_ := (hb.cell (World.block_lt_of_cell? _ _ (hHeld.2.2.2.2.2.2.1))).trans (hHeld.2.2.2.2.2.2.1)
         have HS7_ := (hb.cell (World.block_lt_of_cell? _ _ (hHeld.2.2.2.2.2.2.2.1))).trans (hHeld.2.2.2.2.2.2.2.1)
         have HS8_ := (hb.cell (World.block_lt_of_cell? _ _ (hHeld.2.2.2.2.2.2.2.2.1))).trans (hHeld.2.2.2.2.2.2.2.2.1)
         have HS9_ := (hb.cell (World.block_lt_of_cell? _ _ (hHeld.2.2.2.2.2.2.2.2.2.1))).trans (hHeld.2.2.2.2.2.2.2.2.2.1)
         have HS10_ := (hb.cell (World.block_lt_of_cell? _ _ (hHeld.2.2.2.2.2.2.2.2.2.2.1))).trans (hHeld.2.2.2.2.2.2.2.2.2.2.1)
         have HS11_ := (hb.cell (World.block_lt_of_cell? _ _ (hHeld.2.2.2.2.2.2.2.2.2.2.2.1))).trans (hHeld.2.2.2.2.2.2.2.2.2.2.2.1)
         have HS12_ := (hb.cell (World.block_lt_of_cell? _ _ (hHeld.2.2.2.2.2.2.2.2.2.2.2.2.1))).trans (hHeld.2.2.2.2.2.2.2.2.2.2.2.2.1)
         have HS13_ := (hb.cell (World.block_lt_of_cell? _ _ (hHeld.2.2.2.2.2.2.2.2.2.2.2.2.2.1))).trans (hHeld.2.2.2.2.2.2.2.2.2.2.2.2.2.1)
         have HS14_ := (hb.cell (World.block_lt_of_cell? _ _ (hHeld.2.2.2.2.2.2.2.2.2.2.2.2.2.2.1))).trans (hHeld.2.2.2.2.2.2.2.2.2.2.2.2.2.2.1)
         have HS15_ := (hb.cell (World.block_lt_of_cell? _ _ (hHeld.2.2.2.2.2.2.2.2.2.2.2.2.2.2.2.1))).trans (hHeld.2.2.2.2.2.2.2.2.2.2.2.2.2.2.2.1)
         have HS16_ := (hb.cell (World.block_lt_of_cell? _ _ (hHeld.2.2.2.2.2.2.2.2.2.2.2.2.2.2.2.2.1))).trans (hHeld.2.2.2.2.2.2.2.2.2.2.2.2.2.2.2.2.1)
         have HS17_ := (hb.cell (World.block_lt_of_cell? _ _ (hHeld.2.2.2.2.2.2.2.2.2.2.2.2.2.2.2.2.2.1))).trans (hHeld.2.2.2.2.2.2.2.2.2.2.2.2.2.2.2.2.2.1)
         have HS18_ := (hb.cell (World.block_lt_of_cell? _ _ (hHeld.2.2.2.2.2.2.2.2.2.2.2.2.2.2.2.2.2.2.1))).trans (hHeld.2.2.2.2.2.2.2.2.2.2.2.2.2.2.2.2.2.2.1)
         have HS19_ := (hb.cell (World.block_lt_of_cell? _ _ (hHeld.2.2.2.2.2.2.2.2.2.2.2.2.2.2.2.2.2.2.2.1))).trans (hHeld.2.2.2.2.2.2.2.2.2.2.2.2.2.2.2.2.2.2.2.1)
         have HS20_ := (hb.cell (World.block_lt_of_cell? _ _ (hHeld.2.2.2.2.2.2.2.2.2.2.2.2.2.2.2.2.2.2.2.2.1))).trans (hHeld.2.2.2.2.2.2.2.2.2.2.2.2.2.2.2.2.2.2.2.2.1)
         have HS21_ := (hb.cell (World.block_lt_of_cell? _ _ (hHeld.2.2.2.2.2.2.2.2.2.2.2.2.2.2.2.2.2.2.2.2.2.1))).trans (hHeld.2.2.2.2.2.2.2.2.2.2.2.2.2.2.2.2.2.2.2.2.2.1)
         have HS22_ := (hb.cell (World.block_lt_of_cell? _ _ (hHeld.2.2.2.2.2.2.2.2.2.2.2.2.2.2.2.2.2.2.2.2.2.2.1))).trans (hHeld.2.2.2.2.2.2.2.2.2.2.2.2.2.2.2.2.2.2.2.2.2.2.1)
         have HS23_ := (hb.cell (World.block_lt_of_cell? _ _ (hHeld.2.2.2.2.2.2.2.2.2.2.2.2.2.2.2.2.2.2.2.2.2.2.2))).trans (hHeld.2.2.2.2.2.2.2.2.2.2.2.2.2.2.2.2.2.2.2.2.2.2.2)
         refine ⟨_, rfl, ?_⟩
         have n0_ := Aside0.mk (Kd.V_mono (Kd.V_told (Kd.V_told (Kd.V_old (by exact HO_0.out) hb) (Kd.R_base ho0)) (Kd.R_base ho1)) (fun _ h_ => h_.1))
         have n1_ := Aside0.mk (Kd.N_mono (Kd.N_told (Kd.N_told (Kd.N_old (by exact HO709.out) hb) (Kd.R_base ho0)) (Kd.R_base ho1)) (fun _ h_ => h_.1))
         have n2_ := Aside0.mk (Kd.V_mono (Kd.V_told (Kd.V_told (Kd.V_old (by exact HL710_4.out) hb) (Kd.R_base ho0)) (Kd.R_base ho1)) (fun _ h_ => h_.1))
         have n3_ := Aside0.mk (Kd.V_mono (Kd.V_told (Kd.V_told (Kd.V_old (by exact HL710_5.out) hb) (Kd.R_base ho0)) (Kd.R_base ho1)) (fun _ h_ => h_.1))
         have n4_ := Aside0.mk (Kd.V_mono (Kd.V_told (Kd.V_told (Kd.V_old (by exact HL711_4.out) hb) (Kd.R_base ho0)) (Kd.R_base ho1)) (fun _ h_ => h_.1))
         have n5_ := Aside0.mk (Kd.V_mono (Kd.V_told (Kd.V_told (Kd.V_old (by exact HL711_5.out) hb) (Kd.R_base ho0)) (Kd.R_base ho1)) (fun _ h_ => h_.1))
         have n6_ := Aside0.mk (Kd.V_mono (Kd.V_told (Kd.V_told (Kd.V_old (by exact HL722_4.out) hb) (Kd.R_base ho0)) (Kd.R_base ho1)) (fun _ h_ => h_.1))
         have n7_ := Aside0.mk (Kd.V_mono (Kd.V_told (Kd.V_told (Kd.V_old (by exact HL722_5.out) hb) (Kd.R_base ho0)) (Kd.R_base ho1)) (fun _ h_ => h_.1))
         have n8_ := Aside0.mk (Kd.V_mono (Kd.V_told (Kd.V_told (Kd.V_old (by exact HL723_4.out) hb) (Kd.R_base ho0)) (Kd.R_base ho1)) (fun _ h_ => h_.1))
         have n9_ := Aside0.mk (Kd.V_mono (Kd.V_told (Kd.V_told (Kd.V_old (by exact HL723_5.out) hb) (Kd.R_base ho0)) (Kd.R_base ho1)) (fun _ h_ => h_.1))
         have n10_ := Aside0.mk (Kd.R_lower (Kd.R_newM (M := fun k_ => (w.heap.size ≤ k_)) ho0 (below_size bl_) (fun k_ h_ => h_)) (below_size bl_))
         have n11_ := Aside0.mk (Kd.R_lower (Kd.R_newM (M := fun k_ => (w.heap.size ≤ k_)) ho1 (below_size bl_) (fun k_ h_ => h_)) (below_size bl_))
         have n12_ := Aside0.mk (Kd.C_below HR710_4.out hb)
         have n13_ := Aside0.mk (Kd.C_below HR710_5.out hb)
         have n14_ := Aside0.mk (Kd.C_below HR711_4.out hb)
         have n15_ := Aside0.mk (Kd.C_below HR711_5.out hb)
         have n16_ := Aside0.mk (Kd.C_below HR722_4.out hb)
         have n17_ := Aside0.mk (Kd.C_below HR722_5.out hb)
         have n18_ := Aside0.mk (Kd.C_below HR723_4.out hb)
         have n19_ := Aside0.mk (Kd.C_below HR723_5.out hb)
         have n20_ := Aside0.mk (below_step bl_ hb)
         clear HO_0; clear HO709; clear HL710_4; clear HL710_5; clear HL711_4; clear HL711_5; clear HL722_4; clear HL722_5; clear HL723_4; clear HL723_5; clear HR710_4; clear HR710_5; clear HR711_4; clear HR711_5; clear HR722_4; clear HR722_5; clear HR723_4; clear HR723_5; clear HB; have HO_0 := n0_; have HO709 := n1_; have HL710_4 := n2_; have HL710_5 := n3_; have HL711_4 := n4_; have HL711_5 := n5_; have HL722_4 := n6_; have HL722_5 := n7_; have HL723_4 := n8_; have HL723_5 := n9_; have HO718 := n10_; have HO721 := n11_; have HR710_4 := n12_; have HR710_5 := n13_; have HR711_4 := n14_; have HR711_5 := n15_; have HR722_4 := n16_; have HR722_5 := n17_; have HR723_4 := n18_; have HR723_5 := n19_; have HB := n20_; clear n0_ n1_ n2_ n3_ n4_ n5_ n6_ n7_ n8_ n9_ n10_ n11_ n12_ n13_ n14_ n15_ n16_ n17_ n18_ n19_ n20_
         (try clear hb)
         (try clear hb2)
         (try clear hk)
         (try clear hi)
         (try clear ho0)
         (try clear ho1)
         refine hK.out _ _ ⟨HS0_, HS1_, HS2_, HS3_, HS4_, HS5_, HS6_, HS7_, HS8_, HS9_, HS10_, HS11_, HS12_, HS13_, HS14_, HS15_, HS16_, HS17_, HS18_, HS19_, HS20_, HS21_, HS22_, HS23_⟩ (fun hHeld => ?_)
         clear hK K; refine norm_ (a' := ?_) ?_ ?_; rotate_left
         ·show Act.put _ (some 39) _ = _
          simp only [Act.put, List.setIfInBounds_toArray, List.set_cons_zero, List.set_cons_succ, i64_w, i32_w]
          rfl
         refine one_ (i := 19) (N := some 47) (fst_ 23 20) rfl rfl (one_of HT_.out (by kernel_rfl)) (by decide) (fun K hK => ?_)
         refine goes_ Try.func48 (by kernel_rfl) rfl #[.agg #[.int .u64 ((rd_T26 l0 0).f0), .int .u64 ((rd_T26 l0 0).f1), .int .u64 ((rd_T26 l0 0).f2), .int .u64 ((rd_T26 l0 0).f3), .slice A710_4 ((rd_T26 l0 0).f4).length c710_4, .slice A710_5 ((rd_T26 l0 0).f5).length c710_5], .agg #[.int .u64 ((rd_T26 l0 1).f0), .int .u64 ((rd_T26 l0 1).f1), .int .u64 ((rd_T26 l0 1).f2), .int .u64 ((rd_T26 l0 1).f3), .slice A711_4 ((rd_T26 l0 1).f4).length c711_4, .slice A711_5 ((rd_T26 l0 1).f5).length c711_5], .int .i64 a4] (by rfl) rfl rfl sa_ ?_
         with_reducible refine (conductorref10_Join.calls kj5 ((rd_T26 l0 0).f0) ((rd_T26 l0 0).f1) ((rd_T26 l0 0).f2) ((rd_T26 l0 0).f3) _ _ ((rd_T26 l0 0).f4) _ _ ((rd_T26 l0 0).f5) ((rd_T26 l0 1).f0) ((rd_T26 l0 1).f1) ((rd_T26 l0 1).f2) ((rd_T26 l0 1).f3) _ _ ((rd_T26 l0 1).f4) _ _ ((rd_T26 l0 1).f5) a4 t724 t725 t726 t727 t728 t731 _ ?side1 ?side2 ?side3 ?side4 ?side5 ?side6 ?side7 ?side8 A30.out).mono ?_
         (case side1 => exact HR722_4.out)
         (case side2 => exact HC722_4.out)
         (case side3 => exact HR722_5.out)
         (case side4 => exact HC722_5.out)
         (case side5 => exact HR723_4.out)
         (case side6 => exact HC723_4.out)
         (case side7 => exact HR723_5.out)
         (case side8 => exact HC723_5.out)
         rintro e w34 ⟨v729, v732, rfl, ho0, ho1, hb⟩
         have HS0_ := (hb.cell (World.block_lt_of_cell? _ _ (hHeld.1))).trans (hHeld.1)
         have HS1_ := (hb.cell (World.block_lt_of_cell? _ _ (hHeld.2.1))).trans (hHeld.2.1)
         have HS2_ := (hb.cell (World.block_lt_of_cell? _ _ (hHeld.2.2.1))).trans (hHeld.2.2.1)
         have HS3_ := (hb.cell (World.block_lt_of_cell? _ _ (hHeld.2.2.2.1))).trans (hHeld.2.2.2.1)
         have HS4_ := (hb.cell (World.block_lt_of_cell? _ _ (hHeld.2.2.2.2.1))).trans (hHeld.2.2.2.2.1)
         have HS5_ := (hb.cell (World.block_lt_of_cell? _ _ (hHeld.2.2.2.2.2.1))).trans (hHeld.2.2.2.2.2.1)
         have HS6_ := (hb.cell (World.block_lt_of_cell? _ _ (hHeld.2.2.2.2.2.2.1))).trans (hHeld.2.2.2.2.2.2.1)
         have HS7_ := (hb.cell (World.block_lt_of_cell? _ _ (hHeld.2.2.2.2.2.2.2.1))).trans (hHeld.2.2.2.2.2.2.2.1)
         have HS8_ := (hb.cell (World.block_lt_of_cell? _ _ (hHeld.2.2.2.2.2.2.2.2.1))).trans (hHeld.2.2.2.2.2.2.2.2.1)
         have HS9_ := (hb.cell (World.block_lt_of_cell? _ _ (hHeld.2.2.2.2.2.2.2.2.2.1))).trans (hHeld.2.2.2.2.2.2.2.2.2.1)
         have HS10_ := (hb.cell (World.block_lt_of_cell? _ _ (hHeld.2.2.2.2.2.2.2.2.2.2.1))).trans (hHeld.2.2.2.2.2.2.2.2.2.2.1)
         have HS11_ := (hb.cell (World.block_lt_of_cell? _ _ (hHeld.2.2.2.2.2.2.2.2.2.2.2.1))).trans (hHeld.2.2.2.2.2.2.2.2.2.2.2.1)
         have HS12_ := (hb.cell (World.block_lt_of_cell? _ _ (hHeld.2.2.2.2.2.2.2.2.2.2.2.2.1))).trans (hHeld.2.2.2.2.2.2.2.2.2.2.2.2.1)
         have HS13_ := (hb.cell (World.block_lt_of_cell? _ _ (hHeld.2.2.2.2.2.2.2.2.2.2.2.2.2.1))).trans (hHeld.2.2.2.2.2.2.2.2.2.2.2.2.2.1)
         have HS14_ := (hb.cell (World.block_lt_of_cell? _ _ (hHeld.2.2.2.2.2.2.2.2.2.2.2.2.2.2.1))).trans (hHeld.2.2.2.2.2.2.2.2.2.2.2.2.2.2.1)
         have HS15_ := (hb.cell (World.block_lt_of_cell? _ _ (hHeld.2.2.2.2.2.2.2.2.2.2.2.2.2.2.2.1))).trans (hHeld.2.2.2.2.2.2.2.2.2.2.2.2.2.2.2.1)
         have HS16_ := (hb.cell (World.block_lt_of_cell? _ _ (hHeld.2.2.2.2.2.2.2.2.2.2.2.2.2.2.2.2.1))).trans (hHeld.2.2.2.2.2.2.2.2.2.2.2.2.2.2.2.2.1)
         have HS17_ := (hb.cell (World.block_lt_of_cell? _ _ (hHeld.2.2.2.2.2.2.2.2.2.2.2.2.2.2.2.2.2.1))).trans (hHeld.2.2.2.2.2.2.2.2.2.2.2.2.2.2.2.2.2.1)
         have HS18_ := (hb.cell (World.block_lt_of_cell? _ _ (hHeld.2.2.2.2.2.2.2.2.2.2.2.2.2.2.2.2.2.2.1))).trans (hHeld.2.2.2.2.2.2.2.2.2.2.2.2.2.2.2.2.2.2.1)
         have HS19_ := (hb.cell (World.block_lt_of_cell? _ _ (hHeld.2.2.2.2.2.2.2.2.2.2.2.2.2.2.2.2.2.2.2.1))).trans (hHeld.2.2.2.2.2.2.2.2.2.2.2.2.2.2.2.2.2.2.2.1)
         have HS20_ := (hb.cell (World.block_lt_of_cell? _ _ (hHeld.2.2.2.2.2.2.2.2.2.2.2.2.2.2.2.2.2.2.2.2.1))).trans (hHeld.2.2.2.2.2.2.2.2.2.2.2.2.2.2.2.2.2.2.2.2.1)
         have HS21_ := (hb.cell (World.block_lt_of_cell? _ _ (hHeld.2.2.2.2.2.2.2.2.2.2.2.2.2.2.2.2.2.2.2.2.2.1))).trans (hHeld.2.2.2.2.2.2.2.2.2.2.2.2.2.2.2.2.2.2.2.2.2.1)
         have HS22_ := (hb.cell (World.block_lt_of_cell? _ _ (hHeld.2.2.2.2.2.2.2.2.2.2.2.2.2.2.2.2.2.2.2.2.2.2.1))).trans (hHeld.2.2.2.2.2.2.2.2.2.2.2.2.2.2.2.2.2.2.2.2.2.2.1)
         have HS23_ := (hb.cell (World.block_lt_of_cell? _ _ (hHeld.2.2.2.2.2.2.2.2.2.2.2.2.2.2.2.2.2.2.2.2.2.2.2))).trans (hHeld.2.2.2.2.2.2.2.2.2.2.2.2.2.2.2.2.2.2.2.2.2.2.2)
         refine ⟨_, rfl, ?_⟩
         have n0_ := Aside0.mk (Kd.V_mono (Kd.V_told (Kd.V_told (Kd.V_old (by exact HO_0.out) hb) (Kd.R_base ho0)) (Kd.R_base ho1)) (fun _ h_ => h_.1))
         have n1_ := Aside0.mk (Kd.N_mono (Kd.N_told (Kd.N_told (Kd.N_old (by exact HO709.out) hb) (Kd.R_base ho0)) (Kd.R_base ho1)) (fun _ h_ => h_.1))
         have n2_ := Aside0.mk (Kd.V_mono (Kd.V_told (Kd.V_told (Kd.V_old (by exact HL710_4.out) hb) (Kd.R_base ho0)) (Kd.R_base ho1)) (fun _ h_ => h_.1))
         have n3_ := Aside0.mk (Kd.V_mono (Kd.V_told (Kd.V_told (Kd.V_old (by exact HL710_5.out) hb) (Kd.R_base ho0)) (Kd.R_base ho1)) (fun _ h_ => h_.1))
         have n4_ := Aside0.mk (Kd.V_mono (Kd.V_told (Kd.V_told (Kd.V_old (by exact HL711_4.out) hb) (Kd.R_base ho0)) (Kd.R_base ho1)) (fun _ h_ => h_.1))
         have n5_ := Aside0.mk (Kd.V_mono (Kd.V_told (Kd.V_told (Kd.V_old (by exact HL711_5.out) hb) (Kd.R_base ho0)) (Kd.R_base ho1)) (fun _ h_ => h_.1))
         have n6_ := Aside0.mk (Kd.V_mono (Kd.V_told (Kd.V_told (Kd.V_old (by exact HL722_4.out) hb) (Kd.R_base ho0)) (Kd.R_base ho1)) (fun _ h_ => h_.1))
         have n7_ := Aside0.mk (Kd.V_mono (Kd.V_told (Kd.V_told (Kd.V_old (by exact HL722_5.out) hb) (Kd.R_base ho0)) (Kd.R_base ho1)) (fun _ h_ => h_.1))
         have n8_ := Aside0.mk (Kd.V_mono (Kd.V_told (Kd.V_told (Kd.V_old (by exact HL723_4.out) hb) (Kd.R_base ho0)) (Kd.R_base ho1)) (fun _ h_ => h_.1))
         have n9_ := Aside0.mk (Kd.V_mono (Kd.V_told (Kd.V_told (Kd.V_old (by exact HL723_5.out) hb) (Kd.R_base ho0)) (Kd.R_base ho1)) (fun _ h_ => h_.1))
         have n10_ := Aside0.mk (Kd.R_mono (Kd.R_told (Kd.R_told (Kd.R_old (by exact HO718.out) hb) (Kd.R_base ho0)) (Kd.R_base ho1)) (fun _ h_ => h_.1))
         have n11_ := Aside0.mk (Kd.R_mono (Kd.R_told (Kd.R_told (Kd.R_old (by exact HO721.out) hb) (Kd.R_base ho0)) (Kd.R_base ho1)) (fun _ h_ => h_.1))
         have n12_ := Aside0.mk (Kd.R_lower (Kd.R_new' (Kd.R_new' (Kd.R_newM (M := fun k_ => (w.heap.size ≤ k_)) ho0 (below_size bl_) (fun k_ h_ => h_)) (Kd.R_lt (by exact HO718.out))) (Kd.R_lt (by exact HO721.out))) (below_size bl_))
         have n13_ := Aside0.mk (Kd.R_lower (Kd.R_new' (Kd.R_new' (Kd.R_newM (M := fun k_ => (w.heap.size ≤ k_)) ho1 (below_size bl_) (fun k_ h_ => h_)) (Kd.R_lt (by exact HO718.out))) (Kd.R_lt (by exact HO721.out))) (below_size bl_))
         have n14_ := Aside0.mk (Kd.C_below HR710_4.out hb)
         have n15_ := Aside0.mk (Kd.C_below HR710_5.out hb)
         have n16_ := Aside0.mk (Kd.C_below HR711_4.out hb)
         have n17_ := Aside0.mk (Kd.C_below HR711_5.out hb)
         have n18_ := Aside0.mk (Kd.C_below HR722_4.out hb)
         have n19_ := Aside0.mk (Kd.C_below HR722_5.out hb)
         have n20_ := Aside0.mk (Kd.C_below HR723_4.out hb)
         have n21_ := Aside0.mk (Kd.C_below HR723_5.out hb)
         have n22_ := Aside0.mk (below_step bl_ hb)
         clear HO_0; clear HO709; clear HL710_4; clear HL710_5; clear HL711_4; clear HL711_5; clear HL722_4; clear HL722_5; clear HL723_4; clear HL723_5; clear HO718; clear HO721; clear HR710_4; clear HR710_5; clear HR711_4; clear HR711_5; clear HR722_4; clear HR722_5; clear HR723_4; clear HR723_5; clear HB; have HO_0 := n0_; have HO709 := n1_; have HL710_4 := n2_; have HL710_5 := n3_; have HL711_4 := n4_; have HL711_5 := n5_; have HL722_4 := n6_; have HL722_5 := n7_; have HL723_4 := n8_; have HL723_5 := n9_; have HO718 := n10_; have HO721 := n11_; have HO730 := n12_; have HO733 := n13_; have HR710_4 := n14_; have HR710_5 := n15_; have HR711_4 := n16_; have HR711_5 := n17_; have HR722_4 := n18_; have HR722_5 := n19_; have HR723_4 := n20_; have HR723_5 := n21_; have HB := n22_; clear n0_ n1_ n2_ n3_ n4_ n5_ n6_ n7_ n8_ n9_ n10_ n11_ n12_ n13_ n14_ n15_ n16_ n17_ n18_ n19_ n20_ n21_ n22_
         (try clear hb)
         (try clear hb2)
         (try clear hk)
         (try clear hi)
         (try clear ho0)
         (try clear ho1)
         obtain ⟨Ao35, co35, eo35⟩ := Kd.R_slice HO718.out
         (first | subst eo35 | (injection eo35 with f1_ f2_ f3_; have f4_ := f1_.symm; have f5_ := f3_.symm; clear f1_ f2_ f3_; subst f4_; subst f5_))
         obtain ⟨Ao36, co36, eo36⟩ := Kd.R_slice HO721.out
         (first | subst eo36 | (injection eo36 with f1_ f2_ f3_; have f4_ := f1_.symm; have f5_ := f3_.symm; clear f1_ f2_ f3_; subst f4_; subst f5_))
         obtain ⟨Ao37, co37, eo37⟩ := Kd.R_slice HO730.out
         (first | subst eo37 | (injection eo37 with f1_ f2_ f3_; have f4_ := f1_.symm; have f5_ := f3_.symm; clear f1_ f2_ f3_; subst f4_; subst f5_))
         obtain ⟨Ao38, co38, eo38⟩ := Kd.R_slice HO733.out
         (first | subst eo38 | (injection eo38 with f1_ f2_ f3_; have f4_ := f1_.symm; have f5_ := f3_.symm; clear f1_ f2_ f3_; subst f4_; subst f5_))
         refine hK.out _ _ ⟨HS0_, HS1_, HS2_, HS3_, HS4_, HS5_, HS6_, HS7_, HS8_, HS9_, HS10_, HS11_, HS12_, HS13_, HS14_, HS15_, HS16_, HS17_, HS18_, HS19_, HS20_, HS21_, HS22_, HS23_⟩ (fun hHeld => ?_)
         clear hK K; refine norm_ (a' := ?_) ?_ ?_; rotate_left
         ·show Act.put _ (some 47) _ = _
          simp only [Act.put, List.setIfInBounds_toArray, List.set_cons_zero, List.set_cons_succ, i64_w, i32_w]
          rfl
         refine one_ (i := 20) (N := some 48) (fst_ 23 21) rfl rfl (one_of HT_.out (by kernel_rfl)) (by decide) (fun K hK => ?_)
         refine goes_ Try.func46 (by kernel_rfl) rfl #[.agg #[.int .u64 t712, .int .u64 t713, .int .u64 t714, .int .u64 t715, .slice Ao35 t716.length co35, .slice Ao36 t719.length co36], .agg #[.int .u64 t724, .int .u64 t725, .int .u64 t726, .int .u64 t727, .slice Ao37 t728.length co37, .slice Ao38 t731.length co38]] (by rfl) rfl rfl sa_ ?_
         with_reducible refine (conductorref10_SameOne.calls kj5 t712 t713 t714 t715 _ _ t716 _ _ t719 t724 t725 t726 t727 _ _ t728 _ _ t731 t734 _ ?side1 ?side2 ?side3 ?side4 ?side5 ?side6 ?side7 ?side8 A31.out).mono ?_
         (case side1 => exact (Kd.R_reads' HO718.out).2.2)
         (case side2 => exact (Kd.R_reads' HO718.out).2.1)
         (case side3 => exact (Kd.R_reads' HO721.out).2.2)
         (case side4 => exact (Kd.R_reads' HO721.out).2.1)
         (case side5 => exact (Kd.R_reads' HO730.out).2.2)
         (case side6 => exact (Kd.R_reads' HO730.out).2.1)
         (case side7 => exact (Kd.R_reads' HO733.out).2.2)
         (case side8 => exact (Kd.R_reads' HO733.out).2.1)
         rintro e w39 ⟨rfl, hb⟩
         have HS0_ := (hb.cell (World.block_lt_of_cell? _ _ (hHeld.1))).trans (hHeld.1)
         have HS1_ := (hb.cell (World.block_lt_of_cell? _ _ (hHeld.2.1))).trans (hHeld.2.1)
         have HS2_ := (hb.cell (World.block_lt_of_cell? _ _ (hHeld.2.2.1))).trans (hHeld.2.2.1)
         have HS3_ := (hb.cell (World.block_lt_of_cell? _ _ (hHeld.2.2.2.1))).trans (hHeld.2.2.2.1)
         have HS4_ := (hb.cell (World.block_lt_of_cell? _ _ (hHeld.2.2.2.2.1))).trans (hHeld.2.2.2.2.1)
         have HS5_ := (hb.cell (World.block_lt_of_cell? _ _ (hHeld.2.2.2.2.2.1))).trans (hHeld.2.2.2.2.2.1)
         have HS6_ := (hb.cell (World.block_lt_of_cell? _ _ (hHeld.2.2.2.2.2.2.1))).trans (hHeld.2.2.2.2.2.2.1)
         have HS7_ := (hb.cell (World.block_lt_of_cell? _ _ (hHeld.2.2.2.2.2.2.2.1))).trans (hHeld.2.2.2.2.2.2.2.1)
         have HS8_ := (hb.cell (World.block_lt_of_cell? _ _ (hHeld.2.2.2.2.2.2.2.2.1))).trans (hHeld.2.2.2.2.2.2.2.2.1)
         have HS9_ := (hb.cell (World.block_lt_of_cell? _ _ (hHeld.2.2.2.2.2.2.2.2.2.1))).trans (hHeld.2.2.2.2.2.2.2.2.2.1)
         have HS10_ := (hb.cell (World.block_lt_of_cell? _ _ (hHeld.2.2.2.2.2.2.2.2.2.2.1))).trans (hHeld.2.2.2.2.2.2.2.2.2.2.1)
         have HS11_ := (hb.cell (World.block_lt_of_cell? _ _ (hHeld.2.2.2.2.2.2.2.2.2.2.2.1))).trans (hHeld.2.2.2.2.2.2.2.2.2.2.2.1)
         have HS12_ := (hb.cell (World.block_lt_of_cell? _ _ (hHeld.2.2.2.2.2.2.2.2.2.2.2.2.1))).trans (hHeld.2.2.2.2.2.2.2.2.2.2.2.2.1)
         have HS13_ := (hb.cell (World.block_lt_of_cell? _ _ (hHeld.2.2.2.2.2.2.2.2.2.2.2.2.2.1))).trans (hHeld.2.2.2.2.2.2.2.2.2.2.2.2.2.1)
         have HS14_ := (hb.cell (World.block_lt_of_cell? _ _ (hHeld.2.2.2.2.2.2.2.2.2.2.2.2.2.2.1))).trans (hHeld.2.2.2.2.2.2.2.2.2.2.2.2.2.2.1)
         have HS15_ := (hb.cell (World.block_lt_of_cell? _ _ (hHeld.2.2.2.2.2.2.2.2.2.2.2.2.2.2.2.1))).trans (hHeld.2.2.2.2.2.2.2.2.2.2.2.2.2.2.2.1)
         have HS16_ := (hb.cell (World.block_lt_of_cell? _ _ (hHeld.2.2.2.2.2.2.2.2.2.2.2.2.2.2.2.2.1))).trans (hHeld.2.2.2.2.2.2.2.2.2.2.2.2.2.2.2.2.1)
         have HS17_ := (hb.cell (World.block_lt_of_cell? _ _ (hHeld.2.2.2.2.2.2.2.2.2.2.2.2.2.2.2.2.2.1))).trans (hHeld.2.2.2.2.2.2.2.2.2.2.2.2.2.2.2.2.2.1)
         have HS18_ := (hb.cell (World.block_lt_of_cell? _ _ (hHeld.2.2.2.2.2.2.2.2.2.2.2.2.2.2.2.2.2.2.1))).trans (hHeld.2.2.2.2.2.2.2.2.2.2.2.2.2.2.2.2.2.2.1)
         have HS19_ := (hb.cell (World.block_lt_of_cell? _ _ (hHeld.2.2.2.2.2.2.2.2.2.2.2.2.2.2.2.2.2.2.2.1))).trans (hHeld.2.2.2.2.2.2.2.2.2.2.2.2.2.2.2.2.2.2.2.1)
         have HS20_ := (hb.cell (World.block_lt_of_cell? _ _ (hHeld.2.2.2.2.2.2.2.2.2.2.2.2.2.2.2.2.2.2.2.2.1))).trans (hHeld.2.2.2.2.2.2.2.2.2.2.2.2.2.2.2.2.2.2.2.2.1)
         have HS21_ := (hb.cell (World.block_lt_of_cell? _ _ (hHeld.2.2.2.2.2.2.2.2.2.2.2.2.2.2.2.2.2.2.2.2.2.1))).trans (hHeld.2.2.2.2.2.2.2.2.2.2.2.2.2.2.2.2.2.2.2.2.2.1)
         have HS22_ := (hb.cell (World.block_lt_of_cell? _ _ (hHeld.2.2.2.2.2.2.2.2.2.2.2.2.2.2.2.2.2.2.2.2.2.2.1))).trans (hHeld.2.2.2.2.2.2.2.2.2.2.2.2.2.2.2.2.2.2.2.2.2.2.1)
         have HS23_ := (hb.cell (World.block_lt_of_cell? _ _ (hHeld.2.2.2.2.2.2.2.2.2.2.2.2.2.2.2.2.2.2.2.2.2.2.2))).trans (hHeld.2.2.2.2.2.2.2.2.2.2.2.2.2.2.2.2.2.2.2.2.2.2.2)
         refine ⟨_, rfl, ?_⟩
         have n0_ := Aside0.mk (Kd.V_below (by exact HO_0.out) hb)
         have n1_ := Aside0.mk (Kd.N_below (by exact HO709.out) hb)
         have n2_ := Aside0.mk (Kd.V_below (by exact HL710_4.out) hb)
         have n3_ := Aside0.mk (Kd.V_below (by exact HL710_5.out) hb)
         have n4_ := Aside0.mk (Kd.V_below (by exact HL711_4.out) hb)
         have n5_ := Aside0.mk (Kd.V_below (by exact HL711_5.out) hb)
         have n6_ := Aside0.mk (Kd.V_below (by exact HL722_4.out) hb)
         have n7_ := Aside0.mk (Kd.V_below (by exact HL722_5.out) hb)
         have n8_ := Aside0.mk (Kd.V_below (by exact HL723_4.out) hb)
         have n9_ := Aside0.mk (Kd.V_below (by exact HL723_5.out) hb)
         have n10_ := Aside0.mk (Kd.R_below (by exact HO718.out) hb)
         have n11_ := Aside0.mk (Kd.R_below (by exact HO721.out) hb)
         have n12_ := Aside0.mk (Kd.R_below (by exact HO730.out) hb)
         have n13_ := Aside0.mk (Kd.R_below (by exact HO733.out) hb)
         have n14_ := Aside0.mk (Kd.C_below HR710_4.out hb)
         have n15_ := Aside0.mk (Kd.C_below HR710_5.out hb)
         have n16_ := Aside0.mk (Kd.C_below HR711_4.out hb)
         have n17_ := Aside0.mk (Kd.C_below HR711_5.out hb)
         have n18_ := Aside0.mk (Kd.C_below HR722_4.out hb)
         have n19_ := Aside0.mk (Kd.C_below HR722_5.out hb)
         have n20_ := Aside0.mk (Kd.C_below HR723_4.out hb)
         have n21_ := Aside0.mk (Kd.C_below HR723_5.out hb)
         have n22_ := Aside0.mk (below_step bl_ hb)
         clear HO_0; clear HO709; clear HL710_4; clear HL710_5; clear HL711_4; clear HL711_5; clear HL722_4; clear HL722_5; clear HL723_4; clear HL723_5; clear HO718; clear HO721; clear HO730; clear HO733; clear HR710_4; clear HR710_5; clear HR711_4; clear HR711_5; clear HR722_4; clear HR722_5; clear HR723_4; clear HR723_5; clear HB; have HO_0 := n0_; have HO709 := n1_; have HL710_4 := n2_; have HL710_5 := n3_; have HL711_4 := n4_; have HL711_5 := n5_; have HL722_4 := n6_; have HL722_5 := n7_; have HL723_4 := n8_; have HL723_5 := n9_; have HO718 := n10_; have HO721 := n11_; have HO730 := n12_; have HO733 := n13_; have HR710_4 := n14_; have HR710_5 := n15_; have HR711_4 := n16_; have HR711_5 := n17_; have HR722_4 := n18_; have HR722_5 := n19_; have HR723_4 := n20_; have HR723_5 := n21_; have HB := n22_; clear n0_ n1_ n2_ n3_ n4_ n5_ n6_ n7_ n8_ n9_ n10_ n11_ n12_ n13_ n14_ n15_ n16_ n17_ n18_ n19_ n20_ n21_ n22_
         (try clear hb)
         (try clear hb2)
         (try clear hk)
         (try clear hi)
         refine hK.out _ _ ⟨HS0_, HS1_, HS2_, HS3_, HS4_, HS5_, HS6_, HS7_, HS8_, HS9_, HS10_, HS11_, HS12_, HS13_, HS14_, HS15_, HS16_, HS17_, HS18_, HS19_, HS20_, HS21_, HS22_, HS23_⟩ (fun hHeld => ?_)
         clear hK K; refine norm_ (a' := ?_) ?_ ?_; rotate_left
         ·show Act.put _ (some 48) _ = _
          simp only [Act.put, List.setIfInBounds_toArray, List.set_cons_zero, List.set_cons_succ, i64_w, i32_w]
          rfl
         iterate 2 (refine pk_ (v := ?_) (a' := ?_) HT_.out rfl rfl (by kernel_rfl) (fun _ _ _ h => h) (Or.inl ⟨by rfl, ?_⟩) ?_ ?_; rotate_left; (· intro w'; go_simp; with_reducible rfl); rotate_left; (· simp only [Act.put, List.setIfInBounds_toArray, List.set_cons_zero, List.set_cons_succ, i64_w, i32_w]; rfl))
         refine done_ (done_of HT_.out (by kernel_rfl)) ?_
         try go_wp2
         go_meet
         case rel => exact ⟨_, (!t734), (by first | rfl | (simp; done) | (simp [*]; done)), H', ⟨by have := HJ5.out; first | omega | exact Nat.le_refl _⟩, ⟨by exact Kd.V_mono HO_0.out (fun _ hk => ⟨hk.1.1.1.1.1, hk.1.1.1.1.2⟩)⟩, ⟨by exact Kd.N_mono HO709.out (fun _ hk => hk.1.1.1.1)⟩, ⟨bl_⟩⟩
        ·rw [if_neg c28] at H
         exact absurd H (by simp)
       ·rw [if_neg c27] at H
        exact absurd H (by simp)
      ·rw [if_neg c26] at H
       have c26b0 : decide (1 < (l0.length : Int)) = false := decide_eq_false c26
       have c26b1 : decide (1 < l0.length) = false := decide_eq_false (by omega)
       clear c26
       (first | rw [c26b0] | (simp only [i64_w, i32_w]; rw [c26b0]) | skip)
       have H' := Aside0.mk H; clear H
       try go_wp2
       have n0_ := Aside0.mk (Kd.V_drew HO_0.out)
       have n1_ := Aside0.mk (Kd.N_drew HO709.out)
       have n2_ := Aside0.mk (below_drew1 HB.out)
       clear HO_0; clear HO709; clear HB; have HO_0 := n0_; have HO709 := n1_; have HB := n2_; clear n0_ n1_ n2_
       refine start_ (n := 23) (S := fun w' => True) (ds := []) (fst_ 23 0) (by kernel_rfl) rfl rfl trivial (fun hHeld => ?_); refine with_tabW conductorlaw10_SsiJoins.tab4 conductorlaw10_SsiJoins.bits4 (fun HT_ HW_ => ?_)
       generalize w25.drew = w40 at HO_0 HO709 HB hHeld ⊢
       iterate 23 (first | (refine pk_ (v := ?_) (a' := ?_) HT_.out rfl rfl (by kernel_rfl) (fun _ _ _ h => h) (Or.inl ⟨by rfl, ?_⟩) ?_ ?_; rotate_left; (· intro w'; go_simp; with_reducible rfl); rotate_left; (· simp only [Act.put, List.setIfInBounds_toArray, List.set_cons_zero, List.set_cons_succ, i64_w, i32_w]; rfl)) | (refine pk_ (v := undef) (a' := ?_) HT_.out rfl rfl (by kernel_rfl) (fun _ _ _ h => h) (Or.inr ⟨by rfl, rfl⟩) ?_ ?_; rotate_left; (· simp only [Act.put, List.setIfInBounds_toArray, List.set_cons_zero, List.set_cons_succ, i64_w, i32_w]; rfl)))
       refine done_ (done_of HT_.out (by kernel_rfl)) ?_
       try go_wp2
       go_meet
       case rel => exact ⟨_, (false), (by first | rfl | (simp; done) | (simp [*]; done)), H', ⟨by have := HJ5.out; first | omega | exact Nat.le_refl _⟩, ⟨by exact HO_0.out⟩, ⟨by exact HO709.out⟩, ⟨bl_⟩⟩
     case rest =>
      clear HC22; obtain ⟨kq, x50_21, rfl, HA, HJ21, HO_0, HO_11, HB⟩ := hcut
      cases kq with
      | zero => exact absurd HA.out (by simp [conductorlaw10_SsiJoins.j1])
      | succ kj21 =>
       have H := HA.out
       clear HA
       simp only [conductorlaw10_SsiJoins.j1] at H
       by_cases c41 : x50_21 = true
       ·subst c41
        have H1 : (some false) = some r := by rw [if_pos rfl] at H; exact H
        exact absurd ((Option.some.inj H1).trans hT.out) (by decide)
       ·replace c41 := Bool.eq_false_iff.mpr c41
        subst c41
        have H1 : ((ssi_Forget.f kj21 l0 a2).bind fun t735 => ((conductorref10_Forget.f kj21 l0 a2).bind fun t738 => ((conductorref10_Same.f kj21 t735 t738).bind fun t741 => (if t741 = true then ((ssi_Fit.f kj21 l0 a3 a4).bind fun t742 => ((conductorref10_Fit.f kj21 l0 a3 a4).bind fun t745 => ((conductorref10_Same.f kj21 t742 t745).bind fun t748 => (if t748 = true then ((ssi_Same.f kj21 l0 l1).bind fun t749 => ((conductorref10_Same.f kj21 l0 l1).bind fun t750 => (if (t749 == t750) = true then ((conductorref10_Same.f kj21 l0 y707).bind fun t751 => (some t751)) else (some false)))) else (some false))))) else (some false))))) = some r := by rw [if_neg (show ¬ (false = true) by decide)] at H; exact H
        clear H; have H := H1; clear H1; replace H := Option.bind_eq_some_iff.mp H; obtain ⟨t735, A420, H⟩ := H
        replace H : ((conductorref10_Forget.f kj21 l0 a2).bind fun t738 => ((conductorref10_Same.f kj21 t735 t738).bind fun t741 => (if t741 = true then ((ssi_Fit.f kj21 l0 a3 a4).bind fun t742 => ((conductorref10_Fit.f kj21 l0 a3 a4).bind fun t745 => ((conductorref10_Same.f kj21 t742 t745).bind fun t748 => (if t748 = true then ((ssi_Same.f kj21 l0 l1).bind fun t749 => ((conductorref10_Same.f kj21 l0 l1).bind fun t750 => (if (t749 == t750) = true then ((conductorref10_Same.f kj21 l0 y707).bind fun t751 => (some t751)) else (some false)))) else (some false))))) else (some false)))) = some r := H
        have A42 := Aside0.mk A420; clear A420; replace H := Option.bind_eq_some_iff.mp H; obtain ⟨t738, A430, H⟩ := H
        replace H : ((conductorref10_Same.f kj21 t735 t738).bind fun t741 => (if t741 = true then ((ssi_Fit.f kj21 l0 a3 a4).bind fun t742 => ((conductorref10_Fit.f kj21 l0 a3 a4).bind fun t745 => ((conductorref10_Same.f kj21 t742 t745).bind fun t748 => (if t748 = true then ((ssi_Same.f kj21 l0 l1).bind fun t749 => ((conductorref10_Same.f kj21 l0 l1).bind fun t750 => (if (t749 == t750) = true then ((conductorref10_Same.f kj21 l0 y707).bind fun t751 => (some t751)) else (some false)))) else (some false))))) else (some false))) = some r := H
        have A43 := Aside0.mk A430; clear A430; replace H := Option.bind_eq_some_iff.mp H; obtain ⟨t741, A440, H⟩ := H
        replace H : (if t741 = true then ((ssi_Fit.f kj21 l0 a3 a4).bind fun t742 => ((conductorref10_Fit.f kj21 l0 a3 a4).bind fun t745 => ((conductorref10_Same.f kj21 t742 t745).bind fun t748 => (if t748 = true then ((ssi_Same.f kj21 l0 l1).bind fun t749 => ((conductorref10_Same.f kj21 l0 l1).bind fun t750 => (if (t749 == t750) = true then ((conductorref10_Same.f kj21 l0 y707).bind fun t751 => (some t751)) else (some false)))) else (some false))))) else (some false)) = some r := H
        have A44 := Aside0.mk A440; clear A440
        by_cases c45 : t741 = true
        ·subst c45
         have H1 : ((ssi_Fit.f kj21 l0 a3 a4).bind fun t742 => ((conductorref10_Fit.f kj21 l0 a3 a4).bind fun t745 => ((conductorref10_Same.f kj21 t742 t745).bind fun t748 => (if t748 = true then ((ssi_Same.f kj21 l0 l1).bind fun t749 => ((conductorref10_Same.f kj21 l0 l1).bind fun t750 => (if (t749 == t750) = true then ((conductorref10_Same.f kj21 l0 y707).bind fun t751 => (some t751)) else (some false)))) else (some false))))) = some r := by rw [if_pos rfl] at H; exact H
         clear H; have H := H1; clear H1; replace H := Option.bind_eq_some_iff.mp H; obtain ⟨t742, A460, H⟩ := H
         replace H : ((conductorref10_Fit.f kj21 l0 a3 a4).bind fun t745 => ((conductorref10_Same.f kj21 t742 t745).bind fun t748 => (if t748 = true then ((ssi_Same.f kj21 l0 l1).bind fun t749 => ((conductorref10_Same.f kj21 l0 l1).bind fun t750 => (if (t749 == t750) = true then ((conductorref10_Same.f kj21 l0 y707).bind fun t751 => (some t751)) else (some false)))) else (some false)))) = some r := H
         have A46 := Aside0.mk A460; clear A460; replace H := Option.bind_eq_some_iff.mp H; obtain ⟨t745, A470, H⟩ := H
         replace H : ((conductorref10_Same.f kj21 t742 t745).bind fun t748 => (if t748 = true then ((ssi_Same.f kj21 l0 l1).bind fun t749 => ((conductorref10_Same.f kj21 l0 l1).bind fun t750 => (if (t749 == t750) = true then ((conductorref10_Same.f kj21 l0 y707).bind fun t751 => (some t751)) else (some false)))) else (some false))) = some r := H
         have A47 := Aside0.mk A470; clear A470; replace H := Option.bind_eq_some_iff.mp H; obtain ⟨t748, A480, H⟩ := H
         replace H : (if t748 = true then ((ssi_Same.f kj21 l0 l1).bind fun t749 => ((conductorref10_Same.f kj21 l0 l1).bind fun t750 => (if (t749 == t750) = true then ((conductorref10_Same.f kj21 l0 y707).bind fun t751 => (some t751)) else (some false)))) else (some false)) = some r := H
         have A48 := Aside0.mk A480; clear A480
         by_cases c49 : t748 = true
         ·subst c49
          have H1 : ((ssi_Same.f kj21 l0 l1).bind fun t749 => ((conductorref10_Same.f kj21 l0 l1).bind fun t750 => (if (t749 == t750) = true then ((conductorref10_Same.f kj21 l0 y707).bind fun t751 => (some t751)) else (some false)))) = some r := by rw [if_pos rfl] at H; exact H
          clear H; have H := H1; clear H1; replace H := Option.bind_eq_some_iff.mp H; obtain ⟨t749, A500, H⟩ := H
          replace H : ((conductorref10_Same.f kj21 l0 l1).bind fun t750 => (if (t749 == t750) = true then ((conductorref10_Same.f kj21 l0 y707).bind fun t751 => (some t751)) else (some false))) = some r := H
          have A50 := Aside0.mk A500; clear A500; replace H := Option.bind_eq_some_iff.mp H; obtain ⟨t750, A510, H⟩ := H
          replace H : (if (t749 == t750) = true then ((conductorref10_Same.f kj21 l0 y707).bind fun t751 => (some t751)) else (some false)) = some r := H
          have A51 := Aside0.mk A510; clear A510
          by_cases c52 : (t749 == t750) = true
          ·rw [if_pos c52] at H
           have c52b0 : (t749 == t750) = true := c52
           (try (have c52b1 : decide (t749 = t750) = true := by simpa using c52))
           (try (have c52b2 : (t749 == t750) = true := by simpa using c52))
           clear c52; replace H := Option.bind_eq_some_iff.mp H; obtain ⟨t751, A530, H⟩ := H
           replace H : (some t751) = some r := H
           have A53 := Aside0.mk A530; clear A530; obtain rfl := Option.some.inj H
           go_wp2_with (first | ((with_reducible refine gate_callee (f := 20) rfl ?_); refine goesL_ (some 53) rfl rfl Try.func20 (by kernel_rfl) rfl #[.slice A0 l0.length c0, .int .u64 a2] rfl sa_ ?_; (with_reducible refine (ssi_Forget.calls kj21 _ _ l0 a2 t735 _ ?side1 ?side2 A42.out).mono ?_); (case side1 => exact (Kd.V_reads' HO_0.out).2.2); (case side2 => exact (Kd.V_reads' HO_0.out).2.1); rintro e w54 ⟨v736, rfl, ho0, hb⟩; refine ⟨_, rfl, ?_⟩; have n0_ := Aside0.mk (Kd.V_elder' (by exact HO_0.out) (Kd.N_base ho0) hb); have n1_ := Aside0.mk (Kd.N_elder' (by exact HO_11.out) (Kd.N_base ho0) hb); have n2_ := Aside0.mk (Kd.N_lower (Kd.N_mono (ok' := fun k_ => (P0_ k_ ∨ w.heap.size ≤ k_) ∧ some k_ ≠ (v708 : Value).ownBlock) ho0 (fun k_ hk_ => ⟨(.inr (Nat.le_trans (below_size bl_) hk_)), (Kd.fresh' (Kd.N_lt (by exact HO_11.out)) k_ hk_)⟩)) (below_size bl_)); have n3_ := Aside0.mk (below_step bl_ hb); clear HO_0; clear HO_11; clear HB; have HO_0 := n0_; have HO_11 := n1_; have HO737 := n2_; have HB := n3_; clear n0_ n1_ n2_ n3_; (try clear hb); (try clear hb2); (try clear hk); (try clear hi); (try clear ho0)) | ((with_reducible refine gate_callee (f := 50) rfl ?_); refine goesL_ (some 56) rfl rfl Try.func50 (by kernel_rfl) rfl #[.slice A0 l0.length c0, .int .u64 a2] rfl sa_ ?_; (with_reducible refine (conductorref10_Forget.calls kj21 (fun k_ => (((P0_ k_ ∨ w.heap.size ≤ k_) ∧ some k_ ≠ (v708 : Value).ownBlock) ∧ some k_ ≠ (v736 : Value).ownBlock)) _ _ l0 a2 t738 _ ?side1 A43.out).mono ?_); (case side1 => exact HO_0.out); rintro e w55 ⟨v739, rfl, ho0, hb⟩; refine ⟨_, rfl, ?_⟩; have n0_ := Aside0.mk (Kd.V_elder' (by exact HO_0.out) (Kd.N_base ho0) hb); have n1_ := Aside0.mk (Kd.N_elder' (by exact HO_11.out) (Kd.N_base ho0) hb); have n2_ := Aside0.mk (Kd.N_elder' (by exact HO737.out) (Kd.N_base ho0) hb); have n3_ := Aside0.mk (Kd.N_lower (Kd.N_mono (ok' := fun k_ => (P0_ k_ ∨ w.heap.size ≤ k_) ∧ some k_ ≠ (v708 : Value).ownBlock ∧ some k_ ≠ (v736 : Value).ownBlock) ho0 (fun k_ hk_ => ⟨Or.elim hk_ (fun hs_ => hs_.1.1) (fun hn_ => (.inr (Nat.le_trans (below_size bl_) hn_))), Or.elim hk_ (fun hs_ => hs_.1.2) (fun hn_ => (Kd.fresh' (Kd.N_lt (by exact HO_11.out)) k_ hn_)), Or.elim hk_ (fun hs_ => hs_.2) (fun hn_ => (Kd.fresh' (Kd.N_lt (by exact HO737.out)) k_ hn_))⟩)) (below_size bl_)); have n4_ := Aside0.mk (below_step bl_ hb); clear HO_0; clear HO_11; clear HO737; clear HB; have HO_0 := n0_; have HO_11 := n1_; have HO737 := n2_; have HO740 := n3_; have HB := n4_; clear n0_ n1_ n2_ n3_ n4_; (try clear hb); (try clear hb2); (try clear hk); (try clear hi); (try clear ho0); obtain ⟨Ao56, co56, eo56⟩ := Kd.N_slice HO737.out; subst eo56; obtain ⟨Ao57, co57, eo57⟩ := Kd.N_slice HO740.out; subst eo57) | ((with_reducible refine gate_callee (f := 49) rfl ?_); refine goesL_ (some 57) rfl rfl Try.func49 (by kernel_rfl) rfl #[.slice Ao56 t735.length co56, .slice Ao57 t738.length co57] rfl sa_ ?_; (with_reducible refine (conductorref10_Same.calls kj21 _ _ t735 _ _ t738 true _ ?side1 ?side2 ?side3 ?side4 A44.out).mono ?_); (case side1 => exact (Kd.N_reads' HO737.out).2.2); (case side2 => exact (Kd.N_reads' HO737.out).2.1); (case side3 => exact (Kd.N_reads' HO740.out).2.2); (case side4 => exact (Kd.N_reads' HO740.out).2.1); rintro e w58 ⟨rfl, hb⟩; refine ⟨_, rfl, ?_⟩; have n0_ := Aside0.mk (Kd.V_below (by exact HO_0.out) hb); have n1_ := Aside0.mk (Kd.N_below (by exact HO_11.out) hb); have n2_ := Aside0.mk (Kd.N_below (by exact HO737.out) hb); have n3_ := Aside0.mk (Kd.N_below (by exact HO740.out) hb); have n4_ := Aside0.mk (below_step bl_ hb); clear HO_0; clear HO_11; clear HO737; clear HO740; clear HB; have HO_0 := n0_; have HO_11 := n1_; have HO737 := n2_; have HO740 := n3_; have HB := n4_; clear n0_ n1_ n2_ n3_ n4_; (try clear hb); (try clear hb2); (try clear hk); (try clear hi)) | (go_at_call 44; (with_reducible refine (ssi_Fit.calls kj21 _ _ l0 a3 a4 t742 _ ?side1 ?side2 A46.out).mono ?_); (case side1 => exact (Kd.V_reads' HO_0.out).2.2); (case side2 => exact (Kd.V_reads' HO_0.out).2.1); rintro e w59 ⟨v743, rfl, ho0, hb⟩; have n0_ := Aside0.mk (Kd.V_elder' (by exact HO_0.out) (Kd.N_base ho0) hb); have n1_ := Aside0.mk (Kd.N_elder' (by exact HO_11.out) (Kd.N_base ho0) hb); have n2_ := Aside0.mk (Kd.N_elder' (by exact HO737.out) (Kd.N_base ho0) hb); have n3_ := Aside0.mk (Kd.N_elder' (by exact HO740.out) (Kd.N_base ho0) hb); have n4_ := Aside0.mk (Kd.N_lower (Kd.N_mono (ok' := fun k_ => (P0_ k_ ∨ w.heap.size ≤ k_) ∧ some k_ ≠ (v708 : Value).ownBlock ∧ some k_ ≠ (.slice Ao56 t735.length co56 : Value).ownBlock ∧ some k_ ≠ (.slice Ao57 t738.length co57 : Value).ownBlock) ho0 (fun k_ hk_ => ⟨(.inr (Nat.le_trans (below_size bl_) hk_)), (Kd.fresh' (Kd.N_lt (by exact HO_11.out)) k_ hk_), (Kd.fresh' (Kd.N_lt (by exact HO737.out)) k_ hk_), (Kd.fresh' (Kd.N_lt (by exact HO740.out)) k_ hk_)⟩)) (below_size bl_)); have n5_ := Aside0.mk (below_step bl_ hb); clear HO_0; clear HO_11; clear HO737; clear HO740; clear HB; have HO_0 := n0_; have HO_11 := n1_; have HO737 := n2_; have HO740 := n3_; have HO744 := n4_; have HB := n5_; clear n0_ n1_ n2_ n3_ n4_ n5_; (try clear hb); (try clear hb2); (try clear hk); (try clear hi); (try clear ho0)) | (go_at_call 51; (with_reducible refine (conductorref10_Fit.calls kj21 (fun k_ => (((((P0_ k_ ∨ w.heap.size ≤ k_) ∧ some k_ ≠ (v708 : Value).ownBlock) ∧ some k_ ≠ (.slice Ao56 t735.length co56 : Value).ownBlock) ∧ some k_ ≠ (.slice Ao57 t738.length co57 : Value).ownBlock) ∧ some k_ ≠ (v743 : Value).ownBlock)) _ _ l0 a3 a4 t745 _ ?side1 A47.out).mono ?_); (case side1 => exact HO_0.out); rintro e w60 ⟨v746, rfl, ho0, hb⟩; have n0_ := Aside0.mk (Kd.V_elder' (by exact HO_0.out) (Kd.N_base ho0) hb); have n1_ := Aside0.mk (Kd.N_elder' (by exact HO_11.out) (Kd.N_base ho0) hb); have n2_ := Aside0.mk (Kd.N_elder' (by exact HO737.out) (Kd.N_base ho0) hb); have n3_ := Aside0.mk (Kd.N_elder' (by exact HO740.out) (Kd.N_base ho0) hb); have n4_ := Aside0.mk (Kd.N_elder' (by exact HO744.out) (Kd.N_base ho0) hb); have n5_ := Aside0.mk (Kd.N_lower (Kd.N_mono (ok' := fun k_ => (P0_ k_ ∨ w.heap.size ≤ k_) ∧ some k_ ≠ (v708 : Value).ownBlock ∧ some k_ ≠ (.slice Ao56 t735.length co56 : Value).ownBlock ∧ some k_ ≠ (.slice Ao57 t738.length co57 : Value).ownBlock ∧ some k_ ≠ (v743 : Value).ownBlock) ho0 (fun k_ hk_ => ⟨Or.elim hk_ (fun hs_ => hs_.1.1.1.1) (fun hn_ => (.inr (Nat.le_trans (below_size bl_) hn_))), Or.elim hk_ (fun hs_ => hs_.1.1.1.2) (fun hn_ => (Kd.fresh' (Kd.N_lt (by exact HO_11.out)) k_ hn_)), Or.elim hk_ (fun hs_ => hs_.1.1.2) (fun hn_ => (Kd.fresh' (Kd.N_lt (by exact HO737.out)) k_ hn_)), Or.elim hk_ (fun hs_ => hs_.1.2) (fun hn_ => (Kd.fresh' (Kd.N_lt (by exact HO740.out)) k_ hn_)), Or.elim hk_ (fun hs_ => hs_.2) (fun hn_ => (Kd.fresh' (Kd.N_lt (by exact HO744.out)) k_ hn_))⟩)) (below_size bl_)); have n6_ := Aside0.mk (below_step bl_ hb); clear HO_0; clear HO_11; clear HO737; clear HO740; clear HO744; clear HB; have HO_0 := n0_; have HO_11 := n1_; have HO737 := n2_; have HO740 := n3_; have HO744 := n4_; have HO747 := n5_; have HB := n6_; clear n0_ n1_ n2_ n3_ n4_ n5_ n6_; (try clear hb); (try clear hb2); (try clear hk); (try clear hi); (try clear ho0); obtain ⟨Ao61, co61, eo61⟩ := Kd.N_slice HO744.out; subst eo61; obtain ⟨Ao62, co62, eo62⟩ := Kd.N_slice HO747.out; subst eo62) | (go_at_call 49; (with_reducible refine (conductorref10_Same.calls kj21 _ _ t742 _ _ t745 true _ ?side1 ?side2 ?side3 ?side4 A48.out).mono ?_); (case side1 => exact (Kd.N_reads' HO744.out).2.2); (case side2 => exact (Kd.N_reads' HO744.out).2.1); (case side3 => exact (Kd.N_reads' HO747.out).2.2); (case side4 => exact (Kd.N_reads' HO747.out).2.1); rintro e w63 ⟨rfl, hb⟩; have n0_ := Aside0.mk (Kd.V_below (by exact HO_0.out) hb); have n1_ := Aside0.mk (Kd.N_below (by exact HO_11.out) hb); have n2_ := Aside0.mk (Kd.N_below (by exact HO737.out) hb); have n3_ := Aside0.mk (Kd.N_below (by exact HO740.out) hb); have n4_ := Aside0.mk (Kd.N_below (by exact HO744.out) hb); have n5_ := Aside0.mk (Kd.N_below (by exact HO747.out) hb); have n6_ := Aside0.mk (below_step bl_ hb); clear HO_0; clear HO_11; clear HO737; clear HO740; clear HO744; clear HO747; clear HB; have HO_0 := n0_; have HO_11 := n1_; have HO737 := n2_; have HO740 := n3_; have HO744 := n4_; have HO747 := n5_; have HB := n6_; clear n0_ n1_ n2_ n3_ n4_ n5_ n6_; (try clear hb); (try clear hb2); (try clear hk); (try clear hi)) | (go_at_call 52; (with_reducible refine (ssi_Same.calls kj21 _ _ l0 _ _ l1 t749 _ ?side1 ?side2 ?side3 ?side4 A50.out).mono ?_); (case side1 => exact (Kd.V_reads' HO_0.out).2.2); (case side2 => exact (Kd.V_reads' HO_0.out).2.1); (case side3 => exact (Kd.C_below HR1.out HB.out)); (case side4 => exact HC1.out); rintro e w64 ⟨rfl, hb⟩; have n0_ := Aside0.mk (Kd.V_below (by exact HO_0.out) hb); have n1_ := Aside0.mk (Kd.N_below (by exact HO_11.out) hb); have n2_ := Aside0.mk (Kd.N_below (by exact HO737.out) hb); have n3_ := Aside0.mk (Kd.N_below (by exact HO740.out) hb); have n4_ := Aside0.mk (Kd.N_below (by exact HO744.out) hb); have n5_ := Aside0.mk (Kd.N_below (by exact HO747.out) hb); have n6_ := Aside0.mk (below_step bl_ hb); clear HO_0; clear HO_11; clear HO737; clear HO740; clear HO744; clear HO747; clear HB; have HO_0 := n0_; have HO_11 := n1_; have HO737 := n2_; have HO740 := n3_; have HO744 := n4_; have HO747 := n5_; have HB := n6_; clear n0_ n1_ n2_ n3_ n4_ n5_ n6_; (try clear hb); (try clear hb2); (try clear hk); (try clear hi)) | (go_at_call 49; (with_reducible refine (conductorref10_Same.calls kj21 _ _ l0 _ _ l1 t750 _ ?side1 ?side2 ?side3 ?side4 A51.out).mono ?_); (case side1 => exact (Kd.V_reads' HO_0.out).2.2); (case side2 => exact (Kd.V_reads' HO_0.out).2.1); (case side3 => exact (Kd.C_below HR1.out HB.out)); (case side4 => exact HC1.out); rintro e w65 ⟨rfl, hb⟩; have n0_ := Aside0.mk (Kd.V_below (by exact HO_0.out) hb); have n1_ := Aside0.mk (Kd.N_below (by exact HO_11.out) hb); have n2_ := Aside0.mk (Kd.N_below (by exact HO737.out) hb); have n3_ := Aside0.mk (Kd.N_below (by exact HO740.out) hb); have n4_ := Aside0.mk (Kd.N_below (by exact HO744.out) hb); have n5_ := Aside0.mk (Kd.N_below (by exact HO747.out) hb); have n6_ := Aside0.mk (below_step bl_ hb); clear HO_0; clear HO_11; clear HO737; clear HO740; clear HO744; clear HO747; clear HB; have HO_0 := n0_; have HO_11 := n1_; have HO737 := n2_; have HO740 := n3_; have HO744 := n4_; have HO747 := n5_; have HB := n6_; clear n0_ n1_ n2_ n3_ n4_ n5_ n6_; (try clear hb); (try clear hb2); (try clear hk); (try clear hi); obtain ⟨Ao66, co66, eo66⟩ := Kd.N_slice HO_11.out; subst eo66) | (go_at_call 49; (with_reducible refine (conductorref10_Same.calls kj21 _ _ l0 _ _ y707 t751 _ ?side1 ?side2 ?side3 ?side4 A53.out).mono ?_); (case side1 => exact (Kd.V_reads' HO_0.out).2.2); (case side2 => exact (Kd.V_reads' HO_0.out).2.1); (case side3 => exact (Kd.N_reads' HO_11.out).2.2); (case side4 => exact (Kd.N_reads' HO_11.out).2.1); rintro e w67 ⟨rfl, hb⟩; have n0_ := Aside0.mk (Kd.V_below (by exact HO_0.out) hb); have n1_ := Aside0.mk (Kd.N_below (by exact HO_11.out) hb); have n2_ := Aside0.mk (Kd.N_below (by exact HO737.out) hb); have n3_ := Aside0.mk (Kd.N_below (by exact HO740.out) hb); have n4_ := Aside0.mk (Kd.N_below (by exact HO744.out) hb); have n5_ := Aside0.mk (Kd.N_below (by exact HO747.out) hb); have n6_ := Aside0.mk (below_step bl_ hb); clear HO_0; clear HO_11; clear HO737; clear HO740; clear HO744; clear HO747; clear HB; have HO_0 := n0_; have HO_11 := n1_; have HO737 := n2_; have HO740 := n3_; have HO744 := n4_; have HO747 := n5_; have HB := n6_; clear n0_ n1_ n2_ n3_ n4_ n5_ n6_; (try clear hb); (try clear hb2); (try clear hk); (try clear hi)))
           go_ret
           exact ⟨by first | rfl | (simp [errW_none, errW_some] <;> rfl) | (simp [*, errW_none, errW_some] <;> rfl), bl_⟩
          ·rw [if_neg c52] at H
           have c52b0 : (t749 == t750) = false := by simpa using c52
           (try (have c52b1 : decide (t749 = t750) = false := by simpa using c52))
           (try (have c52b2 : (t749 == t750) = false := by simpa using c52))
           (try (have c52b3 : ¬ (t749 = t750) := by simpa using c52))
           clear c52
           exact absurd ((Option.some.inj H).trans hT.out) (by decide)
         ·replace c49 := Bool.eq_false_iff.mpr c49
          subst c49
          have H1 : (some false) = some r := by rw [if_neg (show ¬ (false = true) by decide)] at H; exact H
          exact absurd ((Option.some.inj H1).trans hT.out) (by decide)
        ·replace c45 := Bool.eq_false_iff.mpr c45
         subst c45
         have H1 : (some false) = some r := by rw [if_neg (show ¬ (false = true) by decide)] at H; exact H
         exact absurd ((Option.some.inj H1).trans hT.out) (by decide)
    ·rw [if_neg c21] at H
     exact absurd H (by simp)
end Go.Proofs.Ytjefihcbhdennaa.S
namespace Go.Proofs.YtjefihcbhdennaaW.PrintWords
open Go.RowKit Go.ChangeShapes Go.WideShapes
namespace Kd
/-- What reads as data at type T reads as kind d, and is well formed. -/
def Opens {α : Type} (P : Program) (T : TypeId) (d : Kd α) (wf : α → Prop) : Prop :=
  ∀ {H : Type} (enc : TypeId × Value → H) (w : World) (fuel : Nat) (cs : List Value) (x : DataW H × List MemPlace),
    DataW.trod enc P w 0 (fun _ => true) true fuel T cs = some x → ∃ a : α, d.K w a cs ∧ wf a
theorem opens_int {P : Program} {T : TypeId} {k : IntKind} (hT : P.underlying T = some (.int k)) : Opens P T (Kd.int k) (fun n => (Lit.int k n).wf = true) := by
  intro H enc w fuel cs x h
  obtain ⟨n, h1, _, h2⟩ := DataW.trod_int hT h
  exact ⟨n, h1, h2⟩
theorem opens_string {P : Program} {T : TypeId} (hT : P.underlying T = some .string) : Opens P T Kd.string (fun s => s.size ≤ 9223372036854775807) := by
  intro H enc w fuel cs x h
  obtain ⟨s, h1, _, h2⟩ := DataW.trod_string hT h
  exact ⟨s, h1, by simpa [maxLen] using h2⟩
theorem list_of_lt {α : Type} {Q : Nat → α → Prop} : ∀ n : Nat, (∀ i, i < n → ∃ x, Q i x) → ∃ xs : List α, xs.length = n ∧ ∀ i x, xs[i]? = some x → Q i x
  | 0, _ => ⟨[], rfl, fun i x h => by simp at h⟩
  | n + 1, h => by
    obtain ⟨xs, hl, hq⟩ := list_of_lt n (fun i hi => h i (by omega))
    obtain ⟨y, hy⟩ := h n (by omega)
    refine ⟨xs ++ [y], by simp [hl], fun i x hx => ?_⟩
    rcases Nat.lt_or_ge i n with hlt | hge
    · rw [List.getElem?_append_left (by omega)] at hx
      exact hq i x hx
    · rw [List.getElem?_append_right (by omega)] at hx
      have hi : i - xs.length = 0 := by
        have := (List.getElem?_eq_some_iff.1 hx).1
        simp at this
        omega
      rw [hi] at hx
      simp at hx
      subst hx
      obtain rfl : i = n := by omega
      exact hy
theorem opens_slice {α : Type} {P : Program} {T e : TypeId} {d : Kd α} {wf : α → Prop} (hT : P.underlying T = some (.slice e)) (hc : P.cellsOf e = d.sz) (ho : Opens P e d wf) :
    Opens P T (Kd.slice e d) (fun xs => ∀ x ∈ xs, wf x) := by
  intro H enc w fuel cs x h
  rcases Deep.open_slice hT h with ⟨rfl, _⟩ | ⟨a, len, cap, m, n, D, Pl, rfl, hb, hl, hm, hmm, rfl, hx⟩
  · exact ⟨[], ⟨none, 0, rfl, Nat.le_refl _, C_nil d w⟩, by simp⟩
  · simp only [if_true] at hmm
    subst hmm
    obtain ⟨xs, hlen, hq⟩ := list_of_lt (α := α) (Q := fun i p => ∃ cs', w.cells? 0 (a.add (i * P.cellsOf e)) (P.cellsOf e) = some cs' ∧ d.K w p cs' ∧ wf p) len (fun i hi => by
      obtain ⟨cs', h1, h2⟩ := hx i (by omega)
      obtain ⟨p, hp, hwf⟩ := ho enc w n cs' _ h2
      exact ⟨p, cs', h1, hp, hwf⟩)
    subst hlen
    refine ⟨xs, ⟨some a, m, rfl, hl, rfl, by simp [maxLen] at hm; omega, fun _ => ⟨a, rfl, fun j p hj => ?_⟩⟩, fun p hp => ?_⟩
    · obtain ⟨cs', h1, h2, _⟩ := hq j p hj
      obtain ⟨_, h3, h4⟩ := World.cells?_some h1
      rw [hc] at h3 h4
      refine ⟨cs', h3, h2, fun i u hi => ?_⟩
      have hi2 : i < d.sz := by rw [← h3]; exact (List.getElem?_eq_some_iff.1 hi).1
      rw [← Deep.add_add, h4 i hi2, hi]
    · obtain ⟨i, hi, rfl⟩ := List.getElem_of_mem hp
      obtain ⟨_, _, _, h4⟩ := hq i _ (List.getElem?_eq_getElem hi)
      exact h4
/-- The fields from one on, at an offset. -/
def OpensF {α : Type} (P : Program) (fs : List Field) (off : Nat) (d : Kd α) (wf : α → Prop) : Prop :=
  ∀ {H : Type} (enc : TypeId × Value → H) (w : World) (n : Nat) (cs : List Value), (∀ (i : Nat) (f : Field), fs[i]? = some f → ∃ x, DataW.trod enc P w 0 (fun _ => true) true n f.type ((cs.drop f.offset).take (P.cellsOf f.type)) = some x) →
    cs.length = off + d.sz → ∃ a : α, d.K w a (cs.drop off) ∧ wf a
theorem opensF_one {α : Type} {P : Program} {f : Field} {off : Nat} {d : Kd α} {wf : α → Prop} (hoff : f.offset = off) (hc : P.cellsOf f.type = d.sz) (ho : Opens P f.type d wf) : OpensF P [f] off d wf := by
  intro H enc w n cs h hl
  obtain ⟨x, hx⟩ := h 0 f rfl
  rw [hoff, hc, List.take_of_length_le (by rw [List.length_drop]; omega)] at hx
  exact ho enc w n _ _ hx
theorem opensF_cons {α β : Type} {P : Program} {f : Field} {fs : List Field} {off : Nat} {d : Kd α} {d' : Kd β} {wf : α → Prop} {wf' : β → Prop} (hoff : f.offset = off) (hc : P.cellsOf f.type = d.sz) (ho : Opens P f.type d wf) (hs : OpensF P fs (off + d.sz) d' wf') :
    OpensF P (f :: fs) off (Kd.pair d d') (fun p => wf p.1 ∧ wf' p.2) := by
  intro H enc w n cs h hl
  obtain ⟨x, hx⟩ := h 0 f rfl
  rw [hoff, hc] at hx
  obtain ⟨a, ha, hwa⟩ := ho enc w n _ _ hx
  obtain ⟨b, hb, hwb⟩ := hs enc w n cs (fun i g hg => h (i + 1) g hg) (by rw [hl]; show off + (d.sz + d'.sz) = _; omega)
  refine ⟨(a, b), ⟨_, _, ?_, ha, hb⟩, hwa, hwb⟩
  rw [← List.drop_drop, List.take_append_drop]
theorem opens_struct {α β : Type} {P : Program} {T : TypeId} {fs : Array Field} {d : Kd α} {wf : α → Prop} (f : β → α) (g : α → β) (hfg : ∀ a, f (g a) = a) (hT : P.underlying T = some (.struct fs)) (hc : P.cellsOf T = d.sz) (hs : OpensF P fs.toList 0 d wf) :
    Opens P T (Kd.iso d f) (fun b => wf (f b)) := by
  intro H enc w fuel cs x h
  obtain ⟨xs, n, _, _, hl, hxl, hx⟩ := DataW.trod_struct hT h
  obtain ⟨a, ha, hwa⟩ := hs enc w n cs (fun i f hf => by
    have hi : i < fs.size := by have := (List.getElem?_eq_some_iff.1 hf).1; simpa using this
    refine ⟨_, (hx i f (by simpa using hf)).trans (List.getElem?_eq_getElem (by omega))⟩) (by rw [hl, hc, Nat.zero_add])
  refine ⟨g a, ?_, ?_⟩
  · show d.K w (f (g a)) cs
    rw [hfg]
    exact ha
  · show wf (f (g a))
    rw [hfg]
    exact hwa
/-- An argument that is a slice. -/
theorem arg_slice {α : Type} {P : Program} {T e : TypeId} {d : Kd α} {wf : List α → Prop} (ho : Opens P T (Kd.slice e d) wf) {H : Type} {enc : TypeId × Value → H} {W : World} {v : Value} {x : DataW H} {p : List MemPlace}
    {r : Reach} {base : Nat} (hT : P.underlying T = some (.slice e)) (hv : Value.okWide P W r base T v) (h : DataW.Trod enc P W 0 (fun _ => true) true T v x p) :
    ∃ A c xs, v = .slice A xs.length c ∧ xs.length ≤ c ∧ d.C W A xs.length xs ∧ wf xs := by
  obtain ⟨a, len, cap, rfl⟩ := okWide_slice hT hv
  obtain ⟨fuel, hf⟩ := h
  obtain ⟨xs, ⟨A, c, hcs, hl, hC⟩, hwf⟩ := ho enc W fuel _ _ hf
  simp only [Value.cells, List.cons.injEq, and_true] at hcs
  exact ⟨A, c, xs, hcs, hl, hC, hwf⟩
end Kd
end Go.Proofs.YtjefihcbhdennaaW.PrintWords
namespace Go.Proofs.Ytjefihcbhdennaa.S
open Go.RowKit Go.Proofs.YtjefihcbhdennaaW.PrintWords
theorem wf_u64 {n : Int} (h : (Lit.int .u64 n).wf = true) : 0 ≤ n ∧ n ≤ 18446744073709551615 := by
  simp [Lit.wf] at h
  first | exact h | (have := h.1; have := h.2; exact ⟨by omega, by omega⟩) | (unfold IntKind.min IntKind.max at h; simp at h; omega)
theorem wf_i64 {n : Int} (h : (Lit.int .i64 n).wf = true) : -9223372036854775808 ≤ n ∧ n ≤ 9223372036854775807 := by
  simp [Lit.wf] at h
  first | exact h | (have := h.1; have := h.2; exact ⟨by omega, by omega⟩)
theorem opens_imp {α : Type} {P : Program} {T : TypeId} {d : Kd α} {wf wf' : α → Prop} (h : Kd.Opens P T d wf) (hi : ∀ w a cs, d.K w a cs → wf a → wf' a) : Kd.Opens P T d wf' := by
  intro H enc w fuel cs x hx
  obtain ⟨a, h1, h2⟩ := h enc w fuel cs x hx
  exact ⟨a, h1, hi w a cs h1 h2⟩
def W41 (x : S41) : Prop := x.f0.size ≤ 9223372036854775807 ∧ x.f1.size ≤ 9223372036854775807
def WL41 (l : List S41) : Prop := l.length ≤ 9223372036854775807 ∧ ∀ x ∈ l, W41 x
def W26 (x : S26) : Prop := (Lit.int .u64 x.f0).wf = true ∧ (Lit.int .u64 x.f1).wf = true ∧ (Lit.int .u64 x.f2).wf = true ∧ (Lit.int .u64 x.f3).wf = true ∧ WL41 x.f4 ∧ WL41 x.f5
theorem opens41 : Kd.Opens Try.prog 41 k41 W41 := Kd.opens_struct (fun x : S41 => (x.f0, x.f1)) (fun p => ⟨p.1, p.2⟩) (fun _ => rfl) Try.underlying41 (by kernel_rfl)
    (Kd.opensF_cons rfl (by kernel_rfl) (Kd.opens_string Try.underlying9) (Kd.opensF_one rfl (by kernel_rfl) (Kd.opens_string Try.underlying9)))
theorem opens24 : Kd.Opens Try.prog 24 (Kd.slice 41 k41) WL41 := opens_imp (Kd.opens_slice Try.underlying24 (by kernel_rfl) opens41) (fun w a cs h k => by
  obtain ⟨A, c, _, _, g⟩ := h
  exact ⟨g.2.1, k⟩)
theorem opens26 : Kd.Opens Try.prog 26 k26 W26 :=
  Kd.opens_struct (fun x : S26 => (x.f0, x.f1, x.f2, x.f3, x.f4, x.f5)) (fun p => ⟨p.1, p.2.1, p.2.2.1, p.2.2.2.1, p.2.2.2.2.1, p.2.2.2.2.2⟩) (fun _ => rfl) Try.underlying26 (by kernel_rfl)
    (Kd.opensF_cons rfl (by kernel_rfl) (Kd.opens_int Try.underlying23) (Kd.opensF_cons rfl (by kernel_rfl) (Kd.opens_int Try.underlying23) (Kd.opensF_cons rfl (by kernel_rfl) (Kd.opens_int Try.underlying23) (Kd.opensF_cons rfl (by kernel_rfl) (Kd.opens_int Try.underlying23) (Kd.opensF_cons rfl (by kernel_rfl) opens24 (Kd.opensF_one rfl (by kernel_rfl) opens24))))))
theorem opens22 : Kd.Opens Try.prog 22 (Kd.slice 26 k26) (fun xs => ∀ x ∈ xs, W26 x) := Kd.opens_slice Try.underlying22 (by kernel_rfl) opens26
theorem k41_heap : Kd.Heap k41 := Kd.heap_iso _ (Kd.heap_pair Kd.heap_string Kd.heap_string)
theorem k26_heap : Kd.Heap k26 := Kd.heap_iso _ (Kd.heap_pair (Kd.heap_int .u64) (Kd.heap_pair (Kd.heap_int .u64) (Kd.heap_pair (Kd.heap_int .u64) (Kd.heap_pair (Kd.heap_int .u64) (Kd.heap_pair (Kd.heap_slice 41 k41_heap) (Kd.heap_slice 41 k41_heap))))))
end Go.Proofs.Ytjefihcbhdennaa.S
namespace Go.Proofs.Ytjefihcbhdennaa.Pure
open Go.RowKit Go.Proofs.YtjefihcbhdennaaW.PrintWords Go.Proofs.Ytjefihcbhdennaa.S
theorem w1 {i n : Nat} (h : i < n) (hn : n ≤ 9223372036854775807) : wrap64 ((i : Int) + 1) = ((i + 1 : Nat) : Int) := by unfold wrap64; omega
theorem rd41 (l : List S41) (i : Nat) (h : i < l.length) : rd_T41 l (i : Int) = l[i] := by
  simp [rd_T41, List.getD_eq_getElem?_getD, h]
theorem rd26 (l : List S26) (i : Nat) (h : i < l.length) : rd_T26 l (i : Int) = l[i] := by
  simp [rd_T26, List.getD_eq_getElem?_getD, h]
theorem bl (a b : ByteArray) : Op.bytesLess a.toList b.toList = decide (a.toList < b.toList) := Proofs.bytesLess_eq _ _
theorem lt_tri (a b : List UInt8) : a < b ∨ a = b ∨ b < a := by
  by_cases h1 : a < b
  · exact .inl h1
  · by_cases h : b < a
    · exact .inr (.inr h)
    · exact .inr (.inl (List.le_antisymm (List.not_lt.1 h) (List.not_lt.1 h1)))
theorem maxS_toList (x y : ByteArray) : (Lib.maxS x y).toList = if x.toList < y.toList then y.toList else x.toList := by
  unfold Lib.maxS
  rw [Lib.toList_data, Lib.toList_data, Lib.toList_data]
  by_cases h : x.data.toList < y.data.toList <;> simp [h]
theorem ltt {a b c : List UInt8} (h : a < b) (k : b < c) : a < c := List.lt_trans h k
theorem lti (a : List UInt8) : ¬ a < a := List.lt_irrefl a
def FewB (l : List S41) : Bool := decide ((l.length : Int) ≤ 40) && l.all fun s => decide (s.f0.size ≤ 300) && decide (s.f1.size ≤ 300)
theorem Few_ev (l : List S41) (hl : l.length ≤ 9223372036854775807) : Ev (fun k => conductorlaw09_Few.f k l) (FewB l) := by
  have key : ∀ d i : Nat, i + d = l.length → Ev (fun k => conductorlaw09_Few.l0 k l l (l.length : Int) (i : Int)) (decide ((l.length : Int) ≤ 40) && (l.drop i).all fun s => decide (s.f0.size ≤ 300) && decide (s.f1.size ≤ 300)) := by
    intro d
    induction d with
    | zero =>
      intro i hd
      refine Ev.step (f := fun _ => some (decide ((l.length : Int) ≤ 40))) (fun k => ?_) ?_
      · simp only [conductorlaw09_Few.l0]
        rw [if_neg (by omega)]
      · rw [List.drop_eq_nil_of_le (by omega)]; simpa using Ev.now _
    | succ d ih =>
      intro i hd
      have hi : i < l.length := by omega
      rw [List.drop_eq_getElem_cons hi, List.all_cons]
      by_cases h1 : (l[i].f0.size : Int) > 300
      · refine Ev.step (f := fun _ => some false) (fun k => ?_) ?_
        · simp only [conductorlaw09_Few.l0]
          rw [if_pos (by omega), if_pos (by omega), if_pos (by omega), rd41 _ i hi, if_pos h1]
        · have : ¬ l[i].f0.size ≤ 300 := by omega
          simpa [this] using Ev.now false
      · by_cases h2 : (l[i].f1.size : Int) > 300
        · refine Ev.step (f := fun _ => some false) (fun k => ?_) ?_
          · simp only [conductorlaw09_Few.l0]
            rw [if_pos (by omega), if_pos (by omega), if_pos (by omega), rd41 _ i hi, if_neg h1, if_pos h2]
          · have : ¬ l[i].f1.size ≤ 300 := by omega
            simpa [this] using Ev.now false
        · have h1' : l[i].f0.size ≤ 300 := by omega
          have h2' : l[i].f1.size ≤ 300 := by omega
          have := ih (i + 1) (by omega)
          refine Ev.step (fun k => ?_) (by simpa [h1', h2'] using this)
          simp only [conductorlaw09_Few.l0]
          rw [if_pos (by omega), if_pos (by omega), if_pos (by omega), rd41 _ i hi, if_neg h1, if_neg h2, w1 hi hl]; rfl
  exact key l.length 0 (by omega)
end Go.Proofs.Ytjefihcbhdennaa.Pure
