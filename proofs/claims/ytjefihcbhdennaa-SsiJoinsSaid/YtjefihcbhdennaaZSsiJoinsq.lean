/- Texts of this session, merged for the law SsiJoins: S41, S42. No condition. -/
import Derived.Test.YtjefihcbhdennaaZSsiJoinsd
import Derived.Test.YtjefihcbhdennaaZSsiJoinsp
namespace Go.Proofs.Ytjefihcbhdennaa.S
open Go.RowKit Go.Proofs.YtjefihcbhdennaaW.PrintWords Go.Proofs.YtjefihcbhdennaaW.PrintLast Go.Proofs.YtjefihcbhdennaaW.PrintMore
attribute [local go_sem] max2_int min2_int max2_str min2_str str_leq str_gtr str_geq max_two min_two max_three min_three max_four min_four
set_option linter.unusedVariables false
set_option linter.unusedSimpArgs false
mutual
def ssi_Judge.l0 : Nat → List (S26) → Int → Bool → List (S26) → Int → Int → Int → Int → Int → Int → List (S41) → List (S41) → Option (Int × Int)
 | 0, _, _, _, _, _, _, _, _, _, _, _, _ => none
 | k + 1, x0, x7, x8, x17, x18, x19, x454000, x454001, x454002, x454003, x454004, x454005 => if x19 < x18 then (if 0 ≤ x19 then (if x19 < (x17.length : Int) then ((ssi_Judge_1.f ((rd_T26 x17 x19).f0) ((rd_T26 x17 x19).f1) ((rd_T26 x17 x19).f2) ((rd_T26 x17 x19).f3) ((rd_T26 x17 x19).f4) ((rd_T26 x17 x19).f5) x454002).bind fun t456 => (if t456 = true then ((span_Meet.f ((rd_T26 x17 x19).f4) x454005).bind fun t457 => (if t457 = true then ((ssi_last.f ((rd_T26 x17 x19).f0) ((rd_T26 x17 x19).f1) ((rd_T26 x17 x19).f2) ((rd_T26 x17 x19).f3) ((rd_T26 x17 x19).f4) ((rd_T26 x17 x19).f5)).bind fun t458 => (ssi_Judge.l0 k x0 (mx x7 t458) true x17 x18 (wrap64 (x19 + 1)) x454000 x454001 x454002 x454003 x454004 x454005)) else (ssi_Judge.l0 k x0 x7 x8 x17 x18 (wrap64 (x19 + 1)) x454000 x454001 x454002 x454003 x454004 x454005))) else (ssi_Judge.l0 k x0 x7 x8 x17 x18 (wrap64 (x19 + 1)) x454000 x454001 x454002 x454003 x454004 x454005))) else (none)) else (none)) else (ssi_Judge.l1 k x7 x8 0 false false x0 (x0.length : Int) 0 x454000 x454001 x454002 x454003 x454004 x454005)
def ssi_Judge.l1 : Nat → Int → Bool → Int → Bool → Bool → List (S26) → Int → Int → Int → Int → Int → Int → List (S41) → List (S41) → Option (Int × Int)
 | 0, _, _, _, _, _, _, _, _, _, _, _, _, _, _ => none
 | k + 1, x7, x8, x11, x12, x13, x38, x39, x40, x454000, x454001, x454002, x454003, x454004, x454005 => if x40 < x39 then (if 0 ≤ x40 then (if x40 < (x38.length : Int) then ((ssi_Judge_1.f ((rd_T26 x38 x40).f0) ((rd_T26 x38 x40).f1) ((rd_T26 x38 x40).f2) ((rd_T26 x38 x40).f3) ((rd_T26 x38 x40).f4) ((rd_T26 x38 x40).f5) x454002).bind fun t461 => (if t461 = true then ((span_Meet.f x454004 ((rd_T26 x38 x40).f5)).bind fun t462 => (ssi_Judge.j2 k x7 x8 x11 x12 x13 x38 x39 x40 (!t462) x454000 x454001 x454002 x454003 x454004 x454005 ((rd_T26 x38 x40).f0) ((rd_T26 x38 x40).f1) ((rd_T26 x38 x40).f2) ((rd_T26 x38 x40).f3) ((rd_T26 x38 x40).f4) ((rd_T26 x38 x40).f5))) else (ssi_Judge.j2 k x7 x8 x11 x12 x13 x38 x39 x40 true x454000 x454001 x454002 x454003 x454004 x454005 ((rd_T26 x38 x40).f0) ((rd_T26 x38 x40).f1) ((rd_T26 x38 x40).f2) ((rd_T26 x38 x40).f3) ((rd_T26 x38 x40).f4) ((rd_T26 x38 x40).f5)))) else (none)) else (none)) else (if x13 = true then (some (0, 101)) else (some (x11, 0)))
def ssi_Judge.j2 : Nat → Int → Bool → Int → Bool → Bool → List (S26) → Int → Int → Bool → Int → Int → Int → Int → List (S41) → List (S41) → Int → Int → Int → Int → List (S41) → List (S41) → Option (Int × Int)
 | 0, _, _, _, _, _, _, _, _, _, _, _, _, _, _, _, _, _, _, _, _, _ => none
 | k + 1, x7, x8, x11, x12, x13, x38, x39, x40, x55, x454000, x454001, x454002, x454003, x454004, x454005, x461000, x461001, x461002, x461003, x461004, x461005 => if x55 = true then (ssi_Judge.l1 k x7 x8 x11 x12 x13 x38 x39 (wrap64 (x40 + 1)) x454000 x454001 x454002 x454003 x454004 x454005) else (if x461003 = 0 then (ssi_Judge.j3 k x7 x8 x11 x12 x13 x38 x39 x40 false x454000 x454001 x454002 x454003 x454004 x454005 x461000 x461001 x461002 x461003 x461004 x461005) else (ssi_Judge.j3 k x7 x8 x11 x12 x13 x38 x39 x40 (decide ((x454005.length : Int) > 0)) x454000 x454001 x454002 x454003 x454004 x454005 x461000 x461001 x461002 x461003 x461004 x461005))
def ssi_Judge.j3 : Nat → Int → Bool → Int → Bool → Bool → List (S26) → Int → Int → Bool → Int → Int → Int → Int → List (S41) → List (S41) → Int → Int → Int → Int → List (S41) → List (S41) → Option (Int × Int)
 | 0, _, _, _, _, _, _, _, _, _, _, _, _, _, _, _, _, _, _, _, _, _ => none
 | k + 1, x7, x8, x11, x12, x13, x38, x39, x40, x56, x454000, x454001, x454002, x454003, x454004, x454005, x461000, x461001, x461002, x461003, x461004, x461005 => if x56 = true then (some (0, 101)) else (if x461003 = 0 then (ssi_Judge.j4 k x7 x8 x11 x12 x13 x38 x39 x40 false x454000 x454001 x454002 x454003 x454004 x454005 x461000 x461001 x461002 x461003 x461004 x461005) else (ssi_Judge.j4 k x7 x8 x11 x12 x13 x38 x39 x40 (decide (x461003 ≤ x454002)) x454000 x454001 x454002 x454003 x454004 x454005 x461000 x461001 x461002 x461003 x461004 x461005))
def ssi_Judge.j4 : Nat → Int → Bool → Int → Bool → Bool → List (S26) → Int → Int → Bool → Int → Int → Int → Int → List (S41) → List (S41) → Int → Int → Int → Int → List (S41) → List (S41) → Option (Int × Int)
 | 0, _, _, _, _, _, _, _, _, _, _, _, _, _, _, _, _, _, _, _, _, _ => none
 | k + 1, x7, x8, x11, x12, x13, x38, x39, x40, x66, x454000, x454001, x454002, x454003, x454004, x454005, x461000, x461001, x461002, x461003, x461004, x461005 => if x66 = true then (some (0, 101)) else (if x8 = true then (ssi_Judge.j5 k x7 x8 x11 x12 x13 x38 x39 x40 (decide (x461000 ≤ x7)) x454000 x454001 x454002 x454003 x454004 x454005 x461000 x461001 x461002 x461003 x461004 x461005) else (ssi_Judge.j5 k x7 x8 x11 x12 x13 x38 x39 x40 false x454000 x454001 x454002 x454003 x454004 x454005 x461000 x461001 x461002 x461003 x461004 x461005))
def ssi_Judge.j5 : Nat → Int → Bool → Int → Bool → Bool → List (S26) → Int → Int → Bool → Int → Int → Int → Int → List (S41) → List (S41) → Int → Int → Int → Int → List (S41) → List (S41) → Option (Int × Int)
 | 0, _, _, _, _, _, _, _, _, _, _, _, _, _, _, _, _, _, _, _, _, _ => none
 | k + 1, x7, x8, x11, x12, x13, x38, x39, x40, x77, x454000, x454001, x454002, x454003, x454004, x454005, x461000, x461001, x461002, x461003, x461004, x461005 => if x77 = true then (some (0, 101)) else (if x12 = true then (if x461000 < x11 then (ssi_Judge.l1 k x7 x8 x461000 true x13 x38 x39 (wrap64 (x40 + 1)) x454000 x454001 x454002 x454003 x454004 x454005) else (ssi_Judge.l1 k x7 x8 x11 x12 x13 x38 x39 (wrap64 (x40 + 1)) x454000 x454001 x454002 x454003 x454004 x454005)) else (ssi_Judge.l1 k x7 x8 x461000 true x13 x38 x39 (wrap64 (x40 + 1)) x454000 x454001 x454002 x454003 x454004 x454005))
end
def ssi_Judge.f (k : Nat) (l0 : List (S26)) (a1_0 : Int) (a1_1 : Int) (a1_2 : Int) (a1_3 : Int) (l1_4 : List (S41)) (l1_5 : List (S41)) : Option (Int × Int) := ssi_Judge.l0 k l0 0 false l0 (l0.length : Int) 0 a1_0 a1_1 a1_2 a1_3 l1_4 l1_5
theorem ssi_Judge.mono_l : ∀ k, (∀ y0 y1 y2 y3 y4 y5 y6 y7 y8 y9 y10 y11, LeO (ssi_Judge.l0 k y0 y1 y2 y3 y4 y5 y6 y7 y8 y9 y10 y11) (ssi_Judge.l0 (k + 1) y0 y1 y2 y3 y4 y5 y6 y7 y8 y9 y10 y11)) ∧ (∀ y0 y1 y2 y3 y4 y5 y6 y7 y8 y9 y10 y11 y12 y13, LeO (ssi_Judge.l1 k y0 y1 y2 y3 y4 y5 y6 y7 y8 y9 y10 y11 y12 y13) (ssi_Judge.l1 (k + 1) y0 y1 y2 y3 y4 y5 y6 y7 y8 y9 y10 y11 y12 y13)) ∧ (∀ y0 y1 y2 y3 y4 y5 y6 y7 y8 y9 y10 y11 y12 y13 y14 y15 y16 y17 y18 y19 y20, LeO (ssi_Judge.j2 k y0 y1 y2 y3 y4 y5 y6 y7 y8 y9 y10 y11 y12 y13 y14 y15 y16 y17 y18 y19 y20) (ssi_Judge.j2 (k + 1) y0 y1 y2 y3 y4 y5 y6 y7 y8 y9 y10 y11 y12 y13 y14 y15 y16 y17 y18 y19 y20)) ∧ (∀ y0 y1 y2 y3 y4 y5 y6 y7 y8 y9 y10 y11 y12 y13 y14 y15 y16 y17 y18 y19 y20, LeO (ssi_Judge.j3 k y0 y1 y2 y3 y4 y5 y6 y7 y8 y9 y10 y11 y12 y13 y14 y15 y16 y17 y18 y19 y20) (ssi_Judge.j3 (k + 1) y0 y1 y2 y3 y4 y5 y6 y7 y8 y9 y10 y11 y12 y13 y14 y15 y16 y17 y18 y19 y20)) ∧ (∀ y0 y1 y2 y3 y4 y5 y6 y7 y8 y9 y10 y11 y12 y13 y14 y15 y16 y17 y18 y19 y20, LeO (ssi_Judge.j4 k y0 y1 y2 y3 y4 y5 y6 y7 y8 y9 y10 y11 y12 y13 y14 y15 y16 y17 y18 y19 y20) (ssi_Judge.j4 (k + 1) y0 y1 y2 y3 y4 y5 y6 y7 y8 y9 y10 y11 y12 y13 y14 y15 y16 y17 y18 y19 y20)) ∧ (∀ y0 y1 y2 y3 y4 y5 y6 y7 y8 y9 y10 y11 y12 y13 y14 y15 y16 y17 y18 y19 y20, LeO (ssi_Judge.j5 k y0 y1 y2 y3 y4 y5 y6 y7 y8 y9 y10 y11 y12 y13 y14 y15 y16 y17 y18 y19 y20) (ssi_Judge.j5 (k + 1) y0 y1 y2 y3 y4 y5 y6 y7 y8 y9 y10 y11 y12 y13 y14 y15 y16 y17 y18 y19 y20))
 | 0 => ⟨fun _ _ _ _ _ _ _ _ _ _ _ _ r h => by simp [ssi_Judge.l0] at h, fun _ _ _ _ _ _ _ _ _ _ _ _ _ _ r h => by simp [ssi_Judge.l1] at h, fun _ _ _ _ _ _ _ _ _ _ _ _ _ _ _ _ _ _ _ _ _ r h => by simp [ssi_Judge.j2] at h, fun _ _ _ _ _ _ _ _ _ _ _ _ _ _ _ _ _ _ _ _ _ r h => by simp [ssi_Judge.j3] at h, fun _ _ _ _ _ _ _ _ _ _ _ _ _ _ _ _ _ _ _ _ _ r h => by simp [ssi_Judge.j4] at h, fun _ _ _ _ _ _ _ _ _ _ _ _ _ _ _ _ _ _ _ _ _ r h => by simp [ssi_Judge.j5] at h⟩
 | k + 1 => by
  obtain ⟨ih0, ih1, ih2, ih3, ih4, ih5⟩ := ssi_Judge.mono_l k
  refine ⟨?_, ?_, ?_, ?_, ?_, ?_⟩
  ·intro y0 y1 y2 y3 y4 y5 y6 y7 y8 y9 y10 y11
   unfold ssi_Judge.l0
   repeat' first
   | (with_reducible exact ih0 _ _ _ _ _ _ _ _ _ _ _ _)
   | (with_reducible exact ih1 _ _ _ _ _ _ _ _ _ _ _ _ _ _)
   | (with_reducible exact ih2 _ _ _ _ _ _ _ _ _ _ _ _ _ _ _ _ _ _ _ _ _)
   | (with_reducible exact ih3 _ _ _ _ _ _ _ _ _ _ _ _ _ _ _ _ _ _ _ _ _)
   | (with_reducible exact ih4 _ _ _ _ _ _ _ _ _ _ _ _ _ _ _ _ _ _ _ _ _)
   | (with_reducible exact ih5 _ _ _ _ _ _ _ _ _ _ _ _ _ _ _ _ _ _ _ _ _)
   | (with_reducible exact LeO.refl _)
   | (with_reducible exact LeO.none _)
   | (with_reducible refine LeO.ite ?_ ?_)
   | (with_reducible refine LeO.bind ?_ (fun _ => ?_))
   | exact ih0 _ _ _ _ _ _ _ _ _ _ _ _
   | exact ih1 _ _ _ _ _ _ _ _ _ _ _ _ _ _
   | exact ih2 _ _ _ _ _ _ _ _ _ _ _ _ _ _ _ _ _ _ _ _ _
   | exact ih3 _ _ _ _ _ _ _ _ _ _ _ _ _ _ _ _ _ _ _ _ _
   | exact ih4 _ _ _ _ _ _ _ _ _ _ _ _ _ _ _ _ _ _ _ _ _
   | exact ih5 _ _ _ _ _ _ _ _ _ _ _ _ _ _ _ _ _ _ _ _ _
   | exact LeO.none _
   | refine LeO.ite ?_ ?_
   | refine LeO.bind ?_ (fun _ => ?_)
  ·intro y0 y1 y2 y3 y4 y5 y6 y7 y8 y9 y10 y11 y12 y13
   unfold ssi_Judge.l1
   repeat' first
   | (with_reducible exact ih0 _ _ _ _ _ _ _ _ _ _ _ _)
   | (with_reducible exact ih1 _ _ _ _ _ _ _ _ _ _ _ _ _ _)
   | (with_reducible exact ih2 _ _ _ _ _ _ _ _ _ _ _ _ _ _ _ _ _ _ _ _ _)
   | (with_reducible exact ih3 _ _ _ _ _ _ _ _ _ _ _ _ _ _ _ _ _ _ _ _ _)
   | (with_reducible exact ih4 _ _ _ _ _ _ _ _ _ _ _ _ _ _ _ _ _ _ _ _ _)
   | (with_reducible exact ih5 _ _ _ _ _ _ _ _ _ _ _ _ _ _ _ _ _ _ _ _ _)
   | (with_reducible exact LeO.refl _)
   | (with_reducible exact LeO.none _)
   | (with_reducible refine LeO.ite ?_ ?_)
   | (with_reducible refine LeO.bind ?_ (fun _ => ?_))
   | exact ih0 _ _ _ _ _ _ _ _ _ _ _ _
   | exact ih1 _ _ _ _ _ _ _ _ _ _ _ _ _ _
   | exact ih2 _ _ _ _ _ _ _ _ _ _ _ _ _ _ _ _ _ _ _ _ _
   | exact ih3 _ _ _ _ _ _ _ _ _ _ _ _ _ _ _ _ _ _ _ _ _
   | exact ih4 _ _ _ _ _ _ _ _ _ _ _ _ _ _ _ _ _ _ _ _ _
   | exact ih5 _ _ _ _ _ _ _ _ _ _ _ _ _ _ _ _ _ _ _ _ _
   | exact LeO.none _
   | refine LeO.ite ?_ ?_
   | refine LeO.bind ?_ (fun _ => ?_)
  ·intro y0 y1 y2 y3 y4 y5 y6 y7 y8 y9 y10 y11 y12 y13 y14 y15 y16 y17 y18 y19 y20
   unfold ssi_Judge.j2
   repeat' first
   | (with_reducible exact ih0 _ _ _ _ _ _ _ _ _ _ _ _)
   | (with_reducible exact ih1 _ _ _ _ _ _ _ _ _ _ _ _ _ _)
   | (with_reducible exact ih2 _ _ _ _ _ _ _ _ _ _ _ _ _ _ _ _ _ _ _ _ _)
   | (with_reducible exact ih3 _ _ _ _ _ _ _ _ _ _ _ _ _ _ _ _ _ _ _ _ _)
   | (with_reducible exact ih4 _ _ _ _ _ _ _ _ _ _ _ _ _ _ _ _ _ _ _ _ _)
   | (with_reducible exact ih5 _ _ _ _ _ _ _ _ _ _ _ _ _ _ _ _ _ _ _ _ _)
   | (with_reducible exact LeO.refl _)
   | (with_reducible exact LeO.none _)
   | (with_reducible refine LeO.ite ?_ ?_)
   | (with_reducible refine LeO.bind ?_ (fun _ => ?_))
   | exact ih0 _ _ _ _ _ _ _ _ _ _ _ _
   | exact ih1 _ _ _ _ _ _ _ _ _ _ _ _ _ _
   | exact ih2 _ _ _ _ _ _ _ _ _ _ _ _ _ _ _ _ _ _ _ _ _
   | exact ih3 _ _ _ _ _ _ _ _ _ _ _ _ _ _ _ _ _ _ _ _ _
   | exact ih4 _ _ _ _ _ _ _ _ _ _ _ _ _ _ _ _ _ _ _ _ _
   | exact ih5 _ _ _ _ _ _ _ _ _ _ _ _ _ _ _ _ _ _ _ _ _
   | exact LeO.none _
   | refine LeO.ite ?_ ?_
   | refine LeO.bind ?_ (fun _ => ?_)
  ·intro y0 y1 y2 y3 y4 y5 y6 y7 y8 y9 y10 y11 y12 y13 y14 y15 y16 y17 y18 y19 y20
   unfold ssi_Judge.j3
   repeat' first
   | (with_reducible exact ih0 _ _ _ _ _ _ _ _ _ _ _ _)
   | (with_reducible exact ih1 _ _ _ _ _ _ _ _ _ _ _ _ _ _)
   | (with_reducible exact ih2 _ _ _ _ _ _ _ _ _ _ _ _ _ _ _ _ _ _ _ _ _)
   | (with_reducible exact ih3 _ _ _ _ _ _ _ _ _ _ _ _ _ _ _ _ _ _ _ _ _)
   | (with_reducible exact ih4 _ _ _ _ _ _ _ _ _ _ _ _ _ _ _ _ _ _ _ _ _)
   | (with_reducible exact ih5 _ _ _ _ _ _ _ _ _ _ _ _ _ _ _ _ _ _ _ _ _)
   | (with_reducible exact LeO.refl _)
   | (with_reducible exact LeO.none _)
   | (with_reducible refine LeO.ite ?_ ?_)
   | (with_reducible refine LeO.bind ?_ (fun _ => ?_))
   | exact ih0 _ _ _ _ _ _ _ _ _ _ _ _
   | exact ih1 _ _ _ _ _ _ _ _ _ _ _ _ _ _
   | exact ih2 _ _ _ _ _ _ _ _ _ _ _ _ _ _ _ _ _ _ _ _ _
   | exact ih3 _ _ _ _ _ _ _ _ _ _ _ _ _ _ _ _ _ _ _ _ _
   | exact ih4 _ _ _ _ _ _ _ _ _ _ _ _ _ _ _ _ _ _ _ _ _
   | exact ih5 _ _ _ _ _ _ _ _ _ _ _ _ _ _ _ _ _ _ _ _ _
   | exact LeO.none _
   | refine LeO.ite ?_ ?_
   | refine LeO.bind ?_ (fun _ => ?_)
  ·intro y0 y1 y2 y3 y4 y5 y6 y7 y8 y9 y10 y11 y12 y13 y14 y15 y16 y17 y18 y19 y20
   unfold ssi_Judge.j4
   repeat' first
   | (with_reducible exact ih0 _ _ _ _ _ _ _ _ _ _ _ _)
   | (with_reducible exact ih1 _ _ _ _ _ _ _ _ _ _ _ _ _ _)
   | (with_reducible exact ih2 _ _ _ _ _ _ _ _ _ _ _ _ _ _ _ _ _ _ _ _ _)
   | (with_reducible exact ih3 _ _ _ _ _ _ _ _ _ _ _ _ _ _ _ _ _ _ _ _ _)
   | (with_reducible exact ih4 _ _ _ _ _ _ _ _ _ _ _ _ _ _ _ _ _ _ _ _ _)
   | (with_reducible exact ih5 _ _ _ _ _ _ _ _ _ _ _ _ _ _ _ _ _ _ _ _ _)
   | (with_reducible exact LeO.refl _)
   | (with_reducible exact LeO.none _)
   | (with_reducible refine LeO.ite ?_ ?_)
   | (with_reducible refine LeO.bind ?_ (fun _ => ?_))
   | exact ih0 _ _ _ _ _ _ _ _ _ _ _ _
   | exact ih1 _ _ _ _ _ _ _ _ _ _ _ _ _ _
   | exact ih2 _ _ _ _ _ _ _ _ _ _ _ _ _ _ _ _ _ _ _ _ _
   | exact ih3 _ _ _ _ _ _ _ _ _ _ _ _ _ _ _ _ _ _ _ _ _
   | exact ih4 _ _ _ _ _ _ _ _ _ _ _ _ _ _ _ _ _ _ _ _ _
   | exact ih5 _ _ _ _ _ _ _ _ _ _ _ _ _ _ _ _ _ _ _ _ _
   | exact LeO.none _
   | refine LeO.ite ?_ ?_
   | refine LeO.bind ?_ (fun _ => ?_)
  ·intro y0 y1 y2 y3 y4 y5 y6 y7 y8 y9 y10 y11 y12 y13 y14 y15 y16 y17 y18 y19 y20
   unfold ssi_Judge.j5
   repeat' first
   | (with_reducible exact ih0 _ _ _ _ _ _ _ _ _ _ _ _)
   | (with_reducible exact ih1 _ _ _ _ _ _ _ _ _ _ _ _ _ _)
   | (with_reducible exact ih2 _ _ _ _ _ _ _ _ _ _ _ _ _ _ _ _ _ _ _ _ _)
   | (with_reducible exact ih3 _ _ _ _ _ _ _ _ _ _ _ _ _ _ _ _ _ _ _ _ _)
   | (with_reducible exact ih4 _ _ _ _ _ _ _ _ _ _ _ _ _ _ _ _ _ _ _ _ _)
   | (with_reducible exact ih5 _ _ _ _ _ _ _ _ _ _ _ _ _ _ _ _ _ _ _ _ _)
   | (with_reducible exact LeO.refl _)
   | (with_reducible exact LeO.none _)
   | (with_reducible refine LeO.ite ?_ ?_)
   | (with_reducible refine LeO.bind ?_ (fun _ => ?_))
   | exact ih0 _ _ _ _ _ _ _ _ _ _ _ _
   | exact ih1 _ _ _ _ _ _ _ _ _ _ _ _ _ _
   | exact ih2 _ _ _ _ _ _ _ _ _ _ _ _ _ _ _ _ _ _ _ _ _
   | exact ih3 _ _ _ _ _ _ _ _ _ _ _ _ _ _ _ _ _ _ _ _ _
   | exact ih4 _ _ _ _ _ _ _ _ _ _ _ _ _ _ _ _ _ _ _ _ _
   | exact ih5 _ _ _ _ _ _ _ _ _ _ _ _ _ _ _ _ _ _ _ _ _
   | exact LeO.none _
   | refine LeO.ite ?_ ?_
   | refine LeO.bind ?_ (fun _ => ?_)
theorem ssi_Judge.mono : ∀ a0 a1 a2 a3 a4 a5 a6 k, LeO (ssi_Judge.f k a0 a1 a2 a3 a4 a5 a6) (ssi_Judge.f (k + 1) a0 a1 a2 a3 a4 a5 a6) := by
 intro a0 a1 a2 a3 a4 a5 a6 k
 obtain ⟨ih0, ih1, ih2, ih3, ih4, ih5⟩ := ssi_Judge.mono_l k
 unfold ssi_Judge.f
 repeat' first
   | (with_reducible exact ih0 _ _ _ _ _ _ _ _ _ _ _ _)
   | (with_reducible exact ih1 _ _ _ _ _ _ _ _ _ _ _ _ _ _)
   | (with_reducible exact ih2 _ _ _ _ _ _ _ _ _ _ _ _ _ _ _ _ _ _ _ _ _)
   | (with_reducible exact ih3 _ _ _ _ _ _ _ _ _ _ _ _ _ _ _ _ _ _ _ _ _)
   | (with_reducible exact ih4 _ _ _ _ _ _ _ _ _ _ _ _ _ _ _ _ _ _ _ _ _)
   | (with_reducible exact ih5 _ _ _ _ _ _ _ _ _ _ _ _ _ _ _ _ _ _ _ _ _)
   | (with_reducible exact LeO.refl _)
   | (with_reducible exact LeO.none _)
   | (with_reducible refine LeO.ite ?_ ?_)
   | (with_reducible refine LeO.bind ?_ (fun _ => ?_))
   | exact ih0 _ _ _ _ _ _ _ _ _ _ _ _
   | exact ih1 _ _ _ _ _ _ _ _ _ _ _ _ _ _
   | exact ih2 _ _ _ _ _ _ _ _ _ _ _ _ _ _ _ _ _ _ _ _ _
   | exact ih3 _ _ _ _ _ _ _ _ _ _ _ _ _ _ _ _ _ _ _ _ _
   | exact ih4 _ _ _ _ _ _ _ _ _ _ _ _ _ _ _ _ _ _ _ _ _
   | exact ih5 _ _ _ _ _ _ _ _ _ _ _ _ _ _ _ _ _ _ _ _ _
   | exact LeO.none _
   | refine LeO.ite ?_ ?_
   | refine LeO.bind ?_ (fun _ => ?_)
set_option maxHeartbeats 8000000 in
set_option maxRecDepth 100000 in
theorem ssi_Judge.calls (k : Nat) (A0 : Option Addr) (c0 : Nat) (l0 : List (S26)) (a1_0 : Int) (a1_1 : Int) (a1_2 : Int) (a1_3 : Int) (A1_4 : Option Addr) (c1_4 : Nat) (l1_4 : List (S41)) (A1_5 : Option Addr) (c1_5 : Nat) (l1_5 : List (S41)) (r1 : Int) (r2 : Int) (w : World) (hr0 : Kd.C k26 w A0 l0.length l0) (hc0 : l0.length ≤ c0) (hr1_4 : Kd.C k41 w A1_4 l1_4.length l1_4) (hc1_4 : l1_4.length ≤ c1_4) (hr1_5 : Kd.C k41 w A1_5 l1_5.length l1_5) (hc1_5 : l1_5.length ≤ c1_5) (h : ssi_Judge.f k l0 a1_0 a1_1 a1_2 a1_3 l1_4 l1_5 = some (r1, r2)) :
  Calls Try.prog 18 #[.slice A0 l0.length c0, .agg #[.int .u64 a1_0, .int .u64 a1_1, .int .u64 a1_2, .int .u64 a1_3, .slice A1_4 l1_4.length c1_4, .slice A1_5 l1_5.length c1_5]] w fun e w' => e = .returned (.tuple #[.int .u64 r1, .int .i64 r2]) ∧ Below w.heap.size w w' := by
 have hu26 := Try.underlying26
 have HR0 := Aside0.mk hr0; have HC0 := Aside0.mk hc0; clear hr0 hc0; have HR1_4 := Aside0.mk hr1_4; have HC1_4 := Aside0.mk hc1_4; clear hr1_4 hc1_4; have HR1_5 := Aside0.mk hr1_5; have HC1_5 := Aside0.mk hc1_5; clear hr1_5 hc1_5
 have HB := Aside0.mk (Below.refl w.heap.size w)
 have H : (ssi_Judge.l0 k l0 0 false l0 (l0.length : Int) 0 a1_0 a1_1 a1_2 a1_3 l1_4 l1_5) = some (r1, r2) := h
 clear h; have H' := Aside0.mk H; clear H
 go_enter Try.func18, Try.ntmps18
 go_wp2_with (first | ((with_reducible refine gate_dst (N := 3) rfl ?_); (try (refine gate_guard (by rfl) ?_; dsimp only)); refine box_event ?hg (N := 3) ?hd (cs := #[.int .u64 a1_0, .int .u64 a1_1, .int .u64 a1_2, .int .u64 a1_3, .slice A1_4 l1_4.length c1_4, .slice A1_5 l1_5.length c1_5]) (t := 26) ?hr ?_; (case hd => rfl); (case hg => rfl); (case hr => first | (go_simp; done) | (go_simp; rfl)); intro gb453 hg w3 hbox hb; have n0_ := Aside0.mk (below_step bl_ hb); have n1_ := Aside0.mk (hbox); have n2_ := Aside0.mk (bsz_ hg : w.heap.size ≤ gb453); have n3_ := Aside0.mk (bsz_ hg : w.heap.size ≤ gb453); clear HB; have HB := n0_; have BK453 := n1_; have GW453 := n2_; have GE453 := n3_; clear n0_ n1_ n2_ n3_; clear hb hbox hg))
 (try (go_step3; (try go_wp2)))
 (try (go_step3; (try go_wp2)))
 go_loopg [7, 8, 19] k (fun kq v7 v8 v19 w' => ∃ (x7_1 : Int) (x8_1 : Bool) (x19_1 : Int), v7 = .int .u64 x7_1 ∧ v8 = .bool x8_1 ∧ v19 = .int .i64 x19_1 ∧ Aside0 (ssi_Judge.l0 kq l0 x7_1 x8_1 l0 (l0.length : Int) x19_1 a1_0 a1_1 a1_2 a1_3 l1_4 l1_5 = some (r1, r2)) ∧ Aside0 (kq ≤ k) ∧ Aside0 (w'.heap[gb453]? = some (.cells #[.int .u64 a1_0, .int .u64 a1_1, .int .u64 a1_2, .int .u64 a1_3, (.slice A1_4 l1_4.length c1_4), (.slice A1_5 l1_5.length c1_5)] 26 (0, 0))) ∧ Aside0 (Below w.heap.size w w'))
 case atStart => exact ⟨(0), (false), (0), (by first | rfl | (simp; done) | (simp [*]; done)), (by first | rfl | (simp; done) | (simp [*]; done)), (by first | rfl | (simp; done) | (simp [*]; done)), H', ⟨Nat.le_refl _⟩, ⟨by (with_reducible repeat (first | refine blk_drewN ?_ _ | refine blk_drew ?_ | refine blk_alloc ?_ _)); exact BK453.out⟩, ⟨bl_⟩⟩
 case round =>
  clear H'; obtain ⟨x7_1, x8_1, x19_1, rfl, rfl, rfl, HA, HK1, BK453, HB⟩ := hrel
  cases gk with
  | zero => exact absurd HA.out (by simp [ssi_Judge.l0])
  | succ k1 =>
   have H := HA.out
   clear HA
   simp only [ssi_Judge.l0] at H
   by_cases c4 : x19_1 < (l0.length : Int)
   ·rw [if_pos c4] at H
    have c4b0 : decide (x19_1 < (l0.length : Int)) = true := decide_eq_true c4
    clear c4
    by_cases c5 : 0 ≤ x19_1
    ·rw [if_pos c5] at H
     have c5b0 : decide (0 ≤ x19_1) = true := decide_eq_true c5
     clear c5
     by_cases c6 : x19_1 < (l0.length : Int)
     ·rw [if_pos c6] at H
      have c6b0 : decide (x19_1 < (l0.length : Int)) = true := decide_eq_true c6
      clear c6; replace H := Option.bind_eq_some_iff.mp H; obtain ⟨t456, A70, H⟩ := H
      replace H : (if t456 = true then ((span_Meet.f ((rd_T26 l0 x19_1).f4) l1_5).bind fun t457 => (if t457 = true then ((ssi_last.f ((rd_T26 l0 x19_1).f0) ((rd_T26 l0 x19_1).f1) ((rd_T26 l0 x19_1).f2) ((rd_T26 l0 x19_1).f3) ((rd_T26 l0 x19_1).f4) ((rd_T26 l0 x19_1).f5)).bind fun t458 => (ssi_Judge.l0 k1 l0 (mx x7_1 t458) true l0 (l0.length : Int) (wrap64 (x19_1 + 1)) a1_0 a1_1 a1_2 a1_3 l1_4 l1_5)) else (ssi_Judge.l0 k1 l0 x7_1 x8_1 l0 (l0.length : Int) (wrap64 (x19_1 + 1)) a1_0 a1_1 a1_2 a1_3 l1_4 l1_5))) else (ssi_Judge.l0 k1 l0 x7_1 x8_1 l0 (l0.length : Int) (wrap64 (x19_1 + 1)) a1_0 a1_1 a1_2 a1_3 l1_4 l1_5)) = some (r1, r2) := H
      have A7 := Aside0.mk A70; clear A70
      by_cases c8 : t456 = true
      ·subst c8
       have H1 : ((span_Meet.f ((rd_T26 l0 x19_1).f4) l1_5).bind fun t457 => (if t457 = true then ((ssi_last.f ((rd_T26 l0 x19_1).f0) ((rd_T26 l0 x19_1).f1) ((rd_T26 l0 x19_1).f2) ((rd_T26 l0 x19_1).f3) ((rd_T26 l0 x19_1).f4) ((rd_T26 l0 x19_1).f5)).bind fun t458 => (ssi_Judge.l0 k1 l0 (mx x7_1 t458) true l0 (l0.length : Int) (wrap64 (x19_1 + 1)) a1_0 a1_1 a1_2 a1_3 l1_4 l1_5)) else (ssi_Judge.l0 k1 l0 x7_1 x8_1 l0 (l0.length : Int) (wrap64 (x19_1 + 1)) a1_0 a1_1 a1_2 a1_3 l1_4 l1_5))) = some (r1, r2) := by rw [if_pos rfl] at H; exact H
       clear H; have H := H1; clear H1; replace H := Option.bind_eq_some_iff.mp H; obtain ⟨t457, A90, H⟩ := H
       replace H : (if t457 = true then ((ssi_last.f ((rd_T26 l0 x19_1).f0) ((rd_T26 l0 x19_1).f1) ((rd_T26 l0 x19_1).f2) ((rd_T26 l0 x19_1).f3) ((rd_T26 l0 x19_1).f4) ((rd_T26 l0 x19_1).f5)).bind fun t458 => (ssi_Judge.l0 k1 l0 (mx x7_1 t458) true l0 (l0.length : Int) (wrap64 (x19_1 + 1)) a1_0 a1_1 a1_2 a1_3 l1_4 l1_5)) else (ssi_Judge.l0 k1 l0 x7_1 x8_1 l0 (l0.length : Int) (wrap64 (x19_1 + 1)) a1_0 a1_1 a1_2 a1_3 l1_4 l1_5)) = some (r1, r2) := H
       have A9 := Aside0.mk A90; clear A90
       by_cases c10 : t457 = true
       ·subst c10
        have H1 : ((ssi_last.f ((rd_T26 l0 x19_1).f0) ((rd_T26 l0 x19_1).f1) ((rd_T26 l0 x19_1).f2) ((rd_T26 l0 x19_1).f3) ((rd_T26 l0 x19_1).f4) ((rd_T26 l0 x19_1).f5)).bind fun t458 => (ssi_Judge.l0 k1 l0 (mx x7_1 t458) true l0 (l0.length : Int) (wrap64 (x19_1 + 1)) a1_0 a1_1 a1_2 a1_3 l1_4 l1_5)) = some (r1, r2) := by rw [if_pos rfl] at H; exact H
        clear H; have H := H1; clear H1; replace H := Option.bind_eq_some_iff.mp H; obtain ⟨t458, A110, H⟩ := H
        replace H : (ssi_Judge.l0 k1 l0 (mx x7_1 t458) true l0 (l0.length : Int) (wrap64 (x19_1 + 1)) a1_0 a1_1 a1_2 a1_3 l1_4 l1_5) = some (r1, r2) := H
        have A11 := Aside0.mk A110; clear A110
        obtain ⟨ji12, hji12⟩ : ∃ j_ : Int, (mx x7_1 t458) = j_ := ⟨_, rfl⟩
        replace H : (ssi_Judge.l0 k1 l0 ji12 true l0 (l0.length : Int) (wrap64 (x19_1 + 1)) a1_0 a1_1 a1_2 a1_3 l1_4 l1_5) = some (r1, r2) := by first | (rw [hji12] at H; exact H) | (simp only [hji12] at H ⊢; exact H)
        (try rw [hji12] at A7)
        (try rw [hji12] at A9)
        (try rw [hji12] at A11)
        have hji12_ : (if x7_1 < t458 then t458 else x7_1) = ji12 := hji12
        have H' := Aside0.mk H; clear H
        have p454 : 0 ≤ (x19_1 : Int) := od_
        have q454 : x19_1 < (l0.length : Int) := od_
        obtain ⟨ad454, A454_4, c454_4, A454_5, c454_5, e454, hx454_0, hx454_1, hx454_2, hx454_3, hx454_4, hx454_5, hl454_4, hi454_4, hl454_5, hi454_5⟩ := at_T26 HR0.out x19_1 p454 q454; cases e454
        replace hx454_0 := up_ HB.out hx454_0
        replace hx454_1 := up_ HB.out hx454_1
        replace hx454_2 := up_ HB.out hx454_2
        replace hx454_3 := up_ HB.out hx454_3
        replace hx454_4 := up_ HB.out hx454_4
        replace hx454_5 := up_ HB.out hx454_5
        have HR454_4 := Aside0.mk hi454_4; have HC454_4 := Aside0.mk hl454_4; clear hi454_4 hl454_4; have HR454_5 := Aside0.mk hi454_5; have HC454_5 := Aside0.mk hl454_5; clear hi454_5 hl454_5; replace p454 := eq_true p454; replace q454 := eq_true q454
        go_wp2_with (first | ((with_reducible refine gate_dst (N := 10) rfl ?_); (try (refine gate_guard (by rfl) ?_; dsimp only)); refine box_event ?hg (N := 10) ?hd (cs := #[.int .u64 0, .int .u64 0, .int .u64 0, .int .u64 0, .slice none 0 0, .slice none 0 0]) (t := 26) ?hr ?_; (case hd => rfl); (case hg => rfl); (case hr => first | (go_simp; done) | (go_simp; rfl)); intro gb455 hg w13 hbox hb; have n0_ := Aside0.mk (blk_below (g := gb453) (o := .cells #[.int .u64 a1_0, .int .u64 a1_1, .int .u64 a1_2, .int .u64 a1_3, .slice A1_4 l1_4.length c1_4, .slice A1_5 l1_5.length c1_5] 26 (0, 0)) (by (with_reducible repeat (first | refine blk_drewN ?_ _ | refine blk_drew ?_ | refine blk_alloc ?_ _)); exact BK453.out) hb); have n1_ := Aside0.mk (below_step bl_ hb); have n2_ := Aside0.mk (hbox); have n3_ := Aside0.mk (bsz_ hg : w.heap.size ≤ gb455); have n4_ := Aside0.mk (bsz_ hg : w.heap.size ≤ gb455); have n5_ := Aside0.mk ((by rw [hg]; exact Nat.ne_of_lt (blk_lt (g := gb453) (o := .cells #[.int .u64 a1_0, .int .u64 a1_1, .int .u64 a1_2, .int .u64 a1_3, .slice A1_4 l1_4.length c1_4, .slice A1_5 l1_5.length c1_5] 26 (0, 0)) (by (with_reducible repeat (first | refine blk_drewN ?_ _ | refine blk_drew ?_ | refine blk_alloc ?_ _)); exact BK453.out)) : gb453 ≠ gb455)); have n6_ := Aside0.mk ((by rw [hg]; exact Nat.ne_of_gt (blk_lt (g := gb453) (o := .cells #[.int .u64 a1_0, .int .u64 a1_1, .int .u64 a1_2, .int .u64 a1_3, .slice A1_4 l1_4.length c1_4, .slice A1_5 l1_5.length c1_5] 26 (0, 0)) (by (with_reducible repeat (first | refine blk_drewN ?_ _ | refine blk_drew ?_ | refine blk_alloc ?_ _)); exact BK453.out)) : gb455 ≠ gb453)); clear BK453; clear HB; have BK453 := n0_; have HB := n1_; have BK455 := n2_; have GW455 := n3_; have GE455 := n4_; have NB453_455 := n5_; have NB455_453 := n6_; clear n0_ n1_ n2_ n3_ n4_ n5_ n6_; clear hb hbox hg; have hnb14 := NB455_453.out; have hnc14 := NB453_455.out; obtain ⟨hcz15_0, hcz15_1, hcz15_2, hcz15_3, hcz15_4, hcz15_5, hfz15_0, hfz15_1, hfz15_2, hfz15_3, hfz15_4, hfz15_5⟩ := blk6_ BK455.out) | (go_at_call 55; (with_reducible refine (ssi_Judge_1.calls ((rd_T26 l0 x19_1).f0) ((rd_T26 l0 x19_1).f1) ((rd_T26 l0 x19_1).f2) ((rd_T26 l0 x19_1).f3) _ _ ((rd_T26 l0 x19_1).f4) _ _ ((rd_T26 l0 x19_1).f5) true _ ?side1 ?side2 ?side3 ?side4 A7.out).mono ?_); (case side1 => exact Kd.C_below HR454_4.out bl_); (case side2 => exact HC454_4.out); (case side3 => exact Kd.C_below HR454_5.out bl_); (case side4 => exact HC454_5.out); rintro e w16 ⟨rfl, hb⟩; have n0_ := Aside0.mk (blk_below (g := gb453) (o := .cells #[.int .u64 a1_0, .int .u64 a1_1, .int .u64 a1_2, .int .u64 a1_3, .slice A1_4 l1_4.length c1_4, .slice A1_5 l1_5.length c1_5] 26 (0, 0)) (by (with_reducible repeat (first | refine blk_drewN ?_ _ | refine blk_drew ?_ | refine blk_alloc ?_ _)); refine blk_far ?_ NB453_455.out _; (with_reducible repeat (first | refine blk_drewN ?_ _ | refine blk_drew ?_ | refine blk_alloc ?_ _)); refine blk_far ?_ NB453_455.out _; (with_reducible repeat (first | refine blk_drewN ?_ _ | refine blk_drew ?_ | refine blk_alloc ?_ _)); refine blk_far ?_ NB453_455.out _; (with_reducible repeat (first | refine blk_drewN ?_ _ | refine blk_drew ?_ | refine blk_alloc ?_ _)); refine blk_far ?_ NB453_455.out _; (with_reducible repeat (first | refine blk_drewN ?_ _ | refine blk_drew ?_ | refine blk_alloc ?_ _)); refine blk_far ?_ NB453_455.out _; (with_reducible repeat (first | refine blk_drewN ?_ _ | refine blk_drew ?_ | refine blk_alloc ?_ _)); refine blk_far ?_ NB453_455.out _; (with_reducible repeat (first | refine blk_drewN ?_ _ | refine blk_drew ?_ | refine blk_alloc ?_ _)); exact BK453.out) hb); have n1_ := Aside0.mk (blk_below (g := gb455) (o := .cells #[.int .u64 ((rd_T26 l0 x19_1).f0), .int .u64 ((rd_T26 l0 x19_1).f1), .int .u64 ((rd_T26 l0 x19_1).f2), .int .u64 ((rd_T26 l0 x19_1).f3), .slice A454_4 ((rd_T26 l0 x19_1).f4).length c454_4, .slice A454_5 ((rd_T26 l0 x19_1).f5).length c454_5] 26 (0, 0)) (by (with_reducible repeat (first | refine blk_drewN ?_ _ | refine blk_drew ?_ | refine blk_alloc ?_ _)); refine blk_put (cs := #[.int .u64 ((rd_T26 l0 x19_1).f0), .int .u64 ((rd_T26 l0 x19_1).f1), .int .u64 ((rd_T26 l0 x19_1).f2), .int .u64 ((rd_T26 l0 x19_1).f3), .slice A454_4 ((rd_T26 l0 x19_1).f4).length c454_4, .slice none 0 0]) ?_ 5 _ rfl; refine blk_put (cs := #[.int .u64 ((rd_T26 l0 x19_1).f0), .int .u64 ((rd_T26 l0 x19_1).f1), .int .u64 ((rd_T26 l0 x19_1).f2), .int .u64 ((rd_T26 l0 x19_1).f3), .slice none 0 0, .slice none 0 0]) ?_ 4 _ rfl; refine blk_put (cs := #[.int .u64 ((rd_T26 l0 x19_1).f0), .int .u64 ((rd_T26 l0 x19_1).f1), .int .u64 ((rd_T26 l0 x19_1).f2), .int .u64 0, .slice none 0 0, .slice none 0 0]) ?_ 3 _ rfl; refine blk_put (cs := #[.int .u64 ((rd_T26 l0 x19_1).f0), .int .u64 ((rd_T26 l0 x19_1).f1), .int .u64 0, .int .u64 0, .slice none 0 0, .slice none 0 0]) ?_ 2 _ rfl; refine blk_put (cs := #[.int .u64 ((rd_T26 l0 x19_1).f0), .int .u64 0, .int .u64 0, .int .u64 0, .slice none 0 0, .slice none 0 0]) ?_ 1 _ rfl; refine blk_put (cs := #[.int .u64 0, .int .u64 0, .int .u64 0, .int .u64 0, .slice none 0 0, .slice none 0 0]) ?_ 0 _ rfl; exact BK455.out) hb); have n2_ := Aside0.mk (below_step bl_ hb); clear BK453; clear BK455; clear HB; have BK453 := n0_; have BK455 := n1_; have HB := n2_; clear n0_ n1_ n2_; (try clear hb); (try clear hb2); (try clear hk); (try clear hi); obtain ⟨hcz17_0, hcz17_1, hcz17_2, hcz17_3, hcz17_4, hcz17_5, hfz17_0, hfz17_1, hfz17_2, hfz17_3, hfz17_4, hfz17_5⟩ := blk6_ BK455.out; obtain ⟨hcz18_0, hcz18_1, hcz18_2, hcz18_3, hcz18_4, hcz18_5, hfz18_0, hfz18_1, hfz18_2, hfz18_3, hfz18_4, hfz18_5⟩ := blk6_ BK453.out) | (go_at_call 37; (with_reducible refine (span_Meet.calls _ _ ((rd_T26 l0 x19_1).f4) _ _ l1_5 true _ ?side1 ?side2 ?side3 ?side4 A9.out).mono ?_); (case side1 => exact (Kd.C_below HR454_4.out HB.out)); (case side2 => exact HC454_4.out); (case side3 => exact (Kd.C_below HR1_5.out HB.out)); (case side4 => exact HC1_5.out); rintro e w19 ⟨rfl, hb⟩; have n0_ := Aside0.mk (blk_below (g := gb453) (o := .cells #[.int .u64 a1_0, .int .u64 a1_1, .int .u64 a1_2, .int .u64 a1_3, .slice A1_4 l1_4.length c1_4, .slice A1_5 l1_5.length c1_5] 26 (0, 0)) (by (with_reducible repeat (first | refine blk_drewN ?_ _ | refine blk_drew ?_ | refine blk_alloc ?_ _)); exact BK453.out) hb); have n1_ := Aside0.mk (blk_below (g := gb455) (o := .cells #[.int .u64 ((rd_T26 l0 x19_1).f0), .int .u64 ((rd_T26 l0 x19_1).f1), .int .u64 ((rd_T26 l0 x19_1).f2), .int .u64 ((rd_T26 l0 x19_1).f3), .slice A454_4 ((rd_T26 l0 x19_1).f4).length c454_4, .slice A454_5 ((rd_T26 l0 x19_1).f5).length c454_5] 26 (0, 0)) (by (with_reducible repeat (first | refine blk_drewN ?_ _ | refine blk_drew ?_ | refine blk_alloc ?_ _)); exact BK455.out) hb); have n2_ := Aside0.mk (below_step bl_ hb); clear BK453; clear BK455; clear HB; have BK453 := n0_; have BK455 := n1_; have HB := n2_; clear n0_ n1_ n2_; (try clear hb); (try clear hb2); (try clear hk); (try clear hi); obtain ⟨hcz20_0, hcz20_1, hcz20_2, hcz20_3, hcz20_4, hcz20_5, hfz20_0, hfz20_1, hfz20_2, hfz20_3, hfz20_4, hfz20_5⟩ := blk6_ BK455.out) | ((with_reducible refine gate_callee (f := 56) rfl ?_); refine goesL_ (some 35) rfl rfl Try.func56 (by kernel_rfl) rfl #[.agg #[.int .u64 ((rd_T26 l0 x19_1).f0), .int .u64 ((rd_T26 l0 x19_1).f1), .int .u64 ((rd_T26 l0 x19_1).f2), .int .u64 ((rd_T26 l0 x19_1).f3), .slice A454_4 ((rd_T26 l0 x19_1).f4).length c454_4, .slice A454_5 ((rd_T26 l0 x19_1).f5).length c454_5]] rfl sa_ ?_; (with_reducible refine (ssi_last.calls ((rd_T26 l0 x19_1).f0) ((rd_T26 l0 x19_1).f1) ((rd_T26 l0 x19_1).f2) ((rd_T26 l0 x19_1).f3) _ _ ((rd_T26 l0 x19_1).f4) _ _ ((rd_T26 l0 x19_1).f5) t458 _ ?side1 ?side2 ?side3 ?side4 A11.out).mono ?_); (case side1 => exact (Kd.C_below HR454_4.out HB.out)); (case side2 => exact HC454_4.out); (case side3 => exact (Kd.C_below HR454_5.out HB.out)); (case side4 => exact HC454_5.out); rintro e w21 ⟨rfl, hb⟩; refine ⟨_, rfl, ?_⟩; have n0_ := Aside0.mk (blk_below (g := gb453) (o := .cells #[.int .u64 a1_0, .int .u64 a1_1, .int .u64 a1_2, .int .u64 a1_3, .slice A1_4 l1_4.length c1_4, .slice A1_5 l1_5.length c1_5] 26 (0, 0)) (by (with_reducible repeat (first | refine blk_drewN ?_ _ | refine blk_drew ?_ | refine blk_alloc ?_ _)); exact BK453.out) hb); have n1_ := Aside0.mk (blk_below (g := gb455) (o := .cells #[.int .u64 ((rd_T26 l0 x19_1).f0), .int .u64 ((rd_T26 l0 x19_1).f1), .int .u64 ((rd_T26 l0 x19_1).f2), .int .u64 ((rd_T26 l0 x19_1).f3), .slice A454_4 ((rd_T26 l0 x19_1).f4).length c454_4, .slice A454_5 ((rd_T26 l0 x19_1).f5).length c454_5] 26 (0, 0)) (by (with_reducible repeat (first | refine blk_drewN ?_ _ | refine blk_drew ?_ | refine blk_alloc ?_ _)); exact BK455.out) hb); have n2_ := Aside0.mk (below_step bl_ hb); clear BK453; clear BK455; clear HB; have BK453 := n0_; have BK455 := n1_; have HB := n2_; clear n0_ n1_ n2_; (try clear hb); (try clear hb2); (try clear hk); (try clear hi)))
        go_roundg k1
        case measure => have := HK1.out; omega
        case rel => exact ⟨(ji12), (true), (wrap64 (x19_1 + 1)), (by first | rfl | (simp; done) | (simp only [← hji12] <;> (first | rfl | simp)) | (simp [*]; done)), (by first | rfl | (simp; done) | (simp [*]; done)), (by first | rfl | (simp; done) | (simp [*]; done)), H', ⟨by have := HK1.out; omega⟩, ⟨by (with_reducible repeat (first | refine blk_drewN ?_ _ | refine blk_drew ?_ | refine blk_alloc ?_ _)); exact BK453.out⟩, ⟨bl_⟩⟩
       ·replace c10 := Bool.eq_false_iff.mpr c10
        subst c10
        have H1 : (ssi_Judge.l0 k1 l0 x7_1 x8_1 l0 (l0.length : Int) (wrap64 (x19_1 + 1)) a1_0 a1_1 a1_2 a1_3 l1_4 l1_5) = some (r1, r2) := by rw [if_neg (show ¬ (false = true) by decide)] at H; exact H
        clear H; have H := H1; clear H1; have H' := Aside0.mk H; clear H
        have p454 : 0 ≤ (x19_1 : Int) := od_
        have q454 : x19_1 < (l0.length : Int) := od_
        obtain ⟨ad454, A454_4, c454_4, A454_5, c454_5, e454, hx454_0, hx454_1, hx454_2, hx454_3, hx454_4, hx454_5, hl454_4, hi454_4, hl454_5, hi454_5⟩ := at_T26 HR0.out x19_1 p454 q454; cases e454
        replace hx454_0 := up_ HB.out hx454_0
        replace hx454_1 := up_ HB.out hx454_1
        replace hx454_2 := up_ HB.out hx454_2
        replace hx454_3 := up_ HB.out hx454_3
        replace hx454_4 := up_ HB.out hx454_4
        replace hx454_5 := up_ HB.out hx454_5
        have HR454_4 := Aside0.mk hi454_4; have HC454_4 := Aside0.mk hl454_4; clear hi454_4 hl454_4; have HR454_5 := Aside0.mk hi454_5; have HC454_5 := Aside0.mk hl454_5; clear hi454_5 hl454_5; replace p454 := eq_true p454; replace q454 := eq_true q454
        go_wp2_with (first | ((with_reducible refine gate_dst (N := 10) rfl ?_); (try (refine gate_guard (by rfl) ?_; dsimp only)); refine box_event ?hg (N := 10) ?hd (cs := #[.int .u64 0, .int .u64 0, .int .u64 0, .int .u64 0, .slice none 0 0, .slice none 0 0]) (t := 26) ?hr ?_; (case hd => rfl); (case hg => rfl); (case hr => first | (go_simp; done) | (go_simp; rfl)); intro gb455 hg w22 hbox hb; have n0_ := Aside0.mk (blk_below (g := gb453) (o := .cells #[.int .u64 a1_0, .int .u64 a1_1, .int .u64 a1_2, .int .u64 a1_3, .slice A1_4 l1_4.length c1_4, .slice A1_5 l1_5.length c1_5] 26 (0, 0)) (by (with_reducible repeat (first | refine blk_drewN ?_ _ | refine blk_drew ?_ | refine blk_alloc ?_ _)); exact BK453.out) hb); have n1_ := Aside0.mk (below_step bl_ hb); have n2_ := Aside0.mk (hbox); have n3_ := Aside0.mk (bsz_ hg : w.heap.size ≤ gb455); have n4_ := Aside0.mk (bsz_ hg : w.heap.size ≤ gb455); have n5_ := Aside0.mk ((by rw [hg]; exact Nat.ne_of_lt (blk_lt (g := gb453) (o := .cells #[.int .u64 a1_0, .int .u64 a1_1, .int .u64 a1_2, .int .u64 a1_3, .slice A1_4 l1_4.length c1_4, .slice A1_5 l1_5.length c1_5] 26 (0, 0)) (by (with_reducible repeat (first | refine blk_drewN ?_ _ | refine blk_drew ?_ | refine blk_alloc ?_ _)); exact BK453.out)) : gb453 ≠ gb455)); have n6_ := Aside0.mk ((by rw [hg]; exact Nat.ne_of_gt (blk_lt (g := gb453) (o := .cells #[.int .u64 a1_0, .int .u64 a1_1, .int .u64 a1_2, .int .u64 a1_3, .slice A1_4 l1_4.length c1_4, .slice A1_5 l1_5.length c1_5] 26 (0, 0)) (by (with_reducible repeat (first | refine blk_drewN ?_ _ | refine blk_drew ?_ | refine blk_alloc ?_ _)); exact BK453.out)) : gb455 ≠ gb453)); clear BK453; clear HB; have BK453 := n0_; have HB := n1_; have BK455 := n2_; have GW455 := n3_; have GE455 := n4_; have NB453_455 := n5_; have NB455_453 := n6_; clear n0_ n1_ n2_ n3_ n4_ n5_ n6_; clear hb hbox hg; have hnb23 := NB455_453.out; have hnc23 := NB453_455.out; obtain ⟨hcz24_0, hcz24_1, hcz24_2, hcz24_3, hcz24_4, hcz24_5, hfz24_0, hfz24_1, hfz24_2, hfz24_3, hfz24_4, hfz24_5⟩ := blk6_ BK455.out) | (go_at_call 55; (with_reducible refine (ssi_Judge_1.calls ((rd_T26 l0 x19_1).f0) ((rd_T26 l0 x19_1).f1) ((rd_T26 l0 x19_1).f2) ((rd_T26 l0 x19_1).f3) _ _ ((rd_T26 l0 x19_1).f4) _ _ ((rd_T26 l0 x19_1).f5) true _ ?side1 ?side2 ?side3 ?side4 A7.out).mono ?_); (case side1 => exact Kd.C_below HR454_4.out bl_); (case side2 => exact HC454_4.out); (case side3 => exact Kd.C_below HR454_5.out bl_); (case side4 => exact HC454_5.out); rintro e w25 ⟨rfl, hb⟩; have n0_ := Aside0.mk (blk_below (g := gb453) (o := .cells #[.int .u64 a1_0, .int .u64 a1_1, .int .u64 a1_2, .int .u64 a1_3, .slice A1_4 l1_4.length c1_4, .slice A1_5 l1_5.length c1_5] 26 (0, 0)) (by (with_reducible repeat (first | refine blk_drewN ?_ _ | refine blk_drew ?_ | refine blk_alloc ?_ _)); refine blk_far ?_ NB453_455.out _; (with_reducible repeat (first | refine blk_drewN ?_ _ | refine blk_drew ?_ | refine blk_alloc ?_ _)); refine blk_far ?_ NB453_455.out _; (with_reducible repeat (first | refine blk_drewN ?_ _ | refine blk_drew ?_ | refine blk_alloc ?_ _)); refine blk_far ?_ NB453_455.out _; (with_reducible repeat (first | refine blk_drewN ?_ _ | refine blk_drew ?_ | refine blk_alloc ?_ _)); refine blk_far ?_ NB453_455.out _; (with_reducible repeat (first | refine blk_drewN ?_ _ | refine blk_drew ?_ | refine blk_alloc ?_ _)); refine blk_far ?_ NB453_455.out _; (with_reducible repeat (first | refine blk_drewN ?_ _ | refine blk_drew ?_ | refine blk_alloc ?_ _)); refine blk_far ?_ NB453_455.out _; (with_reducible repeat (first | refine blk_drewN ?_ _ | refine blk_drew ?_ | refine blk_alloc ?_ _)); exact BK453.out) hb); have n1_ := Aside0.mk (blk_below (g := gb455) (o := .cells #[.int .u64 ((rd_T26 l0 x19_1).f0), .int .u64 ((rd_T26 l0 x19_1).f1), .int .u64 ((rd_T26 l0 x19_1).f2), .int .u64 ((rd_T26 l0 x19_1).f3), .slice A454_4 ((rd_T26 l0 x19_1).f4).length c454_4, .slice A454_5 ((rd_T26 l0 x19_1).f5).length c454_5] 26 (0, 0)) (by (with_reducible repeat (first | refine blk_drewN ?_ _ | refine blk_drew ?_ | refine blk_alloc ?_ _)); refine blk_put (cs := #[.int .u64 ((rd_T26 l0 x19_1).f0), .int .u64 ((rd_T26 l0 x19_1).f1), .int .u64 ((rd_T26 l0 x19_1).f2), .int .u64 ((rd_T26 l0 x19_1).f3), .slice A454_4 ((rd_T26 l0 x19_1).f4).length c454_4, .slice none 0 0]) ?_ 5 _ rfl; refine blk_put (cs := #[.int .u64 ((rd_T26 l0 x19_1).f0), .int .u64 ((rd_T26 l0 x19_1).f1), .int .u64 ((rd_T26 l0 x19_1).f2), .int .u64 ((rd_T26 l0 x19_1).f3), .slice none 0 0, .slice none 0 0]) ?_ 4 _ rfl; refine blk_put (cs := #[.int .u64 ((rd_T26 l0 x19_1).f0), .int .u64 ((rd_T26 l0 x19_1).f1), .int .u64 ((rd_T26 l0 x19_1).f2), .int .u64 0, .slice none 0 0, .slice none 0 0]) ?_ 3 _ rfl; refine blk_put (cs := #[.int .u64 ((rd_T26 l0 x19_1).f0), .int .u64 ((rd_T26 l0 x19_1).f1), .int .u64 0, .int .u64 0, .slice none 0 0, .slice none 0 0]) ?_ 2 _ rfl; refine blk_put (cs := #[.int .u64 ((rd_T26 l0 x19_1).f0), .int .u64 0, .int .u64 0, .int .u64 0, .slice none 0 0, .slice none 0 0]) ?_ 1 _ rfl; refine blk_put (cs := #[.int .u64 0, .int .u64 0, .int .u64 0, .int .u64 0, .slice none 0 0, .slice none 0 0]) ?_ 0 _ rfl; exact BK455.out) hb); have n2_ := Aside0.mk (below_step bl_ hb); clear BK453; clear BK455; clear HB; have BK453 := n0_; have BK455 := n1_; have HB := n2_; clear n0_ n1_ n2_; (try clear hb); (try clear hb2); (try clear hk); (try clear hi); obtain ⟨hcz26_0, hcz26_1, hcz26_2, hcz26_3, hcz26_4, hcz26_5, hfz26_0, hfz26_1, hfz26_2, hfz26_3, hfz26_4, hfz26_5⟩ := blk6_ BK455.out; obtain ⟨hcz27_0, hcz27_1, hcz27_2, hcz27_3, hcz27_4, hcz27_5, hfz27_0, hfz27_1, hfz27_2, hfz27_3, hfz27_4, hfz27_5⟩ := blk6_ BK453.out) | (go_at_call 37; (with_reducible refine (span_Meet.calls _ _ ((rd_T26 l0 x19_1).f4) _ _ l1_5 false _ ?side1 ?side2 ?side3 ?side4 A9.out).mono ?_); (case side1 => exact (Kd.C_below HR454_4.out HB.out)); (case side2 => exact HC454_4.out); (case side3 => exact (Kd.C_below HR1_5.out HB.out)); (case side4 => exact HC1_5.out); rintro e w28 ⟨rfl, hb⟩; have n0_ := Aside0.mk (blk_below (g := gb453) (o := .cells #[.int .u64 a1_0, .int .u64 a1_1, .int .u64 a1_2, .int .u64 a1_3, .slice A1_4 l1_4.length c1_4, .slice A1_5 l1_5.length c1_5] 26 (0, 0)) (by (with_reducible repeat (first | refine blk_drewN ?_ _ | refine blk_drew ?_ | refine blk_alloc ?_ _)); exact BK453.out) hb); have n1_ := Aside0.mk (blk_below (g := gb455) (o := .cells #[.int .u64 ((rd_T26 l0 x19_1).f0), .int .u64 ((rd_T26 l0 x19_1).f1), .int .u64 ((rd_T26 l0 x19_1).f2), .int .u64 ((rd_T26 l0 x19_1).f3), .slice A454_4 ((rd_T26 l0 x19_1).f4).length c454_4, .slice A454_5 ((rd_T26 l0 x19_1).f5).length c454_5] 26 (0, 0)) (by (with_reducible repeat (first | refine blk_drewN ?_ _ | refine blk_drew ?_ | refine blk_alloc ?_ _)); exact BK455.out) hb); have n2_ := Aside0.mk (below_step bl_ hb); clear BK453; clear BK455; clear HB; have BK453 := n0_; have BK455 := n1_; have HB := n2_; clear n0_ n1_ n2_; (try clear hb); (try clear hb2); (try clear hk); (try clear hi)))
        go_roundg k1
        case measure => have := HK1.out; omega
        case rel => exact ⟨(x7_1), (x8_1), (wrap64 (x19_1 + 1)), (by first | rfl | (simp; done) | (simp [*]; done)), (by first | rfl | (simp; done) | (simp [*]; done)), (by first | rfl | (simp; done) | (simp [*]; done)), H', ⟨by have := HK1.out; omega⟩, ⟨by (with_reducible repeat (first | refine blk_drewN ?_ _ | refine blk_drew ?_ | refine blk_alloc ?_ _)); exact BK453.out⟩, ⟨bl_⟩⟩
      ·replace c8 := Bool.eq_false_iff.mpr c8
       subst c8
       have H1 : (ssi_Judge.l0 k1 l0 x7_1 x8_1 l0 (l0.length : Int) (wrap64 (x19_1 + 1)) a1_0 a1_1 a1_2 a1_3 l1_4 l1_5) = some (r1, r2) := by rw [if_neg (show ¬ (false = true) by decide)] at H; exact H
       clear H; have H := H1; clear H1; have H' := Aside0.mk H; clear H
       have p454 : 0 ≤ (x19_1 : Int) := od_
       have q454 : x19_1 < (l0.length : Int) := od_
       obtain ⟨ad454, A454_4, c454_4, A454_5, c454_5, e454, hx454_0, hx454_1, hx454_2, hx454_3, hx454_4, hx454_5, hl454_4, hi454_4, hl454_5, hi454_5⟩ := at_T26 HR0.out x19_1 p454 q454; cases e454
       replace hx454_0 := up_ HB.out hx454_0
       replace hx454_1 := up_ HB.out hx454_1
       replace hx454_2 := up_ HB.out hx454_2
       replace hx454_3 := up_ HB.out hx454_3
       replace hx454_4 := up_ HB.out hx454_4
       replace hx454_5 := up_ HB.out hx454_5
       have HR454_4 := Aside0.mk hi454_4; have HC454_4 := Aside0.mk hl454_4; clear hi454_4 hl454_4; have HR454_5 := Aside0.mk hi454_5; have HC454_5 := Aside0.mk hl454_5; clear hi454_5 hl454_5; replace p454 := eq_true p454; replace q454 := eq_true q454
       go_wp2_with (first | ((with_reducible refine gate_dst (N := 10) rfl ?_); (try (refine gate_guard (by rfl) ?_; dsimp only)); refine box_event ?hg (N := 10) ?hd (cs := #[.int .u64 0, .int .u64 0, .int .u64 0, .int .u64 0, .slice none 0 0, .slice none 0 0]) (t := 26) ?hr ?_; (case hd => rfl); (case hg => rfl); (case hr => first | (go_simp; done) | (go_simp; rfl)); intro gb455 hg w29 hbox hb; have n0_ := Aside0.mk (blk_below (g := gb453) (o := .cells #[.int .u64 a1_0, .int .u64 a1_1, .int .u64 a1_2, .int .u64 a1_3, .slice A1_4 l1_4.length c1_4, .slice A1_5 l1_5.length c1_5] 26 (0, 0)) (by (with_reducible repeat (first | refine blk_drewN ?_ _ | refine blk_drew ?_ | refine blk_alloc ?_ _)); exact BK453.out) hb); have n1_ := Aside0.mk (below_step bl_ hb); have n2_ := Aside0.mk (hbox); have n3_ := Aside0.mk (bsz_ hg : w.heap.size ≤ gb455); have n4_ := Aside0.mk (bsz_ hg : w.heap.size ≤ gb455); have n5_ := Aside0.mk ((by rw [hg]; exact Nat.ne_of_lt (blk_lt (g := gb453) (o := .cells #[.int .u64 a1_0, .int .u64 a1_1, .int .u64 a1_2, .int .u64 a1_3, .slice A1_4 l1_4.length c1_4, .slice A1_5 l1_5.length c1_5] 26 (0, 0)) (by (with_reducible repeat (first | refine blk_drewN ?_ _ | refine blk_drew ?_ | refine blk_alloc ?_ _)); exact BK453.out)) : gb453 ≠ gb455)); have n6_ := Aside0.mk ((by rw [hg]; exact Nat.ne_of_gt (blk_lt (g := gb453) (o := .cells #[.int .u64 a1_0, .int .u64 a1_1, .int .u64 a1_2, .int .u64 a1_3, .slice A1_4 l1_4.length c1_4, .slice A1_5 l1_5.length c1_5] 26 (0, 0)) (by (with_reducible repeat (first | refine blk_drewN ?_ _ | refine blk_drew ?_ | refine blk_alloc ?_ _)); exact BK453.out)) : gb455 ≠ gb453)); clear BK453; clear HB; have BK453 := n0_; have HB := n1_; have BK455 := n2_; have GW455 := n3_; have GE455 := n4_; have NB453_455 := n5_; have NB455_453 := n6_; clear n0_ n1_ n2_ n3_ n4_ n5_ n6_; clear hb hbox hg; have hnb30 := NB455_453.out; have hnc30 := NB453_455.out; obtain ⟨hcz31_0, hcz31_1, hcz31_2, hcz31_3, hcz31_4, hcz31_5, hfz31_0, hfz31_1, hfz31_2, hfz31_3, hfz31_4, hfz31_5⟩ := blk6_ BK455.out) | (go_at_call 55; (with_reducible refine (ssi_Judge_1.calls ((rd_T26 l0 x19_1).f0) ((rd_T26 l0 x19_1).f1) ((rd_T26 l0 x19_1).f2) ((rd_T26 l0 x19_1).f3) _ _ ((rd_T26 l0 x19_1).f4) _ _ ((rd_T26 l0 x19_1).f5) false _ ?side1 ?side2 ?side3 ?side4 A7.out).mono ?_); (case side1 => exact Kd.C_below HR454_4.out bl_); (case side2 => exact HC454_4.out); (case side3 => exact Kd.C_below HR454_5.out bl_); (case side4 => exact HC454_5.out); rintro e w32 ⟨rfl, hb⟩; have n0_ := Aside0.mk (blk_below (g := gb453) (o := .cells #[.int .u64 a1_0, .int .u64 a1_1, .int .u64 a1_2, .int .u64 a1_3, .slice A1_4 l1_4.length c1_4, .slice A1_5 l1_5.length c1_5] 26 (0, 0)) (by (with_reducible repeat (first | refine blk_drewN ?_ _ | refine blk_drew ?_ | refine blk_alloc ?_ _)); refine blk_far ?_ NB453_455.out _; (with_reducible repeat (first | refine blk_drewN ?_ _ | refine blk_drew ?_ | refine blk_alloc ?_ _)); refine blk_far ?_ NB453_455.out _; (with_reducible repeat (first | refine blk_drewN ?_ _ | refine blk_drew ?_ | refine blk_alloc ?_ _)); refine blk_far ?_ NB453_455.out _; (with_reducible repeat (first | refine blk_drewN ?_ _ | refine blk_drew ?_ | refine blk_alloc ?_ _)); refine blk_far ?_ NB453_455.out _; (with_reducible repeat (first | refine blk_drewN ?_ _ | refine blk_drew ?_ | refine blk_alloc ?_ _)); refine blk_far ?_ NB453_455.out _; (with_reducible repeat (first | refine blk_drewN ?_ _ | refine blk_drew ?_ | refine blk_alloc ?_ _)); refine blk_far ?_ NB453_455.out _; (with_reducible repeat (first | refine blk_drewN ?_ _ | refine blk_drew ?_ | refine blk_alloc ?_ _)); exact BK453.out) hb); have n1_ := Aside0.mk (blk_below (g := gb455) (o := .cells #[.int .u64 ((rd_T26 l0 x19_1).f0), .int .u64 ((rd_T26 l0 x19_1).f1), .int .u64 ((rd_T26 l0 x19_1).f2), .int .u64 ((rd_T26 l0 x19_1).f3), .slice A454_4 ((rd_T26 l0 x19_1).f4).length c454_4, .slice A454_5 ((rd_T26 l0 x19_1).f5).length c454_5] 26 (0, 0)) (by (with_reducible repeat (first | refine blk_drewN ?_ _ | refine blk_drew ?_ | refine blk_alloc ?_ _)); refine blk_put (cs := #[.int .u64 ((rd_T26 l0 x19_1).f0), .int .u64 ((rd_T26 l0 x19_1).f1), .int .u64 ((rd_T26 l0 x19_1).f2), .int .u64 ((rd_T26 l0 x19_1).f3), .slice A454_4 ((rd_T26 l0 x19_1).f4).length c454_4, .slice none 0 0]) ?_ 5 _ rfl; refine blk_put (cs := #[.int .u64 ((rd_T26 l0 x19_1).f0), .int .u64 ((rd_T26 l0 x19_1).f1), .int .u64 ((rd_T26 l0 x19_1).f2), .int .u64 ((rd_T26 l0 x19_1).f3), .slice none 0 0, .slice none 0 0]) ?_ 4 _ rfl; refine blk_put (cs := #[.int .u64 ((rd_T26 l0 x19_1).f0), .int .u64 ((rd_T26 l0 x19_1).f1), .int .u64 ((rd_T26 l0 x19_1).f2), .int .u64 0, .slice none 0 0, .slice none 0 0]) ?_ 3 _ rfl; refine blk_put (cs := #[.int .u64 ((rd_T26 l0 x19_1).f0), .int .u64 ((rd_T26 l0 x19_1).f1), .int .u64 0, .int .u64 0, .slice none 0 0, .slice none 0 0]) ?_ 2 _ rfl; refine blk_put (cs := #[.int .u64 ((rd_T26 l0 x19_1).f0), .int .u64 0, .int .u64 0, .int .u64 0, .slice none 0 0, .slice none 0 0]) ?_ 1 _ rfl; refine blk_put (cs := #[.int .u64 0, .int .u64 0, .int .u64 0, .int .u64 0, .slice none 0 0, .slice none 0 0]) ?_ 0 _ rfl; exact BK455.out) hb); have n2_ := Aside0.mk (below_step bl_ hb); clear BK453; clear BK455; clear HB; have BK453 := n0_; have BK455 := n1_; have HB := n2_; clear n0_ n1_ n2_; (try clear hb); (try clear hb2); (try clear hk); (try clear hi)))
       go_roundg k1
       case measure => have := HK1.out; omega
       case rel => exact ⟨(x7_1), (x8_1), (wrap64 (x19_1 + 1)), (by first | rfl | (simp; done) | (simp [*]; done)), (by first | rfl | (simp; done) | (simp [*]; done)), (by first | rfl | (simp; done) | (simp [*]; done)), H', ⟨by have := HK1.out; omega⟩, ⟨by (with_reducible repeat (first | refine blk_drewN ?_ _ | refine blk_drew ?_ | refine blk_alloc ?_ _)); exact BK453.out⟩, ⟨bl_⟩⟩
     ·rw [if_neg c6] at H
      exact absurd H (by simp)
    ·rw [if_neg c5] at H
     exact absurd H (by simp)
   ·rw [if_neg c4] at H
    have c4b0 : decide (x19_1 < (l0.length : Int)) = false := decide_eq_false c4
    clear c4; have H' := Aside0.mk H; clear H
    go_wp2
    (try (go_step3; (try go_wp2)))
    (try (go_step3; (try go_wp2)))
    go_loopg [11, 12, 13, 40] k1 (fun kq v11 v12 v13 v40 w' => ∃ (x11_2 : Int) (x12_2 : Bool) (x13_2 : Bool) (x40_2 : Int), v11 = .int .u64 x11_2 ∧ v12 = .bool x12_2 ∧ v13 = .bool x13_2 ∧ v40 = .int .i64 x40_2 ∧ Aside0 (ssi_Judge.l1 kq x7_1 x8_1 x11_2 x12_2 x13_2 l0 (l0.length : Int) x40_2 a1_0 a1_1 a1_2 a1_3 l1_4 l1_5 = some (r1, r2)) ∧ Aside0 (kq ≤ k1) ∧ Aside0 (w'.heap[gb453]? = some (.cells #[.int .u64 a1_0, .int .u64 a1_1, .int .u64 a1_2, .int .u64 a1_3, (.slice A1_4 l1_4.length c1_4), (.slice A1_5 l1_5.length c1_5)] 26 (0, 0))) ∧ Aside0 (Below w.heap.size w w'))
    case atStart => exact ⟨(0), (false), (false), (0), (by first | rfl | (simp; done) | (simp [*]; done)), (by first | rfl | (simp; done) | (simp [*]; done)), (by first | rfl | (simp; done) | (simp [*]; done)), (by first | rfl | (simp; done) | (simp [*]; done)), H', ⟨Nat.le_refl _⟩, ⟨by (with_reducible repeat (first | refine blk_drewN ?_ _ | refine blk_drew ?_ | refine blk_alloc ?_ _)); exact BK453.out⟩, ⟨bl_⟩⟩
    case round =>
     clear H'; obtain ⟨x11_2, x12_2, x13_2, x40_2, rfl, rfl, rfl, rfl, HA, HK2, BK453, HB⟩ := hrel
     cases gk with
     | zero => exact absurd HA.out (by simp [ssi_Judge.l1])
     | succ k2 =>
      have H := HA.out
      clear HA
      simp only [ssi_Judge.l1] at H
      by_cases c33 : x40_2 < (l0.length : Int)
      ·rw [if_pos c33] at H
       have c33b0 : decide (x40_2 < (l0.length : Int)) = true := decide_eq_true c33
       clear c33
       by_cases c34 : 0 ≤ x40_2
       ·rw [if_pos c34] at H
        have c34b0 : decide (0 ≤ x40_2) = true := decide_eq_true c34
        clear c34
        by_cases c35 : x40_2 < (l0.length : Int)
        ·rw [if_pos c35] at H
         have c35b0 : decide (x40_2 < (l0.length : Int)) = true := decide_eq_true c35
         clear c35; have HC36 := Aside0.mk H; clear H
         have p459 : 0 ≤ (x40_2 : Int) := od_
         have q459 : x40_2 < (l0.length : Int) := od_
         obtain ⟨ad459, A459_4, c459_4, A459_5, c459_5, e459, hx459_0, hx459_1, hx459_2, hx459_3, hx459_4, hx459_5, hl459_4, hi459_4, hl459_5, hi459_5⟩ := at_T26 HR0.out x40_2 p459 q459; cases e459
         replace hx459_0 := up_ HB.out hx459_0
         replace hx459_1 := up_ HB.out hx459_1
         replace hx459_2 := up_ HB.out hx459_2
         replace hx459_3 := up_ HB.out hx459_3
         replace hx459_4 := up_ HB.out hx459_4
         replace hx459_5 := up_ HB.out hx459_5
         have HR459_4 := Aside0.mk hi459_4; have HC459_4 := Aside0.mk hl459_4; clear hi459_4 hl459_4; have HR459_5 := Aside0.mk hi459_5; have HC459_5 := Aside0.mk hl459_5; clear hi459_5 hl459_5; replace p459 := eq_true p459; replace q459 := eq_true q459
         go_upto_region 13 with (first | ((with_reducible refine gate_dst (N := 15) rfl ?_); (try (refine gate_guard (by rfl) ?_; dsimp only)); refine box_event ?hg (N := 15) ?hd (cs := #[.int .u64 0, .int .u64 0, .int .u64 0, .int .u64 0, .slice none 0 0, .slice none 0 0]) (t := 26) ?hr ?_; (case hd => rfl); (case hg => rfl); (case hr => first | (go_simp; done) | (go_simp; rfl)); intro gb460 hg w37 hbox hb; have n0_ := Aside0.mk (blk_below (g := gb453) (o := .cells #[.int .u64 a1_0, .int .u64 a1_1, .int .u64 a1_2, .int .u64 a1_3, .slice A1_4 l1_4.length c1_4, .slice A1_5 l1_5.length c1_5] 26 (0, 0)) (by (with_reducible repeat (first | refine blk_drewN ?_ _ | refine blk_drew ?_ | refine blk_alloc ?_ _)); exact BK453.out) hb); have n1_ := Aside0.mk (below_step bl_ hb); have n2_ := Aside0.mk (hbox); have n3_ := Aside0.mk (bsz_ hg : w.heap.size ≤ gb460); have n4_ := Aside0.mk (bsz_ hg : w.heap.size ≤ gb460); have n5_ := Aside0.mk ((by rw [hg]; exact Nat.ne_of_lt (blk_lt (g := gb453) (o := .cells #[.int .u64 a1_0, .int .u64 a1_1, .int .u64 a1_2, .int .u64 a1_3, .slice A1_4 l1_4.length c1_4, .slice A1_5 l1_5.length c1_5] 26 (0, 0)) (by (with_reducible repeat (first | refine blk_drewN ?_ _ | refine blk_drew ?_ | refine blk_alloc ?_ _)); exact BK453.out)) : gb453 ≠ gb460)); have n6_ := Aside0.mk ((by rw [hg]; exact Nat.ne_of_gt (blk_lt (g := gb453) (o := .cells #[.int .u64 a1_0, .int .u64 a1_1, .int .u64 a1_2, .int .u64 a1_3, .slice A1_4 l1_4.length c1_4, .slice A1_5 l1_5.length c1_5] 26 (0, 0)) (by (with_reducible repeat (first | refine blk_drewN ?_ _ | refine blk_drew ?_ | refine blk_alloc ?_ _)); exact BK453.out)) : gb460 ≠ gb453)); clear BK453; clear HB; have BK453 := n0_; have HB := n1_; have BK460 := n2_; have GW460 := n3_; have GE460 := n4_; have NB453_460 := n5_; have NB460_453 := n6_; clear n0_ n1_ n2_ n3_ n4_ n5_ n6_; clear hb hbox hg; have hnb38 := NB460_453.out; have hnc38 := NB453_460.out; obtain ⟨hcz39_0, hcz39_1, hcz39_2, hcz39_3, hcz39_4, hcz39_5, hfz39_0, hfz39_1, hfz39_2, hfz39_3, hfz39_4, hfz39_5⟩ := blk6_ BK460.out))
         (try simp only [Act.put, List.setIfInBounds_toArray, List.set_cons_zero, List.set_cons_succ])
         go_cut [55] (fun v55 wc => ∃ (kq : Nat) (x55_35 : Bool), v55 = .bool x55_35 ∧ Aside0 (ssi_Judge.j2 kq x7_1 x8_1 x11_2 x12_2 x13_2 l0 (l0.length : Int) x40_2 x55_35 a1_0 a1_1 a1_2 a1_3 l1_4 l1_5 ((rd_T26 l0 x40_2).f0) ((rd_T26 l0 x40_2).f1) ((rd_T26 l0 x40_2).f2) ((rd_T26 l0 x40_2).f3) ((rd_T26 l0 x40_2).f4) ((rd_T26 l0 x40_2).f5) = some (r1, r2)) ∧ Aside0 (kq ≤ k2) ∧ Aside0 (wc.heap[gb453]? = some (.cells #[.int .u64 a1_0, .int .u64 a1_1, .int .u64 a1_2, .int .u64 a1_3, (.slice A1_4 l1_4.length c1_4), (.slice A1_5 l1_5.length c1_5)] 26 (0, 0))) ∧ Aside0 (wc.heap[gb460]? = some (.cells #[.int .u64 ((rd_T26 l0 x40_2).f0), .int .u64 ((rd_T26 l0 x40_2).f1), .int .u64 ((rd_T26 l0 x40_2).f2), .int .u64 ((rd_T26 l0 x40_2).f3), (.slice A459_4 ((rd_T26 l0 x40_2).f4).length c459_4), (.slice A459_5 ((rd_T26 l0 x40_2).f5).length c459_5)] 26 (0, 0))) ∧ Aside0 (Below w.heap.size w wc))
         case first =>
          have H := HC36.out
          clear HC36; replace H := Option.bind_eq_some_iff.mp H; obtain ⟨t461, A400, H⟩ := H
          replace H : (if t461 = true then ((span_Meet.f l1_4 ((rd_T26 l0 x40_2).f5)).bind fun t462 => (ssi_Judge.j2 k2 x7_1 x8_1 x11_2 x12_2 x13_2 l0 (l0.length : Int) x40_2 (!t462) a1_0 a1_1 a1_2 a1_3 l1_4 l1_5 ((rd_T26 l0 x40_2).f0) ((rd_T26 l0 x40_2).f1) ((rd_T26 l0 x40_2).f2) ((rd_T26 l0 x40_2).f3) ((rd_T26 l0 x40_2).f4) ((rd_T26 l0 x40_2).f5))) else (ssi_Judge.j2 k2 x7_1 x8_1 x11_2 x12_2 x13_2 l0 (l0.length : Int) x40_2 true a1_0 a1_1 a1_2 a1_3 l1_4 l1_5 ((rd_T26 l0 x40_2).f0) ((rd_T26 l0 x40_2).f1) ((rd_T26 l0 x40_2).f2) ((rd_T26 l0 x40_2).f3) ((rd_T26 l0 x40_2).f4) ((rd_T26 l0 x40_2).f5))) = some (r1, r2) := H
          have A40 := Aside0.mk A400; clear A400
          by_cases c41 : t461 = true
          ·subst c41
           have H1 : ((span_Meet.f l1_4 ((rd_T26 l0 x40_2).f5)).bind fun t462 => (ssi_Judge.j2 k2 x7_1 x8_1 x11_2 x12_2 x13_2 l0 (l0.length : Int) x40_2 (!t462) a1_0 a1_1 a1_2 a1_3 l1_4 l1_5 ((rd_T26 l0 x40_2).f0) ((rd_T26 l0 x40_2).f1) ((rd_T26 l0 x40_2).f2) ((rd_T26 l0 x40_2).f3) ((rd_T26 l0 x40_2).f4) ((rd_T26 l0 x40_2).f5))) = some (r1, r2) := by rw [if_pos rfl] at H; exact H
           clear H; have H := H1; clear H1; replace H := Option.bind_eq_some_iff.mp H; obtain ⟨t462, A420, H⟩ := H
           replace H : (ssi_Judge.j2 k2 x7_1 x8_1 x11_2 x12_2 x13_2 l0 (l0.length : Int) x40_2 (!t462) a1_0 a1_1 a1_2 a1_3 l1_4 l1_5 ((rd_T26 l0 x40_2).f0) ((rd_T26 l0 x40_2).f1) ((rd_T26 l0 x40_2).f2) ((rd_T26 l0 x40_2).f3) ((rd_T26 l0 x40_2).f4) ((rd_T26 l0 x40_2).f5)) = some (r1, r2) := H
           have A42 := Aside0.mk A420; clear A420; have H' := Aside0.mk H; clear H
           have hnb43 := NB460_453.out
           have hnc43 := NB453_460.out
           obtain ⟨hcz44_0, hcz44_1, hcz44_2, hcz44_3, hcz44_4, hcz44_5, hfz44_0, hfz44_1, hfz44_2, hfz44_3, hfz44_4, hfz44_5⟩ := blk6_ BK460.out
           go_wp2_with (first | (go_at_call 55; (with_reducible refine (ssi_Judge_1.calls ((rd_T26 l0 x40_2).f0) ((rd_T26 l0 x40_2).f1) ((rd_T26 l0 x40_2).f2) ((rd_T26 l0 x40_2).f3) _ _ ((rd_T26 l0 x40_2).f4) _ _ ((rd_T26 l0 x40_2).f5) true _ ?side1 ?side2 ?side3 ?side4 A40.out).mono ?_); (case side1 => exact Kd.C_below HR459_4.out bl_); (case side2 => exact HC459_4.out); (case side3 => exact Kd.C_below HR459_5.out bl_); (case side4 => exact HC459_5.out); rintro e w45 ⟨rfl, hb⟩; have n0_ := Aside0.mk (blk_below (g := gb453) (o := .cells #[.int .u64 a1_0, .int .u64 a1_1, .int .u64 a1_2, .int .u64 a1_3, .slice A1_4 l1_4.length c1_4, .slice A1_5 l1_5.length c1_5] 26 (0, 0)) (by (with_reducible repeat (first | refine blk_drewN ?_ _ | refine blk_drew ?_ | refine blk_alloc ?_ _)); refine blk_far ?_ NB453_460.out _; (with_reducible repeat (first | refine blk_drewN ?_ _ | refine blk_drew ?_ | refine blk_alloc ?_ _)); refine blk_far ?_ NB453_460.out _; (with_reducible repeat (first | refine blk_drewN ?_ _ | refine blk_drew ?_ | refine blk_alloc ?_ _)); refine blk_far ?_ NB453_460.out _; (with_reducible repeat (first | refine blk_drewN ?_ _ | refine blk_drew ?_ | refine blk_alloc ?_ _)); refine blk_far ?_ NB453_460.out _; (with_reducible repeat (first | refine blk_drewN ?_ _ | refine blk_drew ?_ | refine blk_alloc ?_ _)); refine blk_far ?_ NB453_460.out _; (with_reducible repeat (first | refine blk_drewN ?_ _ | refine blk_drew ?_ | refine blk_alloc ?_ _)); refine blk_far ?_ NB453_460.out _; (with_reducible repeat (first | refine blk_drewN ?_ _ | refine blk_drew ?_ | refine blk_alloc ?_ _)); exact BK453.out) hb); have n1_ := Aside0.mk (blk_below (g := gb460) (o := .cells #[.int .u64 ((rd_T26 l0 x40_2).f0), .int .u64 ((rd_T26 l0 x40_2).f1), .int .u64 ((rd_T26 l0 x40_2).f2), .int .u64 ((rd_T26 l0 x40_2).f3), .slice A459_4 ((rd_T26 l0 x40_2).f4).length c459_4, .slice A459_5 ((rd_T26 l0 x40_2).f5).length c459_5] 26 (0, 0)) (by (with_reducible repeat (first | refine blk_drewN ?_ _ | refine blk_drew ?_ | refine blk_alloc ?_ _)); refine blk_put (cs := #[.int .u64 ((rd_T26 l0 x40_2).f0), .int .u64 ((rd_T26 l0 x40_2).f1), .int .u64 ((rd_T26 l0 x40_2).f2), .int .u64 ((rd_T26 l0 x40_2).f3), .slice A459_4 ((rd_T26 l0 x40_2).f4).length c459_4, .slice none 0 0]) ?_ 5 _ rfl; refine blk_put (cs := #[.int .u64 ((rd_T26 l0 x40_2).f0), .int .u64 ((rd_T26 l0 x40_2).f1), .int .u64 ((rd_T26 l0 x40_2).f2), .int .u64 ((rd_T26 l0 x40_2).f3), .slice none 0 0, .slice none 0 0]) ?_ 4 _ rfl; refine blk_put (cs := #[.int .u64 ((rd_T26 l0 x40_2).f0), .int .u64 ((rd_T26 l0 x40_2).f1), .int .u64 ((rd_T26 l0 x40_2).f2), .int .u64 0, .slice none 0 0, .slice none 0 0]) ?_ 3 _ rfl; refine blk_put (cs := #[.int .u64 ((rd_T26 l0 x40_2).f0), .int .u64 ((rd_T26 l0 x40_2).f1), .int .u64 0, .int .u64 0, .slice none 0 0, .slice none 0 0]) ?_ 2 _ rfl; refine blk_put (cs := #[.int .u64 ((rd_T26 l0 x40_2).f0), .int .u64 0, .int .u64 0, .int .u64 0, .slice none 0 0, .slice none 0 0]) ?_ 1 _ rfl; refine blk_put (cs := #[.int .u64 0, .int .u64 0, .int .u64 0, .int .u64 0, .slice none 0 0, .slice none 0 0]) ?_ 0 _ rfl; exact BK460.out) hb); have n2_ := Aside0.mk (below_step bl_ hb); clear BK453; clear BK460; clear HB; have BK453 := n0_; have BK460 := n1_; have HB := n2_; clear n0_ n1_ n2_; (try clear hb); (try clear hb2); (try clear hk); (try clear hi); obtain ⟨hcz46_0, hcz46_1, hcz46_2, hcz46_3, hcz46_4, hcz46_5, hfz46_0, hfz46_1, hfz46_2, hfz46_3, hfz46_4, hfz46_5⟩ := blk6_ BK453.out; obtain ⟨hcz47_0, hcz47_1, hcz47_2, hcz47_3, hcz47_4, hcz47_5, hfz47_0, hfz47_1, hfz47_2, hfz47_3, hfz47_4, hfz47_5⟩ := blk6_ BK460.out) | (go_at_call 37; (with_reducible refine (span_Meet.calls _ _ l1_4 _ _ ((rd_T26 l0 x40_2).f5) t462 _ ?side1 ?side2 ?side3 ?side4 A42.out).mono ?_); (case side1 => exact (Kd.C_below HR1_4.out HB.out)); (case side2 => exact HC1_4.out); (case side3 => exact (Kd.C_below HR459_5.out HB.out)); (case side4 => exact HC459_5.out); rintro e w48 ⟨rfl, hb⟩; have n0_ := Aside0.mk (blk_below (g := gb453) (o := .cells #[.int .u64 a1_0, .int .u64 a1_1, .int .u64 a1_2, .int .u64 a1_3, .slice A1_4 l1_4.length c1_4, .slice A1_5 l1_5.length c1_5] 26 (0, 0)) (by (with_reducible repeat (first | refine blk_drewN ?_ _ | refine blk_drew ?_ | refine blk_alloc ?_ _)); exact BK453.out) hb); have n1_ := Aside0.mk (blk_below (g := gb460) (o := .cells #[.int .u64 ((rd_T26 l0 x40_2).f0), .int .u64 ((rd_T26 l0 x40_2).f1), .int .u64 ((rd_T26 l0 x40_2).f2), .int .u64 ((rd_T26 l0 x40_2).f3), .slice A459_4 ((rd_T26 l0 x40_2).f4).length c459_4, .slice A459_5 ((rd_T26 l0 x40_2).f5).length c459_5] 26 (0, 0)) (by (with_reducible repeat (first | refine blk_drewN ?_ _ | refine blk_drew ?_ | refine blk_alloc ?_ _)); exact BK460.out) hb); have n2_ := Aside0.mk (below_step bl_ hb); clear BK453; clear BK460; clear HB; have BK453 := n0_; have BK460 := n1_; have HB := n2_; clear n0_ n1_ n2_; (try clear hb); (try clear hb2); (try clear hk); (try clear hi)))
           go_meet
           case rel => exact ⟨_, (!t462), (by first | rfl | (simp; done) | (simp [*]; done)), H', ⟨by have := HK1.out; have := HK2.out; first | omega | exact Nat.le_refl _⟩, ⟨by (with_reducible repeat (first | refine blk_drewN ?_ _ | refine blk_drew ?_ | refine blk_alloc ?_ _)); exact BK453.out⟩, ⟨by (with_reducible repeat (first | refine blk_drewN ?_ _ | refine blk_drew ?_ | refine blk_alloc ?_ _)); exact BK460.out⟩, ⟨bl_⟩⟩
          ·replace c41 := Bool.eq_false_iff.mpr c41
           subst c41
           have H1 : (ssi_Judge.j2 k2 x7_1 x8_1 x11_2 x12_2 x13_2 l0 (l0.length : Int) x40_2 true a1_0 a1_1 a1_2 a1_3 l1_4 l1_5 ((rd_T26 l0 x40_2).f0) ((rd_T26 l0 x40_2).f1) ((rd_T26 l0 x40_2).f2) ((rd_T26 l0 x40_2).f3) ((rd_T26 l0 x40_2).f4) ((rd_T26 l0 x40_2).f5)) = some (r1, r2) := by rw [if_neg (show ¬ (false = true) by decide)] at H; exact H
           clear H; have H := H1; clear H1; have H' := Aside0.mk H; clear H
           have hnb49 := NB460_453.out
           have hnc49 := NB453_460.out
           obtain ⟨hcz50_0, hcz50_1, hcz50_2, hcz50_3, hcz50_4, hcz50_5, hfz50_0, hfz50_1, hfz50_2, hfz50_3, hfz50_4, hfz50_5⟩ := blk6_ BK460.out
           go_wp2_with (first | (go_at_call 55; (with_reducible refine (ssi_Judge_1.calls ((rd_T26 l0 x40_2).f0) ((rd_T26 l0 x40_2).f1) ((rd_T26 l0 x40_2).f2) ((rd_T26 l0 x40_2).f3) _ _ ((rd_T26 l0 x40_2).f4) _ _ ((rd_T26 l0 x40_2).f5) false _ ?side1 ?side2 ?side3 ?side4 A40.out).mono ?_); (case side1 => exact Kd.C_below HR459_4.out bl_); (case side2 => exact HC459_4.out); (case side3 => exact Kd.C_below HR459_5.out bl_); (case side4 => exact HC459_5.out); rintro e w51 ⟨rfl, hb⟩; have n0_ := Aside0.mk (blk_below (g := gb453) (o := .cells #[.int .u64 a1_0, .int .u64 a1_1, .int .u64 a1_2, .int .u64 a1_3, .slice A1_4 l1_4.length c1_4, .slice A1_5 l1_5.length c1_5] 26 (0, 0)) (by (with_reducible repeat (first | refine blk_drewN ?_ _ | refine blk_drew ?_ | refine blk_alloc ?_ _)); refine blk_far ?_ NB453_460.out _; (with_reducible repeat (first | refine blk_drewN ?_ _ | refine blk_drew ?_ | refine blk_alloc ?_ _)); refine blk_far ?_ NB453_460.out _; (with_reducible repeat (first | refine blk_drewN ?_ _ | refine blk_drew ?_ | refine blk_alloc ?_ _)); refine blk_far ?_ NB453_460.out _; (with_reducible repeat (first | refine blk_drewN ?_ _ | refine blk_drew ?_ | refine blk_alloc ?_ _)); refine blk_far ?_ NB453_460.out _; (with_reducible repeat (first | refine blk_drewN ?_ _ | refine blk_drew ?_ | refine blk_alloc ?_ _)); refine blk_far ?_ NB453_460.out _; (with_reducible repeat (first | refine blk_drewN ?_ _ | refine blk_drew ?_ | refine blk_alloc ?_ _)); refine blk_far ?_ NB453_460.out _; (with_reducible repeat (first | refine blk_drewN ?_ _ | refine blk_drew ?_ | refine blk_alloc ?_ _)); exact BK453.out) hb); have n1_ := Aside0.mk (blk_below (g := gb460) (o := .cells #[.int .u64 ((rd_T26 l0 x40_2).f0), .int .u64 ((rd_T26 l0 x40_2).f1), .int .u64 ((rd_T26 l0 x40_2).f2), .int .u64 ((rd_T26 l0 x40_2).f3), .slice A459_4 ((rd_T26 l0 x40_2).f4).length c459_4, .slice A459_5 ((rd_T26 l0 x40_2).f5).length c459_5] 26 (0, 0)) (by (with_reducible repeat (first | refine blk_drewN ?_ _ | refine blk_drew ?_ | refine blk_alloc ?_ _)); refine blk_put (cs := #[.int .u64 ((rd_T26 l0 x40_2).f0), .int .u64 ((rd_T26 l0 x40_2).f1), .int .u64 ((rd_T26 l0 x40_2).f2), .int .u64 ((rd_T26 l0 x40_2).f3), .slice A459_4 ((rd_T26 l0 x40_2).f4).length c459_4, .slice none 0 0]) ?_ 5 _ rfl; refine blk_put (cs := #[.int .u64 ((rd_T26 l0 x40_2).f0), .int .u64 ((rd_T26 l0 x40_2).f1), .int .u64 ((rd_T26 l0 x40_2).f2), .int .u64 ((rd_T26 l0 x40_2).f3), .slice none 0 0, .slice none 0 0]) ?_ 4 _ rfl; refine blk_put (cs := #[.int .u64 ((rd_T26 l0 x40_2).f0), .int .u64 ((rd_T26 l0 x40_2).f1), .int .u64 ((rd_T26 l0 x40_2).f2), .int .u64 0, .slice none 0 0, .slice none 0 0]) ?_ 3 _ rfl; refine blk_put (cs := #[.int .u64 ((rd_T26 l0 x40_2).f0), .int .u64 ((rd_T26 l0 x40_2).f1), .int .u64 0, .int .u64 0, .slice none 0 0, .slice none 0 0]) ?_ 2 _ rfl; refine blk_put (cs := #[.int .u64 ((rd_T26 l0 x40_2).f0), .int .u64 0, .int .u64 0, .int .u64 0, .slice none 0 0, .slice none 0 0]) ?_ 1 _ rfl; refine blk_put (cs := #[.int .u64 0, .int .u64 0, .int .u64 0, .int .u64 0, .slice none 0 0, .slice none 0 0]) ?_ 0 _ rfl; exact BK460.out) hb); have n2_ := Aside0.mk (below_step bl_ hb); clear BK453; clear BK460; clear HB; have BK453 := n0_; have BK460 := n1_; have HB := n2_; clear n0_ n1_ n2_; (try clear hb); (try clear hb2); (try clear hk); (try clear hi)))
           go_meet
           case rel => exact ⟨_, (true), (by first | rfl | (simp; done) | (simp [*]; done)), H', ⟨by have := HK1.out; have := HK2.out; first | omega | exact Nat.le_refl _⟩, ⟨by (with_reducible repeat (first | refine blk_drewN ?_ _ | refine blk_drew ?_ | refine blk_alloc ?_ _)); exact BK453.out⟩, ⟨by (with_reducible repeat (first | refine blk_drewN ?_ _ | refine blk_drew ?_ | refine blk_alloc ?_ _)); exact BK460.out⟩, ⟨bl_⟩⟩
         case rest =>
          clear HC36; obtain ⟨kq, x55_35, rfl, HA, HJ35, BK453, BK460, HB⟩ := hcut
          cases kq with
          | zero => exact absurd HA.out (by simp [ssi_Judge.j2])
          | succ kj35 =>
           have H := HA.out
           clear HA
           simp only [ssi_Judge.j2] at H
           by_cases c52 : x55_35 = true
           ·subst c52
            have H1 : (ssi_Judge.l1 kj35 x7_1 x8_1 x11_2 x12_2 x13_2 l0 (l0.length : Int) (wrap64 (x40_2 + 1)) a1_0 a1_1 a1_2 a1_3 l1_4 l1_5) = some (r1, r2) := by rw [if_pos rfl] at H; exact H
            clear H; have H := H1; clear H1; have H' := Aside0.mk H; clear H
            go_wp2
            go_roundg kj35
            case measure => have := HK1.out; have := HK2.out; have := HJ35.out; omega
            case rel => exact ⟨(x11_2), (x12_2), (x13_2), (wrap64 (x40_2 + 1)), (by first | rfl | (simp; done) | (simp [*]; done)), (by first | rfl | (simp; done) | (simp [*]; done)), (by first | rfl | (simp; done) | (simp [*]; done)), (by first | rfl | (simp; done) | (simp [*]; done)), H', ⟨by have := HK1.out; have := HK2.out; have := HJ35.out; omega⟩, ⟨by (with_reducible repeat (first | refine blk_drewN ?_ _ | refine blk_drew ?_ | refine blk_alloc ?_ _)); exact BK453.out⟩, ⟨bl_⟩⟩
           ·replace c52 := Bool.eq_false_iff.mpr c52
            subst c52
            have H1 : (if ((rd_T26 l0 x40_2).f3) = 0 then (ssi_Judge.j3 kj35 x7_1 x8_1 x11_2 x12_2 x13_2 l0 (l0.length : Int) x40_2 false a1_0 a1_1 a1_2 a1_3 l1_4 l1_5 ((rd_T26 l0 x40_2).f0) ((rd_T26 l0 x40_2).f1) ((rd_T26 l0 x40_2).f2) ((rd_T26 l0 x40_2).f3) ((rd_T26 l0 x40_2).f4) ((rd_T26 l0 x40_2).f5)) else (ssi_Judge.j3 kj35 x7_1 x8_1 x11_2 x12_2 x13_2 l0 (l0.length : Int) x40_2 (decide ((l1_5.length : Int) > 0)) a1_0 a1_1 a1_2 a1_3 l1_4 l1_5 ((rd_T26 l0 x40_2).f0) ((rd_T26 l0 x40_2).f1) ((rd_T26 l0 x40_2).f2) ((rd_T26 l0 x40_2).f3) ((rd_T26 l0 x40_2).f4) ((rd_T26 l0 x40_2).f5))) = some (r1, r2) := by rw [if_neg (show ¬ (false = true) by decide)] at H; exact H
            clear H; have H := H1; clear H1; have HC53 := Aside0.mk H; clear H
            go_upto_region 14 with (fail)
            go_cut [56] (fun v56 wc => ∃ (kq : Nat) (x56_52 : Bool), v56 = .bool x56_52 ∧ Aside0 (ssi_Judge.j3 kq x7_1 x8_1 x11_2 x12_2 x13_2 l0 (l0.length : Int) x40_2 x56_52 a1_0 a1_1 a1_2 a1_3 l1_4 l1_5 ((rd_T26 l0 x40_2).f0) ((rd_T26 l0 x40_2).f1) ((rd_T26 l0 x40_2).f2) ((rd_T26 l0 x40_2).f3) ((rd_T26 l0 x40_2).f4) ((rd_T26 l0 x40_2).f5) = some (r1, r2)) ∧ Aside0 (kq ≤ kj35) ∧ Aside0 (wc.heap[gb453]? = some (.cells #[.int .u64 a1_0, .int .u64 a1_1, .int .u64 a1_2, .int .u64 a1_3, (.slice A1_4 l1_4.length c1_4), (.slice A1_5 l1_5.length c1_5)] 26 (0, 0))) ∧ Aside0 (wc.heap[gb460]? = some (.cells #[.int .u64 ((rd_T26 l0 x40_2).f0), .int .u64 ((rd_T26 l0 x40_2).f1), .int .u64 ((rd_T26 l0 x40_2).f2), .int .u64 ((rd_T26 l0 x40_2).f3), (.slice A459_4 ((rd_T26 l0 x40_2).f4).length c459_4), (.slice A459_5 ((rd_T26 l0 x40_2).f5).length c459_5)] 26 (0, 0))) ∧ Aside0 (Below w.heap.size w wc))
            case first =>
             have H := HC53.out
             clear HC53
             by_cases c54 : ((rd_T26 l0 x40_2).f3) = 0
             ·rw [if_pos c54] at H
              have c54b0 : (((rd_T26 l0 x40_2).f3) == 0) = true := beq_iff_eq.mpr c54
              have c54b1 : (((rd_T26 l0 x40_2).f3) != 0) = false := bne_eq_false_iff_eq.mpr c54
              clear c54
              (first | rw [c54b0] | (simp only [i64_w, i32_w]; rw [c54b0]) | skip)
              have H' := Aside0.mk H; clear H
              have hnb55 := NB460_453.out
              have hnc55 := NB453_460.out
              obtain ⟨hcz56_0, hcz56_1, hcz56_2, hcz56_3, hcz56_4, hcz56_5, hfz56_0, hfz56_1, hfz56_2, hfz56_3, hfz56_4, hfz56_5⟩ := blk6_ BK460.out
              go_wp2
              go_meet
              case rel => exact ⟨_, (false), (by first | rfl | (simp; done) | (simp [*]; done)), H', ⟨by have := HK1.out; have := HK2.out; have := HJ35.out; first | omega | exact Nat.le_refl _⟩, ⟨by (with_reducible repeat (first | refine blk_drewN ?_ _ | refine blk_drew ?_ | refine blk_alloc ?_ _)); exact BK453.out⟩, ⟨by (with_reducible repeat (first | refine blk_drewN ?_ _ | refine blk_drew ?_ | refine blk_alloc ?_ _)); exact BK460.out⟩, ⟨bl_⟩⟩
             ·rw [if_neg c54] at H
              have c54b0 : (((rd_T26 l0 x40_2).f3) == 0) = false := beq_eq_false_iff_ne.mpr c54
              have c54b1 : (((rd_T26 l0 x40_2).f3) != 0) = true := bne_iff_ne.mpr c54
              (first | rw [c54b0] | (simp only [i64_w, i32_w]; rw [c54b0]) | skip)
              have H' := Aside0.mk H; clear H
              have hnb57 := NB460_453.out
              have hnc57 := NB453_460.out
              obtain ⟨hcz58_0, hcz58_1, hcz58_2, hcz58_3, hcz58_4, hcz58_5, hfz58_0, hfz58_1, hfz58_2, hfz58_3, hfz58_4, hfz58_5⟩ := blk6_ BK460.out; obtain ⟨hcz59_0, hcz59_1, hcz59_2, hcz59_3, hcz59_4, hcz59_5, hfz59_0, hfz59_1, hfz59_2, hfz59_3, hfz59_4, hfz59_5⟩ := blk6_ BK453.out
              go_wp2
              go_meet
              case rel => exact ⟨_, (decide ((l1_5.length : Int) > 0)), (by first | rfl | (simp; done) | (simp [*]; done)), H', ⟨by have := HK1.out; have := HK2.out; have := HJ35.out; first | omega | exact Nat.le_refl _⟩, ⟨by (with_reducible repeat (first | refine blk_drewN ?_ _ | refine blk_drew ?_ | refine blk_alloc ?_ _)); exact BK453.out⟩, ⟨by (with_reducible repeat (first | refine blk_drewN ?_ _ | refine blk_drew ?_ | refine blk_alloc ?_ _)); exact BK460.out⟩, ⟨bl_⟩⟩
            case rest =>
             clear HC53; obtain ⟨kq, x56_52, rfl, HA, HJ52, BK453, BK460, HB⟩ := hcut
             cases kq with
             | zero => exact absurd HA.out (by simp [ssi_Judge.j3])
             | succ kj52 =>
              have H := HA.out
              clear HA
              simp only [ssi_Judge.j3] at H
              by_cases c60 : x56_52 = true
              ·subst c60
               have H1 : (some (0, 101)) = some (r1, r2) := by rw [if_pos rfl] at H; exact H
               clear H; have H := H1; clear H1
               simp only [Option.some.injEq, Prod.mk.injEq] at H
               obtain ⟨rfl, rfl⟩ := H
               go_wp2
               (try rw [Exit.noGoto_ret])
               go_ret2
               exact ⟨by first | rfl | (simp [errW_none, errW_some] <;> rfl) | (simp [*, errW_none, errW_some] <;> rfl), bl_⟩
              ·replace c60 := Bool.eq_false_iff.mpr c60
               subst c60
               have H1 : (if ((rd_T26 l0 x40_2).f3) = 0 then (ssi_Judge.j4 kj52 x7_1 x8_1 x11_2 x12_2 x13_2 l0 (l0.length : Int) x40_2 false a1_0 a1_1 a1_2 a1_3 l1_4 l1_5 ((rd_T26 l0 x40_2).f0) ((rd_T26 l0 x40_2).f1) ((rd_T26 l0 x40_2).f2) ((rd_T26 l0 x40_2).f3) ((rd_T26 l0 x40_2).f4) ((rd_T26 l0 x40_2).f5)) else (ssi_Judge.j4 kj52 x7_1 x8_1 x11_2 x12_2 x13_2 l0 (l0.length : Int) x40_2 (decide (((rd_T26 l0 x40_2).f3) ≤ a1_2)) a1_0 a1_1 a1_2 a1_3 l1_4 l1_5 ((rd_T26 l0 x40_2).f0) ((rd_T26 l0 x40_2).f1) ((rd_T26 l0 x40_2).f2) ((rd_T26 l0 x40_2).f3) ((rd_T26 l0 x40_2).f4) ((rd_T26 l0 x40_2).f5))) = some (r1, r2) := by rw [if_neg (show ¬ (false = true) by decide)] at H; exact H
               clear H; have H := H1; clear H1; have HC61 := Aside0.mk H; clear H
               go_upto_region 15 with (fail)
               go_cut [66] (fun v66 wc => ∃ (kq : Nat) (x66_60 : Bool), v66 = .bool x66_60 ∧ Aside0 (ssi_Judge.j4 kq x7_1 x8_1 x11_2 x12_2 x13_2 l0 (l0.length : Int) x40_2 x66_60 a1_0 a1_1 a1_2 a1_3 l1_4 l1_5 ((rd_T26 l0 x40_2).f0) ((rd_T26 l0 x40_2).f1) ((rd_T26 l0 x40_2).f2) ((rd_T26 l0 x40_2).f3) ((rd_T26 l0 x40_2).f4) ((rd_T26 l0 x40_2).f5) = some (r1, r2)) ∧ Aside0 (kq ≤ kj52) ∧ Aside0 (wc.heap[gb453]? = some (.cells #[.int .u64 a1_0, .int .u64 a1_1, .int .u64 a1_2, .int .u64 a1_3, (.slice A1_4 l1_4.length c1_4), (.slice A1_5 l1_5.length c1_5)] 26 (0, 0))) ∧ Aside0 (wc.heap[gb460]? = some (.cells #[.int .u64 ((rd_T26 l0 x40_2).f0), .int .u64 ((rd_T26 l0 x40_2).f1), .int .u64 ((rd_T26 l0 x40_2).f2), .int .u64 ((rd_T26 l0 x40_2).f3), (.slice A459_4 ((rd_T26 l0 x40_2).f4).length c459_4), (.slice A459_5 ((rd_T26 l0 x40_2).f5).length c459_5)] 26 (0, 0))) ∧ Aside0 (Below w.heap.size w wc))
               case first =>
                have H := HC61.out
                clear HC61
                by_cases c62 : ((rd_T26 l0 x40_2).f3) = 0
                ·rw [if_pos c62] at H
                 have c62b0 : (((rd_T26 l0 x40_2).f3) == 0) = true := beq_iff_eq.mpr c62
                 have c62b1 : (((rd_T26 l0 x40_2).f3) != 0) = false := bne_eq_false_iff_eq.mpr c62
                 clear c62
                 (first | rw [c62b0] | (simp only [i64_w, i32_w]; rw [c62b0]) | skip)
                 have H' := Aside0.mk H; clear H
                 have hnb63 := NB460_453.out
                 have hnc63 := NB453_460.out
                 obtain ⟨hcz64_0, hcz64_1, hcz64_2, hcz64_3, hcz64_4, hcz64_5, hfz64_0, hfz64_1, hfz64_2, hfz64_3, hfz64_4, hfz64_5⟩ := blk6_ BK460.out
                 go_wp2
                 go_meet
                 case rel => exact ⟨_, (false), (by first | rfl | (simp; done) | (simp [*]; done)), H', ⟨by have := HK1.out; have := HK2.out; have := HJ35.out; have := HJ52.out; first | omega | exact Nat.le_refl _⟩, ⟨by (with_reducible repeat (first | refine blk_drewN ?_ _ | refine blk_drew ?_ | refine blk_alloc ?_ _)); exact BK453.out⟩, ⟨by (with_reducible repeat (first | refine blk_drewN ?_ _ | refine blk_drew ?_ | refine blk_alloc ?_ _)); exact BK460.out⟩, ⟨bl_⟩⟩
                ·rw [if_neg c62] at H
                 have c62b0 : (((rd_T26 l0 x40_2).f3) == 0) = false := beq_eq_false_iff_ne.mpr c62
                 have c62b1 : (((rd_T26 l0 x40_2).f3) != 0) = true := bne_iff_ne.mpr c62
                 (first | rw [c62b0] | (simp only [i64_w, i32_w]; rw [c62b0]) | skip)
                 have H' := Aside0.mk H; clear H
                 have hnb65 := NB460_453.out
                 have hnc65 := NB453_460.out
                 obtain ⟨hcz66_0, hcz66_1, hcz66_2, hcz66_3, hcz66_4, hcz66_5, hfz66_0, hfz66_1, hfz66_2, hfz66_3, hfz66_4, hfz66_5⟩ := blk6_ BK460.out; obtain ⟨hcz67_0, hcz67_1, hcz67_2, hcz67_3, hcz67_4, hcz67_5, hfz67_0, hfz67_1, hfz67_2, hfz67_3, hfz67_4, hfz67_5⟩ := blk6_ BK453.out
                 go_wp2
                 go_meet
                 case rel => exact ⟨_, (decide (((rd_T26 l0 x40_2).f3) ≤ a1_2)), (by first | rfl | (simp; done) | (simp [*]; done)), H', ⟨by have := HK1.out; have := HK2.out; have := HJ35.out; have := HJ52.out; first | omega | exact Nat.le_refl _⟩, ⟨by (with_reducible repeat (first | refine blk_drewN ?_ _ | refine blk_drew ?_ | refine blk_alloc ?_ _)); exact BK453.out⟩, ⟨by (with_reducible repeat (first | refine blk_drewN ?_ _ | refine blk_drew ?_ | refine blk_alloc ?_ _)); exact BK460.out⟩, ⟨bl_⟩⟩
               case rest =>
                clear HC61; obtain ⟨kq, x66_60, rfl, HA, HJ60, BK453, BK460, HB⟩ := hcut
                cases kq with
                | zero => exact absurd HA.out (by simp [ssi_Judge.j4])
                | succ kj60 =>
                 have H := HA.out
                 clear HA
                 simp only [ssi_Judge.j4] at H
                 by_cases c68 : x66_60 = true
                 ·subst c68
                  have H1 : (some (0, 101)) = some (r1, r2) := by rw [if_pos rfl] at H; exact H
                  clear H; have H := H1; clear H1
                  simp only [Option.some.injEq, Prod.mk.injEq] at H
                  obtain ⟨rfl, rfl⟩ := H
                  go_wp2
                  (try rw [Exit.noGoto_ret])
                  go_ret2
                  exact ⟨by first | rfl | (simp [errW_none, errW_some] <;> rfl) | (simp [*, errW_none, errW_some] <;> rfl), bl_⟩
                 ·replace c68 := Bool.eq_false_iff.mpr c68
                  subst c68
                  have H1 : (if x8_1 = true then (ssi_Judge.j5 kj60 x7_1 x8_1 x11_2 x12_2 x13_2 l0 (l0.length : Int) x40_2 (decide (((rd_T26 l0 x40_2).f0) ≤ x7_1)) a1_0 a1_1 a1_2 a1_3 l1_4 l1_5 ((rd_T26 l0 x40_2).f0) ((rd_T26 l0 x40_2).f1) ((rd_T26 l0 x40_2).f2) ((rd_T26 l0 x40_2).f3) ((rd_T26 l0 x40_2).f4) ((rd_T26 l0 x40_2).f5)) else (ssi_Judge.j5 kj60 x7_1 x8_1 x11_2 x12_2 x13_2 l0 (l0.length : Int) x40_2 false a1_0 a1_1 a1_2 a1_3 l1_4 l1_5 ((rd_T26 l0 x40_2).f0) ((rd_T26 l0 x40_2).f1) ((rd_T26 l0 x40_2).f2) ((rd_T26 l0 x40_2).f3) ((rd_T26 l0 x40_2).f4) ((rd_T26 l0 x40_2).f5))) = some (r1, r2) := by rw [if_neg (show ¬ (false = true) by decide)] at H; exact H
                  clear H; have H := H1; clear H1; have HC69 := Aside0.mk H; clear H
                  go_upto_region 16 with (fail)
                  go_cut [77] (fun v77 wc => ∃ (kq : Nat) (x77_68 : Bool), v77 = .bool x77_68 ∧ Aside0 (ssi_Judge.j5 kq x7_1 x8_1 x11_2 x12_2 x13_2 l0 (l0.length : Int) x40_2 x77_68 a1_0 a1_1 a1_2 a1_3 l1_4 l1_5 ((rd_T26 l0 x40_2).f0) ((rd_T26 l0 x40_2).f1) ((rd_T26 l0 x40_2).f2) ((rd_T26 l0 x40_2).f3) ((rd_T26 l0 x40_2).f4) ((rd_T26 l0 x40_2).f5) = some (r1, r2)) ∧ Aside0 (kq ≤ kj60) ∧ Aside0 (wc.heap[gb453]? = some (.cells #[.int .u64 a1_0, .int .u64 a1_1, .int .u64 a1_2, .int .u64 a1_3, (.slice A1_4 l1_4.length c1_4), (.slice A1_5 l1_5.length c1_5)] 26 (0, 0))) ∧ Aside0 (wc.heap[gb460]? = some (.cells #[.int .u64 ((rd_T26 l0 x40_2).f0), .int .u64 ((rd_T26 l0 x40_2).f1), .int .u64 ((rd_T26 l0 x40_2).f2), .int .u64 ((rd_T26 l0 x40_2).f3), (.slice A459_4 ((rd_T26 l0 x40_2).f4).length c459_4), (.slice A459_5 ((rd_T26 l0 x40_2).f5).length c459_5)] 26 (0, 0))) ∧ Aside0 (Below w.heap.size w wc))
                  case first =>
                   have H := HC69.out
                   clear HC69
                   by_cases c70 : x8_1 = true
                   ·subst c70
                    have H1 : (ssi_Judge.j5 kj60 x7_1 true x11_2 x12_2 x13_2 l0 (l0.length : Int) x40_2 (decide (((rd_T26 l0 x40_2).f0) ≤ x7_1)) a1_0 a1_1 a1_2 a1_3 l1_4 l1_5 ((rd_T26 l0 x40_2).f0) ((rd_T26 l0 x40_2).f1) ((rd_T26 l0 x40_2).f2) ((rd_T26 l0 x40_2).f3) ((rd_T26 l0 x40_2).f4) ((rd_T26 l0 x40_2).f5)) = some (r1, r2) := by rw [if_pos rfl] at H; exact H
                    clear H; have H := H1; clear H1; have H' := Aside0.mk H; clear H
                    have hnb71 := NB460_453.out
                    have hnc71 := NB453_460.out
                    obtain ⟨hcz72_0, hcz72_1, hcz72_2, hcz72_3, hcz72_4, hcz72_5, hfz72_0, hfz72_1, hfz72_2, hfz72_3, hfz72_4, hfz72_5⟩ := blk6_ BK460.out
                    go_wp2
                    go_meet
                    case rel => exact ⟨_, (decide (((rd_T26 l0 x40_2).f0) ≤ x7_1)), (by first | rfl | (simp; done) | (simp [*]; done)), H', ⟨by have := HK1.out; have := HK2.out; have := HJ35.out; have := HJ52.out; have := HJ60.out; first | omega | exact Nat.le_refl _⟩, ⟨by (with_reducible repeat (first | refine blk_drewN ?_ _ | refine blk_drew ?_ | refine blk_alloc ?_ _)); exact BK453.out⟩, ⟨by (with_reducible repeat (first | refine blk_drewN ?_ _ | refine blk_drew ?_ | refine blk_alloc ?_ _)); exact BK460.out⟩, ⟨bl_⟩⟩
                   ·replace c70 := Bool.eq_false_iff.mpr c70
                    subst c70
                    have H1 : (ssi_Judge.j5 kj60 x7_1 false x11_2 x12_2 x13_2 l0 (l0.length : Int) x40_2 false a1_0 a1_1 a1_2 a1_3 l1_4 l1_5 ((rd_T26 l0 x40_2).f0) ((rd_T26 l0 x40_2).f1) ((rd_T26 l0 x40_2).f2) ((rd_T26 l0 x40_2).f3) ((rd_T26 l0 x40_2).f4) ((rd_T26 l0 x40_2).f5)) = some (r1, r2) := by rw [if_neg (show ¬ (false = true) by decide)] at H; exact H
                    clear H; have H := H1; clear H1; have H' := Aside0.mk H; clear H
                    go_wp2
                    go_meet
                    case rel => exact ⟨_, (false), (by first | rfl | (simp; done) | (simp [*]; done)), H', ⟨by have := HK1.out; have := HK2.out; have := HJ35.out; have := HJ52.out; have := HJ60.out; first | omega | exact Nat.le_refl _⟩, ⟨by (with_reducible repeat (first | refine blk_drewN ?_ _ | refine blk_drew ?_ | refine blk_alloc ?_ _)); exact BK453.out⟩, ⟨by (with_reducible repeat (first | refine blk_drewN ?_ _ | refine blk_drew ?_ | refine blk_alloc ?_ _)); exact BK460.out⟩, ⟨bl_⟩⟩
                  case rest =>
                   clear HC69; obtain ⟨kq, x77_68, rfl, HA, HJ68, BK453, BK460, HB⟩ := hcut
                   cases kq with
                   | zero => exact absurd HA.out (by simp [ssi_Judge.j5])
                   | succ kj68 =>
                    have H := HA.out
                    clear HA
                    simp only [ssi_Judge.j5] at H
                    by_cases c73 : x77_68 = true
                    ·subst c73
                     have H1 : (some (0, 101)) = some (r1, r2) := by rw [if_pos rfl] at H; exact H
                     clear H; have H := H1; clear H1
                     simp only [Option.some.injEq, Prod.mk.injEq] at H
                     obtain ⟨rfl, rfl⟩ := H
                     go_wp2
                     (try rw [Exit.noGoto_ret])
                     go_ret2
                     exact ⟨by first | rfl | (simp [errW_none, errW_some] <;> rfl) | (simp [*, errW_none, errW_some] <;> rfl), bl_⟩
                    ·replace c73 := Bool.eq_false_iff.mpr c73
                     subst c73
                     have H1 : (if x12_2 = true then (if ((rd_T26 l0 x40_2).f0) < x11_2 then (ssi_Judge.l1 kj68 x7_1 x8_1 ((rd_T26 l0 x40_2).f0) true x13_2 l0 (l0.length : Int) (wrap64 (x40_2 + 1)) a1_0 a1_1 a1_2 a1_3 l1_4 l1_5) else (ssi_Judge.l1 kj68 x7_1 x8_1 x11_2 x12_2 x13_2 l0 (l0.length : Int) (wrap64 (x40_2 + 1)) a1_0 a1_1 a1_2 a1_3 l1_4 l1_5)) else (ssi_Judge.l1 kj68 x7_1 x8_1 ((rd_T26 l0 x40_2).f0) true x13_2 l0 (l0.length : Int) (wrap64 (x40_2 + 1)) a1_0 a1_1 a1_2 a1_3 l1_4 l1_5)) = some (r1, r2) := by rw [if_neg (show ¬ (false = true) by decide)] at H; exact H
                     clear H; have H := H1; clear H1
                     by_cases c74 : x12_2 = true
                     ·subst c74
                      have H1 : (if ((rd_T26 l0 x40_2).f0) < x11_2 then (ssi_Judge.l1 kj68 x7_1 x8_1 ((rd_T26 l0 x40_2).f0) true x13_2 l0 (l0.length : Int) (wrap64 (x40_2 + 1)) a1_0 a1_1 a1_2 a1_3 l1_4 l1_5) else (ssi_Judge.l1 kj68 x7_1 x8_1 x11_2 true x13_2 l0 (l0.length : Int) (wrap64 (x40_2 + 1)) a1_0 a1_1 a1_2 a1_3 l1_4 l1_5)) = some (r1, r2) := by rw [if_pos rfl] at H; exact H
                      clear H; have H := H1; clear H1
                      by_cases c75 : ((rd_T26 l0 x40_2).f0) < x11_2
                      ·rw [if_pos c75] at H
                       have c75b0 : decide (((rd_T26 l0 x40_2).f0) < x11_2) = true := decide_eq_true c75
                       clear c75; have H' := Aside0.mk H; clear H
                       have hnb76 := NB460_453.out
                       have hnc76 := NB453_460.out
                       obtain ⟨hcz77_0, hcz77_1, hcz77_2, hcz77_3, hcz77_4, hcz77_5, hfz77_0, hfz77_1, hfz77_2, hfz77_3, hfz77_4, hfz77_5⟩ := blk6_ BK460.out
                       go_wp2
                       go_roundg kj68
                       case measure => have := HK1.out; have := HK2.out; have := HJ35.out; have := HJ52.out; have := HJ60.out; have := HJ68.out; omega
                       case rel => exact ⟨(((rd_T26 l0 x40_2).f0)), (true), (x13_2), (wrap64 (x40_2 + 1)), (by first | rfl | (simp; done) | (simp [*]; done)), (by first | rfl | (simp; done) | (simp [*]; done)), (by first | rfl | (simp; done) | (simp [*]; done)), (by first | rfl | (simp; done) | (simp [*]; done)), H', ⟨by have := HK1.out; have := HK2.out; have := HJ35.out; have := HJ52.out; have := HJ60.out; have := HJ68.out; omega⟩, ⟨by (with_reducible repeat (first | refine blk_drewN ?_ _ | refine blk_drew ?_ | refine blk_alloc ?_ _)); exact BK453.out⟩, ⟨bl_⟩⟩
                      ·rw [if_neg c75] at H
                       have c75b0 : decide (((rd_T26 l0 x40_2).f0) < x11_2) = false := decide_eq_false c75
                       clear c75; have H' := Aside0.mk H; clear H
                       have hnb78 := NB460_453.out
                       have hnc78 := NB453_460.out
                       obtain ⟨hcz79_0, hcz79_1, hcz79_2, hcz79_3, hcz79_4, hcz79_5, hfz79_0, hfz79_1, hfz79_2, hfz79_3, hfz79_4, hfz79_5⟩ := blk6_ BK460.out
                       go_wp2
                       go_roundg kj68
                       case measure => have := HK1.out; have := HK2.out; have := HJ35.out; have := HJ52.out; have := HJ60.out; have := HJ68.out; omega
                       case rel => exact ⟨(x11_2), (true), (x13_2), (wrap64 (x40_2 + 1)), (by first | rfl | (simp; done) | (simp [*]; done)), (by first | rfl | (simp; done) | (simp [*]; done)), (by first | rfl | (simp; done) | (simp [*]; done)), (by first | rfl | (simp; done) | (simp [*]; done)), H', ⟨by have := HK1.out; have := HK2.out; have := HJ35.out; have := HJ52.out; have := HJ60.out; have := HJ68.out; omega⟩, ⟨by (with_reducible repeat (first | refine blk_drewN ?_ _ | refine blk_drew ?_ | refine blk_alloc ?_ _)); exact BK453.out⟩, ⟨bl_⟩⟩
                     ·replace c74 := Bool.eq_false_iff.mpr c74
                      subst c74
                      have H1 : (ssi_Judge.l1 kj68 x7_1 x8_1 ((rd_T26 l0 x40_2).f0) true x13_2 l0 (l0.length : Int) (wrap64 (x40_2 + 1)) a1_0 a1_1 a1_2 a1_3 l1_4 l1_5) = some (r1, r2) := by rw [if_neg (show ¬ (false = true) by decide)] at H; exact H
                      clear H; have H := H1; clear H1; have H' := Aside0.mk H; clear H
                      have hnb80 := NB460_453.out
                      have hnc80 := NB453_460.out
                      obtain ⟨hcz81_0, hcz81_1, hcz81_2, hcz81_3, hcz81_4, hcz81_5, hfz81_0, hfz81_1, hfz81_2, hfz81_3, hfz81_4, hfz81_5⟩ := blk6_ BK460.out
                      go_wp2
                      go_roundg kj68
                      case measure => have := HK1.out; have := HK2.out; have := HJ35.out; have := HJ52.out; have := HJ60.out; have := HJ68.out; omega
                      case rel => exact ⟨(((rd_T26 l0 x40_2).f0)), (true), (x13_2), (wrap64 (x40_2 + 1)), (by first | rfl | (simp; done) | (simp [*]; done)), (by first | rfl | (simp; done) | (simp [*]; done)), (by first | rfl | (simp; done) | (simp [*]; done)), (by first | rfl | (simp; done) | (simp [*]; done)), H', ⟨by have := HK1.out; have := HK2.out; have := HJ35.out; have := HJ52.out; have := HJ60.out; have := HJ68.out; omega⟩, ⟨by (with_reducible repeat (first | refine blk_drewN ?_ _ | refine blk_drew ?_ | refine blk_alloc ?_ _)); exact BK453.out⟩, ⟨bl_⟩⟩
        ·rw [if_neg c35] at H
         exact absurd H (by simp)
       ·rw [if_neg c34] at H
        exact absurd H (by simp)
      ·rw [if_neg c33] at H
       have c33b0 : decide (x40_2 < (l0.length : Int)) = false := decide_eq_false c33
       clear c33
       by_cases c82 : x13_2 = true
       ·subst c82
        have H1 : (some (0, 101)) = some (r1, r2) := by rw [if_pos rfl] at H; exact H
        clear H; have H := H1; clear H1
        simp only [Option.some.injEq, Prod.mk.injEq] at H
        obtain ⟨rfl, rfl⟩ := H
        go_wp2
        (try rw [Exit.noGoto_ret])
        go_ret2
        exact ⟨by first | rfl | (simp [errW_none, errW_some] <;> rfl) | (simp [*, errW_none, errW_some] <;> rfl), bl_⟩
       ·replace c82 := Bool.eq_false_iff.mpr c82
        subst c82
        have H1 : (some (x11_2, 0)) = some (r1, r2) := by rw [if_neg (show ¬ (false = true) by decide)] at H; exact H
        clear H; have H := H1; clear H1
        simp only [Option.some.injEq, Prod.mk.injEq] at H
        obtain ⟨rfl, rfl⟩ := H
        go_wp2
        (try rw [Exit.noGoto_ret])
        go_ret2
        exact ⟨by first | rfl | (simp [errW_none, errW_some] <;> rfl) | (simp [*, errW_none, errW_some] <;> rfl), bl_⟩
def conductorlaw10_at.f (a0 : ByteArray) : Option ((List (S41))) := (conductorref09_Point.f a0).bind fun bt463 => (some (([(⟨bt463.1, bt463.2⟩ : S41)] : List (S41))))
set_option maxHeartbeats 8000000 in
set_option maxRecDepth 100000 in
theorem conductorlaw10_at.calls (a0 : ByteArray) (r : List (S41)) (w : World) (h : conductorlaw10_at.f a0 = some r) :
  Calls Try.prog 53 #[.string a0] w fun e w' => ∃ v0_ : Value, e = .returned (v0_) ∧ Kd.R k41 41 w' w.heap.size (fun _ => True) v0_ r ∧ Below w.heap.size w w' := by
 have HB := Aside0.mk (Below.refl w.heap.size w)
 have H : ((conductorref09_Point.f a0).bind fun bt463 => (some (([(⟨bt463.1, bt463.2⟩ : S41)] : List (S41))))) = some r := h
 clear h; replace H := Option.bind_eq_some_iff.mp H; obtain ⟨⟨t463, t464⟩, A20, H⟩ := H
 replace H : (some (([(⟨t463, t464⟩ : S41)] : List (S41)))) = some r := H
 have A2 := Aside0.mk A20; clear A20
 obtain ⟨y465, hy465⟩ : ∃ y_ : List (S41), y_ = (([(⟨t463, t464⟩ : S41)] : List (S41))) := ⟨_, rfl⟩
 replace H : (some y465) = some r := by first | (rw [hy465]; with_reducible exact H) | (have H2_ := (Option.bind_some _ _).symm.trans H; rw [hy465]; with_reducible exact H2_) | (have H2_ := (Option.bind_some _ _).symm.trans H; with_reducible exact H2_) | with_reducible exact H | (rw [hy465]; exact H) | exact H
 have Ny465 := Aside0.mk hy465; clear hy465; obtain rfl := Option.some.inj H
 go_enter Try.func53, Try.ntmps53
 go_wp2_with (first | ((with_reducible refine gate_callee (f := 29) rfl ?_); refine goesL_ (some 4) rfl rfl Try.func29 (by kernel_rfl) rfl #[.string a0] rfl sa_ ?_; (with_reducible refine (conductorref09_Point.calls a0 t463 t464 _ A2.out).mono ?_); rintro e w3 ⟨rfl, hb⟩; refine ⟨_, rfl, ?_⟩; have n0_ := Aside0.mk (below_step bl_ hb); clear HB; have HB := n0_; clear n0_; (try clear hb); (try clear hb2); (try clear hk); (try clear hi)) | ((with_reducible refine gate_dst (N := 5) rfl ?_); refine Kd.R_lit k41 _ 41 ?hg (N := 5) ?hd (xs := ([(⟨t463, t464⟩ : S41)] : List (S41))) (inner := [.string t463, .string t464]) (ok := fun _ => True) (okp := fun _ => True) ?hr ?hp (fun _ hk => hk) trivial (Below.refl _ _) (Nat.le_refl _) (by simp) ?_; (case hd => rfl); (case hg => rfl); (case hr => first | (go_simp; done) | (go_simp; rfl)); (case hp => exact (Reps.c2 (show Kd.M k41 _ _ _ (⟨t463, t464⟩ : S41) [.string t463, .string t464] from (k41_mkM _ _ _ (⟨t463, t464⟩ : S41) )) (Reps.none _ _))); intro v466 w4 ho5 hb hg_ hnew_; clear hg_ hnew_; (first | rw [← Ny465.out] at ho5 | (simp only [Int.reduceToNat] at ho5; rw [← Ny465.out] at ho5)); have n0_ := Aside0.mk (Kd.R_lower ho5 (below_size bl_)); have n1_ := Aside0.mk (below_step bl_ hb); clear HB; have HO467 := n0_; have HB := n1_; clear n0_ n1_; clear hb ho5))
 go_ret
 exact ⟨_, by first | rfl | (simp [errW_none, errW_some] <;> rfl) | (simp [*, errW_none, errW_some] <;> rfl), by exact HO467.out, bl_⟩
end Go.Proofs.Ytjefihcbhdennaa.S
