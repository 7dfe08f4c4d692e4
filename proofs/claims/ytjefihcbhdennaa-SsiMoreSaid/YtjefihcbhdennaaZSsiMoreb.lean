/- Texts of this session, merged for the law SsiMore: S41. No condition. -/
import Derived.Test.YtjefihcbhdennaaZSsiMorea
namespace Go.Proofs.Ytjefihcbhdennaa.S
open Go.RowKit Go.Proofs.YtjefihcbhdennaaW.PrintWords Go.Proofs.YtjefihcbhdennaaW.PrintLast Go.Proofs.YtjefihcbhdennaaW.PrintMore
attribute [local go_sem] max2_int min2_int max2_str min2_str str_leq str_gtr str_geq max_two min_two max_three min_three max_four min_four   -- for this text's walks alone
set_option linter.unusedVariables false
set_option linter.unusedSimpArgs false
mutual
def ssi_Judge.l0 : Nat → List (S26) → Int → Bool → List (S26) → Int → Int → Int → Int → Int → Int → List (S41) → List (S41) → Option (Int × Int)
 | 0, _, _, _, _, _, _, _, _, _, _, _, _ => none
 | k + 1, x0, x7, x8, x17, x18, x19, x454000, x454001, x454002, x454003, x454004, x454005 => if x19 < x18 then (if 0 ≤ x19 then (if x19 < (x17.length : Int) then ((ssi_Judge_1.f ((rd_T26 x17 x19).f0) ((rd_T26 x17 x19).f1) ((rd_T26 x17 x19).f2) ((rd_T26 x17 x19).f3) ((rd_T26 x17 x19).f4) ((rd_T26 x17 x19).f5) x454002).bind fun t456 => (if t456 = true then ((span_Meet.f ((rd_T26 x17 x19).f4) x454005).bind fun t457 => (if t457 = true then ((ssi_last.f ((rd_T26 x17 x19).f0) ((rd_T26 x17 x19).f1) ((rd_T26 x17 x19).f2) ((rd_T26 x17 x19).f3) ((rd_T26 x17 x19).f4) ((rd_T26 x17 x19).f5)).bind fun t458 => (ssi_Judge.l0 k x0 (mx x7 t458) true x17 x18 (wrap64 (x19 + 1)) x454000 x454001 x454002 x454003 x454004 x454005)) else (ssi_Judge.l0 k x0 x7 x8 x17 x18 (wrap64 (x19 + 1)) x454000 x454001 x454002 x454003 x454004 x454005))) else (ssi_Judge.l0 k x0 x7 x8 x17 x18 (wrap64 (x19 + 1)) x454000 x454001 x454002 x454003 x454004 x454005))) else (none)) else (none)) else (ssi_Judge.l1 k x7 x8 0 false false x0 (x0.length : Int) 0 x454000 x454001 x454002 x454003 x454004 x454005)
def ssi_Judge.l1 : Nat → Int → Bool → Int → Bool → Bool → List (S26) → Int → Int → Int → Int → Int → Int → List (S41) → List (S41) → Option (Int × Int)
 | 0, _, _, _, _, _, _, _, _, _, _, _, _, _, _ => none
 | k + 1, x7, x8, x11, x12, x13, x38, x39, x40, x454000, x454001, x454002, x454003, x454004, x454005 => if x40 < x39 then (if 0 ≤ x40 then (if x40 < (x38.length : Int) then ((ssi_Judge_1.f ((rd_T26 x38 x40).f0) ((rd_T26 x38 x40).f1) ((rd_T26 x38 x40).f2) ((rd_T26 x38 x40).f3) ((rd_T26 x38 x40).f4) ((rd_T26 x38 x40).f5) x454002).bind fun t461 => (if t461 = true then ((span_Meet.f x454004 ((rd_T26 x38 x40).f5)).bind fun t462 => (ssi_Judge.j2 k x7 x8 x11 x12 x13 x38 x39 x40 (!t462) x454000 x454001 x454002 x454003 x454004 x454005 ((rd_T26 x38 x40).f0) ((rd_T26 x38 x40).f1) ((rd_T26 x38 x40).f2) ((rd_T26 x38 x40).f3) ((rd_T26 x38 x40).f4) ((rd_T26 x38 x40).f5))) else (ssi_Judge.j2 k x7 x8 x11 x12 x13 x38 x39 x40 true x454000 x454001 x454002 x454003 x454004 x454005 ((rd_T26 x38 x40).f0) ((rd_T26 x38 x40).f1) ((rd_T26 x38 x40).f2) ((rd_T26 x38 x40).f3) ((rd_T26 x38 x40).f4) ((rd_T26 x38 x40).f5)))) else (none)) else (none)) else (if x13 = true then (some (0, 101)) else (some (x11, 0)))
def ssi_Judge.j2 : Nat → Int → Bool → Int → Bool → Bool → List (S26) → Int → Int → Bool → Int → Int → Int → Int → List (S41) → List (S41) → Int → Int → Int → Int → List (S41) → List (S41) → Option (Int × Int)
 | 0, _, _, _, _, _, _, _, _, _, _, _, _, _, _, _, _, _, _, _, _, _ => none
 | k + 1, x7, x8, x11, x12, x13, x38, x39, x40, x55, x454000, x454001, x454002, x454003, x454004, x454005, x461000, x461001, x461002, x461003, x461004, x461005 => if x55 = true then (ssi_Judge.l1 k x7 x8 x11 x12 x13 x38 x39 (wrap64 (x40 + 1)) x454000 x454001 x454002 x454003 x454004 x454005) else (if x461003 = 0 then (ssi_Judge.j3 k x7 x8 x11 x12 x13 x38 x39 x40 false x454000 x454001 x454002 x454003 x454004 x454005 x461000 x461001 x461002 x461003 x461004 x461005) else (ssi_Judge.j3 k x7 x8 x11 x12 x13 x38 x39 x40 (decide ((x454005.length : Int) > 0)) x454000 x454001 x454002 x454003 x454004 x454005 x461000 x461001 x461002 x461003 x461004 x461005))
def ssi_Judge.j3 : Nat → Int → Bool → Int → Bool → Bool → List (S26) → Int → Int → Bool → Int → Int → Int → Int → List (S41) → List (S41) → Int → Int → Int → Int → List (S41) → List (S41) → Option (Int × Int)
 | 0, _, _, _, _, _, _, _, _, _, _, _, _, _, _, _, _, _, _, _, _, _ => none
 | k + 1, x7, x8, x11, x12, x13, x38, x39, x40, x56, x454000, x454001, x454002, x454003, x454004, x454005, x461000, x461001, x461002, x461003, x461004, x461005 => if x56 = true then (some (0, 101)) else (if x461003 = 0 then (ssi_Judge.j4 k x7 x8 x11 x12 x13 x38 x39 x40 false x454000 x454001 x454002 x454003 x454004 x454005 x461000 x461001 x461002 x461003 x461004 x461005) else (ssi_Judge.j4 k x7 x8 x11 x12 x13 x38 x39 x40 (decide (x461003 ≤ x454002)) x454000 x454001 x454002 x454003 x454004 x454005 x461000 x461001 x461002 x461003 x461004 x461005))
def ssi_Judge.j4 : Nat → Int → Bool → Int → Bool → Bool → List (S26) → Int → Int → Bool → Int → Int → Int → Int → List (S41) → List (S41) → Int → Int → Int → Int → List (S41) → List (S41) → Option (Int × Int)
 | 0, _, _, _, _, _, _, _, _, _, _, _, _, _, _, _, _, _, _, _, _, _ => none
 | k + 1, x7, x8, x11, x12, x13, x38, x39, x40, x66, x454000, x454001, x454002, x454003, x454004, x454005, x461000, x461001, x461002, x461003, x461004, x461005 => if x66 = true then (some (0, 101)) else (if x8 = true then (ssi_Judge.j5 k x7 x8 x11 x12 x13 x38 x39 x40 (decide (x461000 ≤ x7)) x454000 x454001 x454002 x454003 x454004 x454005 x461000 x461001 x461002 x461003 x461004 x461005) else (ssi_Judge.j5 k x7 x8 x11 x12 x13 x38 x39 x40 false x454000 x454001 x454002 x454003 x454004 x454005 x461000 x461001 x461002 x461003 x461004 x461005))
def ssi_Judge.j5 : Nat → Int → Bool → Int → Bool → Bool → List (S26) → Int → Int → Bool → Int → Int → Int → Int → List (S41) → List (S41) → Int → Int → Int → Int → List (S41) → List (S41) → Option (Int × Int)
 | 0, _, _, _, _, _, _, _, _, _, _, _, _, _, _, _, _, _, _, _, _, _ => none
 | k + 1, x7, x8, x11, x12, x13, x38, x39, x40, x77, x454000, x454001, x454002, x454003, x454004, x454005, x461000, x461001, x461002, x461003, x461004, x461005 => if x77 = true then (some (0, 101)) else (if x12 = true then (if x461000 < x11 then (ssi_Judge.l1 k x7 x8 x461000 true x13 x38 x39 (wrap64 (x40 + 1)) x454000 x454001 x454002 x454003 x454004 x454005) else (ssi_Judge.l1 k x7 x8 x11 x12 x13 x38 x39 (wrap64 (x40 + 1)) x454000 x454001 x454002 x454003 x454004 x454005)) else (ssi_Judge.l1 k x7 x8 x461000 true x13 x38 x39 (wrap64 (x40 + 1)) x454000 x454001 x454002 x454003 x454004 x454005))
end
def ssi_Judge.f (k : Nat) (l0 : List (S26)) (a1_0 : Int) (a1_1 : Int) (a1_2 : Int) (a1_3 : Int) (l1_4 : List (S41)) (l1_5 : List (S41)) : Option (Int × Int) := ssi_Judge.l0 k l0 0 false l0 (l0.length : Int) 0 a1_0 a1_1 a1_2 a1_3 l1_4 l1_5
theorem ssi_Judge.mono_l : ∀ k, (∀ y0 y1 y2 y3 y4 y5 y6 y7 y8 y9 y10 y11, LeO (ssi_Judge.l0 k y0 y1 y2 y3 y4 y5 y6 y7 y8 y9 y10 y11) (ssi_Judge.l0 (k + 1) y0 y1 y2 y3 y4 y5 y6 y7 y8 y9 y10 y11)) ∧ (∀ y0 y1 y2 y3 y4 y5 y6 y7 y8 y9 y10 y11 y12 y13, LeO (ssi_Judge.l1 k y0 y1 y2 y3 y4 y5 y6 y7 y8 y9 y10 y11 y12 y13) (ssi_Judge.l1 (k + 1) y0 y1 y2 y3 y4 y5 y6 y7 y8 y9 y10 y11 y12 y13)) ∧ (∀ y0 y1 y2 y3 y4 y5 y6 y7 y8 y9 y10 y11 y12 y13 y14 y15 y16 y17 y18 y19 y20, LeO (ssi_Judge.j2 k y0 y1 y2 y3 y4 y5 y6 y7 y8 y9 y10 y11 y12 y13 y14 y15 y16 y17 y18 y19 y20) (ssi_Judge.j2 (k + 1) y0 y1 y2 y3 y4 y5 y6 y7 y8 y9 y10 y11 y12 y13 y14 y15 y16 y17 y18 y19 y20)) ∧ (∀ y0 y1 y2 y3 y4 y5 y6 y7 y8 y9 y10 y11 y12 y13 y14 y15 y16 y17 y18 y19 y20, LeO (ssi_Judge.j3 k y0 y1 y2 y3 y4 y5 y6 y7 y8 y9 y10 y11 y12 y13 y14 y15 y16 y17 y18 y19 y20) (ssi_Judge.j3 (k + 1) y0 y1 y2 y3 y4 y5 y6 y7 y8 y9 y10 y11 y12 y13 y14 y15 y16 y17 y18 y19 y20)) ∧ (∀ y0 y1 y2 y3 y4 y5 y6 y7 y8 y9 y10 y11 y12 y13 y14 y15 y16 y17 y18 y19 y20, LeO (ssi_Judge.j4 k y0 y1 y2 y3 y4 y5 y6 y7 y8 y9 y10 y11 y12 y13 y14 y15 y16 y17 y18 y19 y20) (ssi_Judge.j4 (k + 1) y0 y1 y2 y3 y4 y5 y6 y7 y8 y9 y10 y11 y12 y13 y14 y15 y16 y17 y18 y19 y20)) ∧ (∀ y0 y1 y2 y3 y4 y5 y6 y7 y8 y9 y10 y11 y12 y13 y14 y15 y16 y17 y18 y19 y20, LeO (ssi_Judge.j5 k y0 y1 y2 y3 y4 y5 y6 y7 y8 y9 y10 y11 y12 y13 y14 y15 y16 y17 y18 y19 y20) (ssi_Judge.j5 (k + 1) y0 y1 y2 y3 y4 y5 y6 y7 y8 y9 y10 y11 y12 y13 y14 y15 y16 y17 y18 y19 y20))
 | 0 => ⟨fun _ _ _ _ _ _ _ _ _ _ _ _ r h => by simp [ssi_Judge.l0] at h, fun _ _ _ _ _ _ _ _ _ _ _ _ _ _ r h => by simp [ssi_Judge.l1] at h, fun _ _ _ _ _ _ _ _ _ _ _ _ _ _ _ _ _ _ _ _ _ r h => by simp [ssi_Judge.j2] at h, fun _ _ _ _ _ _ _ _ _ _ _ _ _ _ _ _ _ _ _ _ _ r h => by simp [ssi_Judge.j3] at h, fun _ _ _ _ _ _ _ _ _ _ _ _ _ _ _ _ _ _ _ _ _ r h => by simp [ssi_Judge.j4] at h, fun _ _ _ _ _ _ _ _ _ _ _ _ _ _ _ _ _ _ _ _ _ r h => by simp [ssi_Judge.j5] at h⟩
 | k + 1 => by
  obtain ⟨ih0, ih1, ih2, ih3, ih4, ih5⟩ := ssi_Judge.mono_l k
  refine ⟨?_, ?_, ?_, ?_, ?_, ?_⟩
  ·intro y0 y1 y2 y3 y4 y5 y6 y7 y8 y9 y10 y11
   unfold ssi_Judge.l0
   repeat' first
   | (with_reducible exact ih0 _ _ _ _ _ _ _ _ _ _ _ _)
   | (with_reducible exact ih1 _ _ _ _ _ _ _ _ _ _ _ _ _ _)
   | (with_reducible exact ih2 _ _ _ _ _ _ _ _ _ _ _ _ _ _ _ _ _ _ _ _ _)
   | (with_reducible exact ih3 _ _ _ _ _ _ _ _ _ _ _ _ _ _ _ _ _ _ _ _ _)
   | (with_reducible exact ih4 _ _ _ _ _ _ _ _ _ _ _ _ _ _ _ _ _ _ _ _ _)
   | (with_reducible exact ih5 _ _ _ _ _ _ _ _ _ _ _ _ _ _ _ _ _ _ _ _ _)
   | (with_reducible exact LeO.refl _)
   | (with_reducible exact LeO.none _)
   | (with_reducible refine LeO.ite ?_ ?_)
   | (with_reducible refine LeO.bind ?_ (fun _ => ?_))
   | exact ih0 _ _ _ _ _ _ _ _ _ _ _ _
   | exact ih1 _ _ _ _ _ _ _ _ _ _ _ _ _ _
   | exact ih2 _ _ _ _ _ _ _ _ _ _ _ _ _ _ _ _ _ _ _ _ _
   | exact ih3 _ _ _ _ _ _ _ _ _ _ _ _ _ _ _ _ _ _ _ _ _
   | exact ih4 _ _ _ _ _ _ _ _ _ _ _ _ _ _ _ _ _ _ _ _ _
   | exact ih5 _ _ _ _ _ _ _ _ _ _ _ _ _ _ _ _ _ _ _ _ _
   | exact LeO.none _
   | refine LeO.ite ?_ ?_
   | refine LeO.bind ?_ (fun _ => ?_)
  ·intro y0 y1 y2 y3 y4 y5 y6 y7 y8 y9 y10 y11 y12 y13
   unfold ssi_Judge.l1
   repeat' first
   | (with_reducible exact ih0 _ _ _ _ _ _ _ _ _ _ _ _)
   | (with_reducible exact ih1 _ _ _ _ _ _ _ _ _ _ _ _ _ _)
   | (with_reducible exact ih2 _ _ _ _ _ _ _ _ _ _ _ _ _ _ _ _ _ _ _ _ _)
   | (with_reducible exact ih3 _ _ _ _ _ _ _ _ _ _ _ _ _ _ _ _ _ _ _ _ _)
   | (with_reducible exact ih4 _ _ _ _ _ _ _ _ _ _ _ _ _ _ _ _ _ _ _ _ _)
   | (with_reducible exact ih5 _ _ _ _ _ _ _ _ _ _ _ _ _ _ _ _ _ _ _ _ _)
   | (with_reducible exact LeO.refl _)
   | (with_reducible exact LeO.none _)
   | (with_reducible refine LeO.ite ?_ ?_)
   | (with_reducible refine LeO.bind ?_ (fun _ => ?_))
   | exact ih0 _ _ _ _ _ _ _ _ _ _ _ _
   | exact ih1 _ _ _ _ _ _ _ _ _ _ _ _ _ _
   | exact ih2 _ _ _ _ _ _ _ _ _ _ _ _ _ _ _ _ _ _ _ _ _
   | exact ih3 _ _ _ _ _ _ _ _ _ _ _ _ _ _ _ _ _ _ _ _ _
   | exact ih4 _ _ _ _ _ _ _ _ _ _ _ _ _ _ _ _ _ _ _ _ _
   | exact ih5 _ _ _ _ _ _ _ _ _ _ _ _ _ _ _ _ _ _ _ _ _
   | exact LeO.none _
   | refine LeO.ite ?_ ?_
   | refine LeO.bind ?_ (fun _ => ?_)
  ·intro y0 y1 y2 y3 y4 y5 y6 y7 y8 y9 y10 y11 y12 y13 y14 y15 y16 y17 y18 y19 y20
   unfold ssi_Judge.j2
   repeat' first
   | (with_reducible exact ih0 _ _ _ _ _ _ _ _ _ _ _ _)
   | (with_reducible exact ih1 _ _ _ _ _ _ _ _ _ _ _ _ _ _)
   | (with_reducible exact ih2 _ _ _ _ _ _ _ _ _ _ _ _ _ _ _ _ _ _ _ _ _)
   | (with_reducible exact ih3 _ _ _ _ _ _ _ _ _ _ _ _ _ _ _ _ _ _ _ _ _)
   | (with_reducible exact ih4 _ _ _ _ _ _ _ _ _ _ _ _ _ _ _ _ _ _ _ _ _)
   | (with_reducible exact ih5 _ _ _ _ _ _ _ _ _ _ _ _ _ _ _ _ _ _ _ _ _)
   | (with_reducible exact LeO.refl _)
   | (with_reducible exact LeO.none _)
   | (with_reducible refine LeO.ite ?_ ?_)
   | (with_reducible refine LeO.bind ?_ (fun _ => ?_))
   | exact ih0 _ _ _ _ _ _ _ _ _ _ _ _
   | exact ih1 _ _ _ _ _ _ _ _ _ _ _ _ _ _
   | exact ih2 _ _ _ _ _ _ _ _ _ _ _ _ _ _ _ _ _ _ _ _ _
   | exact ih3 _ _ _ _ _ _ _ _ _ _ _ _ _ _ _ _ _ _ _ _ _
   | exact ih4 _ _ _ _ _ _ _ _ _ _ _ _ _ _ _ _ _ _ _ _ _
   | exact ih5 _ _ _ _ _ _ _ _ _ _ _ _ _ _ _ _ _ _ _ _ _
   | exact LeO.none _
   | refine LeO.ite ?_ ?_
   | refine LeO.bind ?_ (fun _ => ?_)
  ·intro y0 y1 y2 y3 y4 y5 y6 y7 y8 y9 y10 y11 y12 y13 y14 y15 y16 y17 y18 y19 y20
   unfold ssi_Judge.j3
   repeat' first
   | (with_reducible exact ih0 _ _ _ _ _ _ _ _ _ _ _ _)
   | (with_reducible exact ih1 _ _ _ _ _ _ _ _ _ _ _ _ _ _)
   | (with_reducible exact ih2 _ _ _ _ _ _ _ _ _ _ _ _ _ _ _ _ _ _ _ _ _)
   | (with_reducible exact ih3 _ _ _ _ _ _ _ _ _ _ _ _ _ _ _ _ _ _ _ _ _)
   | (with_reducible exact ih4 _ _ _ _ _ _ _ _ _ _ _ _ _ _ _ _ _ _ _ _ _)
   | (with_reducible exact ih5 _ _ _ _ _ _ _ _ _ _ _ _ _ _ _ _ _ _ _ _ _)
   | (with_reducible exact LeO.refl _)
   | (with_reducible exact LeO.none _)
   | (with_reducible refine LeO.ite ?_ ?_)
   | (with_reducible refine LeO.bind ?_ (fun _ => ?_))
   | exact ih0 _ _ _ _ _ _ _ _ _ _ _ _
   | exact ih1 _ _ _ _ _ _ _ _ _ _ _ _ _ _
   | exact ih2 _ _ _ _ _ _ _ _ _ _ _ _ _ _ _ _ _ _ _ _ _
   | exact ih3 _ _ _ _ _ _ _ _ _ _ _ _ _ _ _ _ _ _ _ _ _
   | exact ih4 _ _ _ _ _ _ _ _ _ _ _ _ _ _ _ _ _ _ _ _ _
   | exact ih5 _ _ _ _ _ _ _ _ _ _ _ _ _ _ _ _ _ _ _ _ _
   | exact LeO.none _
   | refine LeO.ite ?_ ?_
   | refine LeO.bind ?_ (fun _ => ?_)
  ·intro y0 y1 y2 y3 y4 y5 y6 y7 y8 y9 y10 y11 y12 y13 y14 y15 y16 y17 y18 y19 y20
   unfold ssi_Judge.j4
   repeat' first
   | (with_reducible exact ih0 _ _ _ _ _ _ _ _ _ _ _ _)
   | (with_reducible exact ih1 _ _ _ _ _ _ _ _ _ _ _ _ _ _)
   | (with_reducible exact ih2 _ _ _ _ _ _ _ _ _ _ _ _ _ _ _ _ _ _ _ _ _)
   | (with_reducible exact ih3 _ _ _ _ _ _ _ _ _ _ _ _ _ _ _ _ _ _ _ _ _)
   | (with_reducible exact ih4 _ _ _ _ _ _ _ _ _ _ _ _ _ _ _ _ _ _ _ _ _)
   | (with_reducible exact ih5 _ _ _ _ _ _ _ _ _ _ _ _ _ _ _ _ _ _ _ _ _)
   | (with_reducible exact LeO.refl _)
   | (with_reducible exact LeO.none _)
   | (with_reducible refine LeO.ite ?_ ?_)
   | (with_reducible refine LeO.bind ?_ (fun _ => ?_))
   | exact ih0 _ _ _ _ _ _ _ _ _ _ _ _
   | exact ih1 _ _ _ _ _ _ _ _ _ _ _ _ _ _
   | exact ih2 _ _ _ _ _ _ _ _ _ _ _ _ _ _ _ _ _ _ _ _ _
   | exact ih3 _ _ _ _ _ _ _ _ _ _ _ _ _ _ _ _ _ _ _ _ _
   | exact ih4 _ _ _ _ _ _ _ _ _ _ _ _ _ _ _ _ _ _ _ _ _
   | exact ih5 _ _ _ _ _ _ _ _ _ _ _ _ _ _ _ _ _ _ _ _ _
   | exact LeO.none _
   | refine LeO.ite ?_ ?_
   | refine LeO.bind ?_ (fun _ => ?_)
  ·intro y0 y1 y2 y3 y4 y5 y6 y7 y8 y9 y10 y11 y12 y13 y14 y15 y16 y17 y18 y19 y20
   unfold ssi_Judge.j5
   repeat' first
   | (with_reducible exact ih0 _ _ _ _ _ _ _ _ _ _ _ _)
   | (with_reducible exact ih1 _ _ _ _ _ _ _ _ _ _ _ _ _ _)
   | (with_reducible exact ih2 _ _ _ _ _ _ _ _ _ _ _ _ _ _ _ _ _ _ _ _ _)
   | (with_reducible exact ih3 _ _ _ _ _ _ _ _ _ _ _ _ _ _ _ _ _ _ _ _ _)
   | (with_reducible exact ih4 _ _ _ _ _ _ _ _ _ _ _ _ _ _ _ _ _ _ _ _ _)
   | (with_reducible exact ih5 _ _ _ _ _ _ _ _ _ _ _ _ _ _ _ _ _ _ _ _ _)
   | (with_reducible exact LeO.refl _)
   | (with_reducible exact LeO.none _)
   | (with_reducible refine LeO.ite ?_ ?_)
   | (with_reducible refine LeO.bind ?_ (fun _ => ?_))
   | exact ih0 _ _ _ _ _ _ _ _ _ _ _ _
   | exact ih1 _ _ _ _ _ _ _ _ _ _ _ _ _ _
   | exact ih2 _ _ _ _ _ _ _ _ _ _ _ _ _ _ _ _ _ _ _ _ _
   | exact ih3 _ _ _ _ _ _ _ _ _ _ _ _ _ _ _ _ _ _ _ _ _
   | exact ih4 _ _ _ _ _ _ _ _ _ _ _ _ _ _ _ _ _ _ _ _ _
   | exact ih5 _ _ _ _ _ _ _ _ _ _ _ _ _ _ _ _ _ _ _ _ _
   | exact LeO.none _
   | refine LeO.ite ?_ ?_
   | refine LeO.bind ?_ (fun _ => ?_)
theorem ssi_Judge.mono : ∀ a0 a1 a2 a3 a4 a5 a6 k, LeO (ssi_Judge.f k a0 a1 a2 a3 a4 a5 a6) (ssi_Judge.f (k + 1) a0 a1 a2 a3 a4 a5 a6) := by
 intro a0 a1 a2 a3 a4 a5 a6 k
 obtain ⟨ih0, ih1, ih2, ih3, ih4, ih5⟩ := ssi_Judge.mono_l k
 unfold ssi_Judge.f
 repeat' first
   | (with_reducible exact ih0 _ _ _ _ _ _ _ _ _ _ _ _)
   | (with_reducible exact ih1 _ _ _ _ _ _ _ _ _ _ _ _ _ _)
   | (with_reducible exact ih2 _ _ _ _ _ _ _ _ _ _ _ _ _ _ _ _ _ _ _ _ _)
   | (with_reducible exact ih3 _ _ _ _ _ _ _ _ _ _ _ _ _ _ _ _ _ _ _ _ _)
   | (with_reducible exact ih4 _ _ _ _ _ _ _ _ _ _ _ _ _ _ _ _ _ _ _ _ _)
   | (with_reducible exact ih5 _ _ _ _ _ _ _ _ _ _ _ _ _ _ _ _ _ _ _ _ _)
   | (with_reducible exact LeO.refl _)
   | (with_reducible exact LeO.none _)
   | (with_reducible refine LeO.ite ?_ ?_)
   | (with_reducible refine LeO.bind ?_ (fun _ => ?_))
   | exact ih0 _ _ _ _ _ _ _ _ _ _ _ _
   | exact ih1 _ _ _ _ _ _ _ _ _ _ _ _ _ _
   | exact ih2 _ _ _ _ _ _ _ _ _ _ _ _ _ _ _ _ _ _ _ _ _
   | exact ih3 _ _ _ _ _ _ _ _ _ _ _ _ _ _ _ _ _ _ _ _ _
   | exact ih4 _ _ _ _ _ _ _ _ _ _ _ _ _ _ _ _ _ _ _ _ _
   | exact ih5 _ _ _ _ _ _ _ _ _ _ _ _ _ _ _ _ _ _ _ _ _
   | exact LeO.none _
   | refine LeO.ite ?_ ?_
   | refine LeO.bind ?_ (fun _ => ?_)
set_option maxHeartbeats 8000000 in
set_option maxRecDepth 100000 in
theorem ssi_Judge.calls (k : Nat) (A0 : Option Addr) (c0 : Nat) (l0 : List (S26)) (a1_0 : Int) (a1_1 : Int) (a1_2 : Int) (a1_3 : Int) (A1_4 : Option Addr) (c1_4 : Nat) (l1_4 : List (S41)) (A1_5 : Option Addr) (c1_5 : Nat) (l1_5 : List (S41)) (r1 : Int) (r2 : Int) (w : World) (hr0 : Kd.C k26 w A0 l0.length l0) (hc0 : l0.length ≤ c0) (hr1_4 : Kd.C k41 w A1_4 l1_4.length l1_4) (hc1_4 : l1_4.length ≤ c1_4) (hr1_5 : Kd.C k41 w A1_5 l1_5.length l1_5) (hc1_5 : l1_5.length ≤ c1_5) (h : ssi_Judge.f k l0 a1_0 a1_1 a1_2 a1_3 l1_4 l1_5 = some (r1, r2)) :
  Calls Try.prog 18 #[.slice A0 l0.length c0, .agg #[.int .u64 a1_0, .int .u64 a1_1, .int .u64 a1_2, .int .u64 a1_3, .slice A1_4 l1_4.length c1_4, .slice A1_5 l1_5.length c1_5]] w fun e w' => e = .returned (.tuple #[.int .u64 r1, .int .i64 r2]) ∧ Below w.heap.size w w' := by
 have hu26 := Try.underlying26
 have HR0 := Aside0.mk hr0
 have HC0 := Aside0.mk hc0
 clear hr0 hc0
 have HR1_4 := Aside0.mk hr1_4
 have HC1_4 := Aside0.mk hc1_4
 clear hr1_4 hc1_4
 have HR1_5 := Aside0.mk hr1_5
 have HC1_5 := Aside0.mk hc1_5
 clear hr1_5 hc1_5
 have HB := Aside0.mk (Below.refl w.heap.size w)
 have H : (ssi_Judge.l0 k l0 0 false l0 (l0.length : Int) 0 a1_0 a1_1 a1_2 a1_3 l1_4 l1_5) = some (r1, r2) := h
 clear h
 have H' := Aside0.mk H
 clear H
 go_enter Try.func18, Try.ntmps18
 go_wp2_with (first | ((with_reducible refine gate_dst (N := 3) rfl ?_); (try (refine gate_guard (by rfl) ?_; dsimp only)); refine box_event ?hg (N := 3) ?hd (cs := #[.int .u64 a1_0, .int .u64 a1_1, .int .u64 a1_2, .int .u64 a1_3, .slice A1_4 l1_4.length c1_4, .slice A1_5 l1_5.length c1_5]) (t := 26) ?hr ?_; (case hd => rfl); (case hg => rfl); (case hr => first | (go_simp; done) | (go_simp; rfl)); intro gb453 hg w3 hbox hb; have n0_ := Aside0.mk (below_step (by repeat (first | (with_reducible first | exact HB.out | apply below_alloc | apply pw_below_drewN | apply below_drew1) | exact HB.out)) hb); have n1_ := Aside0.mk (hbox); have n2_ := Aside0.mk ((by rw [hg]; exact (below_size (by repeat (first | (with_reducible first | exact HB.out | apply below_alloc | apply pw_below_drewN | apply below_drew1) | exact HB.out))) : w.heap.size ≤ gb453)); have n3_ := Aside0.mk ((by rw [hg]; exact (below_size (by repeat (first | (with_reducible first | exact HB.out | apply below_alloc | apply pw_below_drewN | apply below_drew1) | exact HB.out))) : w.heap.size ≤ gb453)); clear HB; have HB := n0_; have BK453 := n1_; have GW453 := n2_; have GE453 := n3_; clear n0_ n1_ n2_ n3_; clear hb hbox hg))
 (try (go_step3; (try go_wp2)))
 (try (go_step3; (try go_wp2)))
 go_loopg [7, 8, 19] k (fun kq v7 v8 v19 w' => ∃ (x7_1 : Int) (x8_1 : Bool) (x19_1 : Int), v7 = .int .u64 x7_1 ∧ v8 = .bool x8_1 ∧ v19 = .int .i64 x19_1 ∧ Aside0 (ssi_Judge.l0 kq l0 x7_1 x8_1 l0 (l0.length : Int) x19_1 a1_0 a1_1 a1_2 a1_3 l1_4 l1_5 = some (r1, r2)) ∧ Aside0 (kq ≤ k) ∧ Aside0 (w'.heap[gb453]? = some (.cells #[.int .u64 a1_0, .int .u64 a1_1, .int .u64 a1_2, .int .u64 a1_3, (.slice A1_4 l1_4.length c1_4), (.slice A1_5 l1_5.length c1_5)] 26 (0, 0))) ∧ Aside0 (Below w.heap.size w w'))
 case atStart => exact ⟨(0), (false), (0), (by first | rfl | (simp; done) | (simp [*]; done)), (by first | rfl | (simp; done) | (simp [*]; done)), (by first | rfl | (simp; done) | (simp [*]; done)), H', ⟨Nat.le_refl _⟩, ⟨by (with_reducible repeat (first | refine blk_drewN ?_ _ | refine blk_drew ?_ | refine blk_alloc ?_ _)); exact BK453.out⟩, ⟨by repeat (first | (with_reducible first | exact HB.out | apply below_alloc | apply pw_below_drewN | apply below_drew1 | refine below_set ?_ GE453.out) | exact HB.out)⟩⟩
 case round =>
  clear H'
  try clear c1
  try clear p2
  obtain ⟨x7_1, x8_1, x19_1, rfl, rfl, rfl, HA, HK1, BK453, HB⟩ := hrel
  cases gk with
  | zero => exact absurd HA.out (by simp [ssi_Judge.l0])
  | succ k1 =>
   have H := HA.out
   clear HA
   simp only [ssi_Judge.l0] at H
   by_cases c4 : x19_1 < (l0.length : Int)
   ·rw [if_pos c4] at H
    have c4b0 : decide (x19_1 < (l0.length : Int)) = true := decide_eq_true c4
    clear c4
    by_cases c5 : 0 ≤ x19_1
    ·rw [if_pos c5] at H
     have c5b0 : decide (0 ≤ x19_1) = true := decide_eq_true c5
     clear c5
     by_cases c6 : x19_1 < (l0.length : Int)
     ·rw [if_pos c6] at H
      have c6b0 : decide (x19_1 < (l0.length : Int)) = true := decide_eq_true c6
      clear c6
      replace H := Option.bind_eq_some_iff.mp H
      obtain ⟨t456, A70, H⟩ := H
      replace H : (if t456 = true then ((span_Meet.f ((rd_T26 l0 x19_1).f4) l1_5).bind fun t457 => (if t457 = true then ((ssi_last.f ((rd_T26 l0 x19_1).f0) ((rd_T26 l0 x19_1).f1) ((rd_T26 l0 x19_1).f2) ((rd_T26 l0 x19_1).f3) ((rd_T26 l0 x19_1).f4) ((rd_T26 l0 x19_1).f5)).bind fun t458 => (ssi_Judge.l0 k1 l0 (mx x7_1 t458) true l0 (l0.length : Int) (wrap64 (x19_1 + 1)) a1_0 a1_1 a1_2 a1_3 l1_4 l1_5)) else (ssi_Judge.l0 k1 l0 x7_1 x8_1 l0 (l0.length : Int) (wrap64 (x19_1 + 1)) a1_0 a1_1 a1_2 a1_3 l1_4 l1_5))) else (ssi_Judge.l0 k1 l0 x7_1 x8_1 l0 (l0.length : Int) (wrap64 (x19_1 + 1)) a1_0 a1_1 a1_2 a1_3 l1_4 l1_5)) = some (r1, r2) := H
      have A7 := Aside0.mk A70
      clear A70
      by_cases c8 : t456 = true
      ·subst c8
       have H1 : ((span_Meet.f ((rd_T26 l0 x19_1).f4) l1_5).bind fun t457 => (if t457 = true then ((ssi_last.f ((rd_T26 l0 x19_1).f0) ((rd_T26 l0 x19_1).f1) ((rd_T26 l0 x19_1).f2) ((rd_T26 l0 x19_1).f3) ((rd_T26 l0 x19_1).f4) ((rd_T26 l0 x19_1).f5)).bind fun t458 => (ssi_Judge.l0 k1 l0 (mx x7_1 t458) true l0 (l0.length : Int) (wrap64 (x19_1 + 1)) a1_0 a1_1 a1_2 a1_3 l1_4 l1_5)) else (ssi_Judge.l0 k1 l0 x7_1 x8_1 l0 (l0.length : Int) (wrap64 (x19_1 + 1)) a1_0 a1_1 a1_2 a1_3 l1_4 l1_5))) = some (r1, r2) := by rw [if_pos rfl] at H; exact H
       clear H
       have H := H1
       clear H1
       replace H := Option.bind_eq_some_iff.mp H
       obtain ⟨t457, A90, H⟩ := H
       replace H : (if t457 = true then ((ssi_last.f ((rd_T26 l0 x19_1).f0) ((rd_T26 l0 x19_1).f1) ((rd_T26 l0 x19_1).f2) ((rd_T26 l0 x19_1).f3) ((rd_T26 l0 x19_1).f4) ((rd_T26 l0 x19_1).f5)).bind fun t458 => (ssi_Judge.l0 k1 l0 (mx x7_1 t458) true l0 (l0.length : Int) (wrap64 (x19_1 + 1)) a1_0 a1_1 a1_2 a1_3 l1_4 l1_5)) else (ssi_Judge.l0 k1 l0 x7_1 x8_1 l0 (l0.length : Int) (wrap64 (x19_1 + 1)) a1_0 a1_1 a1_2 a1_3 l1_4 l1_5)) = some (r1, r2) := H
       have A9 := Aside0.mk A90
       clear A90
       by_cases c10 : t457 = true
       ·subst c10
        have H1 : ((ssi_last.f ((rd_T26 l0 x19_1).f0) ((rd_T26 l0 x19_1).f1) ((rd_T26 l0 x19_1).f2) ((rd_T26 l0 x19_1).f3) ((rd_T26 l0 x19_1).f4) ((rd_T26 l0 x19_1).f5)).bind fun t458 => (ssi_Judge.l0 k1 l0 (mx x7_1 t458) true l0 (l0.length : Int) (wrap64 (x19_1 + 1)) a1_0 a1_1 a1_2 a1_3 l1_4 l1_5)) = some (r1, r2) := by rw [if_pos rfl] at H; exact H
        clear H
        have H := H1
        clear H1
        replace H := Option.bind_eq_some_iff.mp H
        obtain ⟨t458, A110, H⟩ := H
        replace H : (ssi_Judge.l0 k1 l0 (mx x7_1 t458) true l0 (l0.length : Int) (wrap64 (x19_1 + 1)) a1_0 a1_1 a1_2 a1_3 l1_4 l1_5) = some (r1, r2) := H
        have A11 := Aside0.mk A110
        clear A110
        obtain ⟨ji12, hji12⟩ : ∃ j_ : Int, (mx x7_1 t458) = j_ := ⟨_, rfl⟩
        replace H : (ssi_Judge.l0 k1 l0 ji12 true l0 (l0.length : Int) (wrap64 (x19_1 + 1)) a1_0 a1_1 a1_2 a1_3 l1_4 l1_5) = some (r1, r2) := by first | (rw [hji12] at H; exact H) | (simp only [hji12] at H ⊢; exact H)
        (try rw [hji12] at A7)
        (try rw [hji12] at A9)
        (try rw [hji12] at A11)
        have hji12_ : (if x7_1 < t458 then t458 else x7_1) = ji12 := hji12
        have H' := Aside0.mk H
        clear H
        have p454 : 0 ≤ (x19_1 : Int) := of_decide_eq_true (by first | (with_reducible assumption) | assumption)
        have q454 : x19_1 < (l0.length : Int) := of_decide_eq_true (by first | (with_reducible assumption) | assumption)
        obtain ⟨ad454, A454_4, c454_4, A454_5, c454_5, e454, hx454_0, hx454_1, hx454_2, hx454_3, hx454_4, hx454_5, hl454_4, hi454_4, hl454_5, hi454_5⟩ := at_T26 HR0.out x19_1 p454 q454
        cases e454
        replace hx454_0 := (HB.out.cell (World.block_lt_of_cell? w _ hx454_0)).trans hx454_0
        replace hx454_1 := (HB.out.cell (World.block_lt_of_cell? w _ hx454_1)).trans hx454_1
        replace hx454_2 := (HB.out.cell (World.block_lt_of_cell? w _ hx454_2)).trans hx454_2
        replace hx454_3 := (HB.out.cell (World.block_lt_of_cell? w _ hx454_3)).trans hx454_3
        replace hx454_4 := (HB.out.cell (World.block_lt_of_cell? w _ hx454_4)).trans hx454_4
        replace hx454_5 := (HB.out.cell (World.block_lt_of_cell? w _ hx454_5)).trans hx454_5
        have HR454_4 := Aside0.mk hi454_4
        have HC454_4 := Aside0.mk hl454_4
        clear hi454_4 hl454_4
        have HR454_5 := Aside0.mk hi454_5
        have HC454_5 := Aside0.mk hl454_5
        clear hi454_5 hl454_5
        replace p454 := eq_true p454
        replace q454 := eq_true q454
        go_wp2_with (first | ((with_reducible refine gate_dst (N := 10) rfl ?_); (try (refine gate_guard (by rfl) ?_; dsimp only)); refine box_event ?hg (N := 10) ?hd (cs := #[.int .u64 0, .int .u64 0, .int .u64 0, .int .u64 0, .slice none 0 0, .slice none 0 0]) (t := 26) ?hr ?_; (case hd => rfl); (case hg => rfl); (case hr => first | (go_simp; done) | (go_simp; rfl)); intro gb455 hg w13 hbox hb; have n0_ := Aside0.mk (blk_below (g := gb453) (o := .cells #[.int .u64 a1_0, .int .u64 a1_1, .int .u64 a1_2, .int .u64 a1_3, .slice A1_4 l1_4.length c1_4, .slice A1_5 l1_5.length c1_5] 26 (0, 0)) (by (with_reducible repeat (first | refine blk_drewN ?_ _ | refine blk_drew ?_ | refine blk_alloc ?_ _)); exact BK453.out) hb); have n1_ := Aside0.mk (below_step (by repeat (first | (with_reducible first | exact HB.out | apply below_alloc | apply pw_below_drewN | apply below_drew1 | refine below_set ?_ GE453.out) | exact HB.out)) hb); have n2_ := Aside0.mk (hbox); have n3_ := Aside0.mk ((by rw [hg]; exact (below_size (by repeat (first | (with_reducible first | exact HB.out | apply below_alloc | apply pw_below_drewN | apply below_drew1 | refine below_set ?_ GE453.out) | exact HB.out))) : w.heap.size ≤ gb455)); have n4_ := Aside0.mk ((by rw [hg]; exact (below_size (by repeat (first | (with_reducible first | exact HB.out | apply below_alloc | apply pw_below_drewN | apply below_drew1 | refine below_set ?_ GE453.out) | exact HB.out))) : w.heap.size ≤ gb455)); have n5_ := Aside0.mk ((by rw [hg]; exact Nat.ne_of_lt (blk_lt (g := gb453) (o := .cells #[.int .u64 a1_0, .int .u64 a1_1, .int .u64 a1_2, .int .u64 a1_3, .slice A1_4 l1_4.length c1_4, .slice A1_5 l1_5.length c1_5] 26 (0, 0)) (by (with_reducible repeat (first | refine blk_drewN ?_ _ | refine blk_drew ?_ | refine blk_alloc ?_ _)); exact BK453.out)) : gb453 ≠ gb455)); have n6_ := Aside0.mk ((by rw [hg]; exact Nat.ne_of_gt (blk_lt (g := gb453) (o := .cells #[.int .u64 a1_0, .int .u64 a1_1, .int .u64 a1_2, .int .u64 a1_3, .slice A1_4 l1_4.length c1_4, .slice A1_5 l1_5.length c1_5] 26 (0, 0)) (by (with_reducible repeat (first | refine blk_drewN ?_ _ | refine blk_drew ?_ | refine blk_alloc ?_ _)); exact BK453.out)) : gb455 ≠ gb453)); clear BK453; clear HB; have BK453 := n0_; have HB := n1_; have BK455 := n2_; have GW455 := n3_; have GE455 := n4_; have NB453_455 := n5_; have NB455_453 := n6_; clear n0_ n1_ n2_ n3_ n4_ n5_ n6_; clear hb hbox hg; have hnb14 := NB455_453.out; have hnc14 := NB453_455.out; have hcz15_0 : w13.cell? ⟨gb455, 0, none⟩ = some (.int .u64 0) := (blk_cell BK455.out 0).trans rfl; have hcz15_1 : w13.cell? ⟨gb455, 1, none⟩ = some (.int .u64 0) := (blk_cell BK455.out 1).trans rfl; have hcz15_2 : w13.cell? ⟨gb455, 2, none⟩ = some (.int .u64 0) := (blk_cell BK455.out 2).trans rfl; have hcz15_3 : w13.cell? ⟨gb455, 3, none⟩ = some (.int .u64 0) := (blk_cell BK455.out 3).trans rfl; have hcz15_4 : w13.cell? ⟨gb455, 4, none⟩ = some (.slice none 0 0) := (blk_cell BK455.out 4).trans rfl; have hcz15_5 : w13.cell? ⟨gb455, 5, none⟩ = some (.slice none 0 0) := (blk_cell BK455.out 5).trans rfl; have hfz15_0 := blk_frozen BK455.out 0; have hfz15_1 := blk_frozen BK455.out 1; have hfz15_2 := blk_frozen BK455.out 2; have hfz15_3 := blk_frozen BK455.out 3; have hfz15_4 := blk_frozen BK455.out 4; have hfz15_5 := blk_frozen BK455.out 5) | (go_at_call 55; (with_reducible refine (ssi_Judge_1.calls ((rd_T26 l0 x19_1).f0) ((rd_T26 l0 x19_1).f1) ((rd_T26 l0 x19_1).f2) ((rd_T26 l0 x19_1).f3) _ _ ((rd_T26 l0 x19_1).f4) _ _ ((rd_T26 l0 x19_1).f5) true _ ?side1 ?side2 ?side3 ?side4 A7.out).mono ?_); (case side1 => exact Kd.C_below HR454_4.out (by repeat (first | (with_reducible first | exact HB.out | apply below_alloc | apply pw_below_drewN | apply below_drew1 | refine below_set ?_ GE453.out | refine below_set ?_ GE455.out) | exact HB.out))); (case side2 => exact HC454_4.out); (case side3 => exact Kd.C_below HR454_5.out (by repeat (first | (with_reducible first | exact HB.out | apply below_alloc | apply pw_below_drewN | apply below_drew1 | refine below_set ?_ GE453.out | refine below_set ?_ GE455.out) | exact HB.out))); (case side4 => exact HC454_5.out); rintro e w16 ⟨rfl, hb⟩; have n0_ := Aside0.mk (blk_below (g := gb453) (o := .cells #[.int .u64 a1_0, .int .u64 a1_1, .int .u64 a1_2, .int .u64 a1_3, .slice A1_4 l1_4.length c1_4, .slice A1_5 l1_5.length c1_5] 26 (0, 0)) (by (with_reducible repeat (first | refine blk_drewN ?_ _ | refine blk_drew ?_ | refine blk_alloc ?_ _)); refine blk_far ?_ NB453_455.out _; (with_reducible repeat (first | refine blk_drewN ?_ _ | refine blk_drew ?_ | refine blk_alloc ?_ _)); refine blk_far ?_ NB453_455.out _; (with_reducible repeat (first | refine blk_drewN ?_ _ | refine blk_drew ?_ | refine blk_alloc ?_ _)); refine blk_far ?_ NB453_455.out _; (with_reducible repeat (first | refine blk_drewN ?_ _ | refine blk_drew ?_ | refine blk_alloc ?_ _)); refine blk_far ?_ NB453_455.out _; (with_reducible repeat (first | refine blk_drewN ?_ _ | refine blk_drew ?_ | refine blk_alloc ?_ _)); refine blk_far ?_ NB453_455.out _; (with_reducible repeat (first | refine blk_drewN ?_ _ | refine blk_drew ?_ | refine blk_alloc ?_ _)); refine blk_far ?_ NB453_455.out _; (with_reducible repeat (first | refine blk_drewN ?_ _ | refine blk_drew ?_ | refine blk_alloc ?_ _)); exact BK453.out) hb); have n1_ := Aside0.mk (blk_below (g := gb455) (o := .cells #[.int .u64 ((rd_T26 l0 x19_1).f0), .int .u64 ((rd_T26 l0 x19_1).f1), .int .u64 ((rd_T26 l0 x19_1).f2), .int .u64 ((rd_T26 l0 x19_1).f3), .slice A454_4 ((rd_T26 l0 x19_1).f4).length c454_4, .slice A454_5 ((rd_T26 l0 x19_1).f5).length c454_5] 26 (0, 0)) (by (with_reducible repeat (first | refine blk_drewN ?_ _ | refine blk_drew ?_ | refine blk_alloc ?_ _)); refine blk_put (cs := #[.int .u64 ((rd_T26 l0 x19_1).f0), .int .u64 ((rd_T26 l0 x19_1).f1), .int .u64 ((rd_T26 l0 x19_1).f2), .int .u64 ((rd_T26 l0 x19_1).f3), .slice A454_4 ((rd_T26 l0 x19_1).f4).length c454_4, .slice none 0 0]) ?_ 5 _ rfl; (with_reducible repeat (first | refine blk_drewN ?_ _ | refine blk_drew ?_ | refine blk_alloc ?_ _)); refine blk_put (cs := #[.int .u64 ((rd_T26 l0 x19_1).f0), .int .u64 ((rd_T26 l0 x19_1).f1), .int .u64 ((rd_T26 l0 x19_1).f2), .int .u64 ((rd_T26 l0 x19_1).f3), .slice none 0 0, .slice none 0 0]) ?_ 4 _ rfl; (with_reducible repeat (first | refine blk_drewN ?_ _ | refine blk_drew ?_ | refine blk_alloc ?_ _)); refine blk_put (cs := #[.int .u64 ((rd_T26 l0 x19_1).f0), .int .u64 ((rd_T26 l0 x19_1).f1), .int .u64 ((rd_T26 l0 x19_1).f2), .int .u64 0, .slice none 0 0, .slice none 0 0]) ?_ 3 _ rfl; (with_reducible repeat (first | refine blk_drewN ?_ _ | refine blk_drew ?_ | refine blk_alloc ?_ _)); refine blk_put (cs := #[.int .u64 ((rd_T26 l0 x19_1).f0), .int .u64 ((rd_T26 l0 x19_1).f1), .int .u64 0, .int .u64 0, .slice none 0 0, .slice none 0 0]) ?_ 2 _ rfl; (with_reducible repeat (first | refine blk_drewN ?_ _ | refine blk_drew ?_ | refine blk_alloc ?_ _)); refine blk_put (cs := #[.int .u64 ((rd_T26 l0 x19_1).f0), .int .u64 0, .int .u64 0, .int .u64 0, .slice none 0 0, .slice none 0 0]) ?_ 1 _ rfl; (with_reducible repeat (first | refine blk_drewN ?_ _ | refine blk_drew ?_ | refine blk_alloc ?_ _)); refine blk_put (cs := #[.int .u64 0, .int .u64 0, .int .u64 0, .int .u64 0, .slice none 0 0, .slice none 0 0]) ?_ 0 _ rfl; (with_reducible repeat (first | refine blk_drewN ?_ _ | refine blk_drew ?_ | refine blk_alloc ?_ _)); exact BK455.out) hb); have n2_ := Aside0.mk (below_step (by repeat (first | (with_reducible first | exact HB.out | apply below_alloc | apply pw_below_drewN | apply below_drew1 | refine below_set ?_ GE453.out | refine below_set ?_ GE455.out) | exact HB.out)) hb); clear BK453; clear BK455; clear HB; have BK453 := n0_; have BK455 := n1_; have HB := n2_; clear n0_ n1_ n2_; (try clear hb); (try clear hb2); (try clear hk); (try clear hi); have hcz17_0 : w16.cell? ⟨gb455, 0, none⟩ = some (.int .u64 ((rd_T26 l0 x19_1).f0)) := (blk_cell BK455.out 0).trans rfl; have hcz17_1 : w16.cell? ⟨gb455, 1, none⟩ = some (.int .u64 ((rd_T26 l0 x19_1).f1)) := (blk_cell BK455.out 1).trans rfl; have hcz17_2 : w16.cell? ⟨gb455, 2, none⟩ = some (.int .u64 ((rd_T26 l0 x19_1).f2)) := (blk_cell BK455.out 2).trans rfl; have hcz17_3 : w16.cell? ⟨gb455, 3, none⟩ = some (.int .u64 ((rd_T26 l0 x19_1).f3)) := (blk_cell BK455.out 3).trans rfl; have hcz17_4 : w16.cell? ⟨gb455, 4, none⟩ = some (.slice A454_4 ((rd_T26 l0 x19_1).f4).length c454_4) := (blk_cell BK455.out 4).trans rfl; have hcz17_5 : w16.cell? ⟨gb455, 5, none⟩ = some (.slice A454_5 ((rd_T26 l0 x19_1).f5).length c454_5) := (blk_cell BK455.out 5).trans rfl; have hfz17_0 := blk_frozen BK455.out 0; have hfz17_1 := blk_frozen BK455.out 1; have hfz17_2 := blk_frozen BK455.out 2; have hfz17_3 := blk_frozen BK455.out 3; have hfz17_4 := blk_frozen BK455.out 4; have hfz17_5 := blk_frozen BK455.out 5; have hcz18_0 : w16.cell? ⟨gb453, 0, none⟩ = some (.int .u64 a1_0) := (blk_cell BK453.out 0).trans rfl; have hcz18_1 : w16.cell? ⟨gb453, 1, none⟩ = some (.int .u64 a1_1) := (blk_cell BK453.out 1).trans rfl; have hcz18_2 : w16.cell? ⟨gb453, 2, none⟩ = some (.int .u64 a1_2) := (blk_cell BK453.out 2).trans rfl; have hcz18_3 : w16.cell? ⟨gb453, 3, none⟩ = some (.int .u64 a1_3) := (blk_cell BK453.out 3).trans rfl; have hcz18_4 : w16.cell? ⟨gb453, 4, none⟩ = some (.slice A1_4 l1_4.length c1_4) := (blk_cell BK453.out 4).trans rfl; have hcz18_5 : w16.cell? ⟨gb453, 5, none⟩ = some (.slice A1_5 l1_5.length c1_5) := (blk_cell BK453.out 5).trans rfl; have hfz18_0 := blk_frozen BK453.out 0; have hfz18_1 := blk_frozen BK453.out 1; have hfz18_2 := blk_frozen BK453.out 2; have hfz18_3 := blk_frozen BK453.out 3; have hfz18_4 := blk_frozen BK453.out 4; have hfz18_5 := blk_frozen BK453.out 5) | (go_at_call 37; (with_reducible refine (span_Meet.calls _ _ ((rd_T26 l0 x19_1).f4) _ _ l1_5 true _ ?side1 ?side2 ?side3 ?side4 A9.out).mono ?_); (case side1 => repeat (first | exact (Kd.C_below HR454_4.out HB.out) | (with_reducible refine Kd.C_alloc ?_ _) | (with_reducible refine Kd.C_drewN ?_ _) | (with_reducible refine Kd.C_drew ?_))); (case side2 => exact HC454_4.out); (case side3 => repeat (first | exact (Kd.C_below HR1_5.out HB.out) | (with_reducible refine Kd.C_alloc ?_ _) | (with_reducible refine Kd.C_drewN ?_ _) | (with_reducible refine Kd.C_drew ?_))); (case side4 => exact HC1_5.out); rintro e w19 ⟨rfl, hb⟩; have n0_ := Aside0.mk (blk_below (g := gb453) (o := .cells #[.int .u64 a1_0, .int .u64 a1_1, .int .u64 a1_2, .int .u64 a1_3, .slice A1_4 l1_4.length c1_4, .slice A1_5 l1_5.length c1_5] 26 (0, 0)) (by (with_reducible repeat (first | refine blk_drewN ?_ _ | refine blk_drew ?_ | refine blk_alloc ?_ _)); exact BK453.out) hb); have n1_ := Aside0.mk (blk_below (g := gb455) (o := .cells #[.int .u64 ((rd_T26 l0 x19_1).f0), .int .u64 ((rd_T26 l0 x19_1).f1), .int .u64 ((rd_T26 l0 x19_1).f2), .int .u64 ((rd_T26 l0 x19_1).f3), .slice A454_4 ((rd_T26 l0 x19_1).f4).length c454_4, .slice A454_5 ((rd_T26 l0 x19_1).f5).length c454_5] 26 (0, 0)) (by (with_reducible repeat (first | refine blk_drewN ?_ _ | refine blk_drew ?_ | refine blk_alloc ?_ _)); exact BK455.out) hb); have n2_ := Aside0.mk (below_step (by repeat (first | (with_reducible first | exact HB.out | apply below_alloc | apply pw_below_drewN | apply below_drew1 | refine below_set ?_ GE453.out | refine below_set ?_ GE455.out) | exact HB.out)) hb); clear BK453; clear BK455; clear HB; have BK453 := n0_; have BK455 := n1_; have HB := n2_; clear n0_ n1_ n2_; (try clear hb); (try clear hb2); (try clear hk); (try clear hi); have hcz20_0 : w19.cell? ⟨gb455, 0, none⟩ = some (.int .u64 ((rd_T26 l0 x19_1).f0)) := (blk_cell BK455.out 0).trans rfl; have hcz20_1 : w19.cell? ⟨gb455, 1, none⟩ = some (.int .u64 ((rd_T26 l0 x19_1).f1)) := (blk_cell BK455.out 1).trans rfl; have hcz20_2 : w19.cell? ⟨gb455, 2, none⟩ = some (.int .u64 ((rd_T26 l0 x19_1).f2)) := (blk_cell BK455.out 2).trans rfl; have hcz20_3 : w19.cell? ⟨gb455, 3, none⟩ = some (.int .u64 ((rd_T26 l0 x19_1).f3)) := (blk_cell BK455.out 3).trans rfl; have hcz20_4 : w19.cell? ⟨gb455, 4, none⟩ = some (.slice A454_4 ((rd_T26 l0 x19_1).f4).length c454_4) := (blk_cell BK455.out 4).trans rfl; have hcz20_5 : w19.cell? ⟨gb455, 5, none⟩ = some (.slice A454_5 ((rd_T26 l0 x19_1).f5).length c454_5) := (blk_cell BK455.out 5).trans rfl; have hfz20_0 := blk_frozen BK455.out 0; have hfz20_1 := blk_frozen BK455.out 1; have hfz20_2 := blk_frozen BK455.out 2; have hfz20_3 := blk_frozen BK455.out 3; have hfz20_4 := blk_frozen BK455.out 4; have hfz20_5 := blk_frozen BK455.out 5) | ((with_reducible refine gate_callee (f := 56) rfl ?_); refine goesL_ (some 35) rfl rfl Try.func56 (by kernel_rfl) rfl #[.agg #[.int .u64 ((rd_T26 l0 x19_1).f0), .int .u64 ((rd_T26 l0 x19_1).f1), .int .u64 ((rd_T26 l0 x19_1).f2), .int .u64 ((rd_T26 l0 x19_1).f3), .slice A454_4 ((rd_T26 l0 x19_1).f4).length c454_4, .slice A454_5 ((rd_T26 l0 x19_1).f5).length c454_5]] rfl (by (try simp only [List.map_toArray, List.map_cons, List.map_nil]); first | done | rfl | (simp only [List.length_drop, List.length_take]; rfl)) ?_; (with_reducible refine (ssi_last.calls ((rd_T26 l0 x19_1).f0) ((rd_T26 l0 x19_1).f1) ((rd_T26 l0 x19_1).f2) ((rd_T26 l0 x19_1).f3) _ _ ((rd_T26 l0 x19_1).f4) _ _ ((rd_T26 l0 x19_1).f5) t458 _ ?side1 ?side2 ?side3 ?side4 A11.out).mono ?_); (case side1 => repeat (first | exact (Kd.C_below HR454_4.out HB.out) | (with_reducible refine Kd.C_alloc ?_ _) | (with_reducible refine Kd.C_drewN ?_ _) | (with_reducible refine Kd.C_drew ?_))); (case side2 => exact HC454_4.out); (case side3 => repeat (first | exact (Kd.C_below HR454_5.out HB.out) | (with_reducible refine Kd.C_alloc ?_ _) | (with_reducible refine Kd.C_drewN ?_ _) | (with_reducible refine Kd.C_drew ?_))); (case side4 => exact HC454_5.out); rintro e w21 ⟨rfl, hb⟩; refine ⟨_, rfl, ?_⟩; have n0_ := Aside0.mk (blk_below (g := gb453) (o := .cells #[.int .u64 a1_0, .int .u64 a1_1, .int .u64 a1_2, .int .u64 a1_3, .slice A1_4 l1_4.length c1_4, .slice A1_5 l1_5.length c1_5] 26 (0, 0)) (by (with_reducible repeat (first | refine blk_drewN ?_ _ | refine blk_drew ?_ | refine blk_alloc ?_ _)); exact BK453.out) hb); have n1_ := Aside0.mk (blk_below (g := gb455) (o := .cells #[.int .u64 ((rd_T26 l0 x19_1).f0), .int .u64 ((rd_T26 l0 x19_1).f1), .int .u64 ((rd_T26 l0 x19_1).f2), .int .u64 ((rd_T26 l0 x19_1).f3), .slice A454_4 ((rd_T26 l0 x19_1).f4).length c454_4, .slice A454_5 ((rd_T26 l0 x19_1).f5).length c454_5] 26 (0, 0)) (by (with_reducible repeat (first | refine blk_drewN ?_ _ | refine blk_drew ?_ | refine blk_alloc ?_ _)); exact BK455.out) hb); have n2_ := Aside0.mk (below_step (by repeat (first | (with_reducible first | exact HB.out | apply below_alloc | apply pw_below_drewN | apply below_drew1 | refine below_set ?_ GE453.out | refine below_set ?_ GE455.out) | exact HB.out)) hb); clear BK453; clear BK455; clear HB; have BK453 := n0_; have BK455 := n1_; have HB := n2_; clear n0_ n1_ n2_; (try clear hb); (try clear hb2); (try clear hk); (try clear hi)))
        go_roundg k1
        case measure => have := HK1.out; omega
        case rel => exact ⟨(ji12), (true), (wrap64 (x19_1 + 1)), (by first | rfl | (simp; done) | (simp only [← hji12] <;> (first | rfl | simp)) | (simp [*]; done)), (by first | rfl | (simp; done) | (simp [*]; done)), (by first | rfl | (simp; done) | (simp [*]; done)), H', ⟨by have := HK1.out; omega⟩, ⟨by (with_reducible repeat (first | refine blk_drewN ?_ _ | refine blk_drew ?_ | refine blk_alloc ?_ _)); exact BK453.out⟩, ⟨by repeat (first | (with_reducible first | exact HB.out | apply below_alloc | apply pw_below_drewN | apply below_drew1 | refine below_set ?_ GE453.out | refine below_set ?_ GE455.out) | exact HB.out)⟩⟩
       ·replace c10 := Bool.eq_false_iff.mpr c10
        subst c10
        have H1 : (ssi_Judge.l0 k1 l0 x7_1 x8_1 l0 (l0.length : Int) (wrap64 (x19_1 + 1)) a1_0 a1_1 a1_2 a1_3 l1_4 l1_5) = some (r1, r2) := by rw [if_neg (show ¬ (false = true) by decide)] at H; exact H
        clear H
        have H := H1
        clear H1
        have H' := Aside0.mk H
        clear H
        have p454 : 0 ≤ (x19_1 : Int) := of_decide_eq_true (by first | (with_reducible assumption) | assumption)
        have q454 : x19_1 < (l0.length : Int) := of_decide_eq_true (by first | (with_reducible assumption) | assumption)
        obtain ⟨ad454, A454_4, c454_4, A454_5, c454_5, e454, hx454_0, hx454_1, hx454_2, hx454_3, hx454_4, hx454_5, hl454_4, hi454_4, hl454_5, hi454_5⟩ := at_T26 HR0.out x19_1 p454 q454
        cases e454
        replace hx454_0 := (HB.out.cell (World.block_lt_of_cell? w _ hx454_0)).trans hx454_0
        replace hx454_1 := (HB.out.cell (World.block_lt_of_cell? w _ hx454_1)).trans hx454_1
        replace hx454_2 := (HB.out.cell (World.block_lt_of_cell? w _ hx454_2)).trans hx454_2
        replace hx454_3 := (HB.out.cell (World.block_lt_of_cell? w _ hx454_3)).trans hx454_3
        replace hx454_4 := (HB.out.cell (World.block_lt_of_cell? w _ hx454_4)).trans hx454_4
        replace hx454_5 := (HB.out.cell (World.block_lt_of_cell? w _ hx454_5)).trans hx454_5
        have HR454_4 := Aside0.mk hi454_4
        have HC454_4 := Aside0.mk hl454_4
        clear hi454_4 hl454_4
        have HR454_5 := Aside0.mk hi454_5
        have HC454_5 := Aside0.mk hl454_5
        clear hi454_5 hl454_5
        replace p454 := eq_true p454
        replace q454 := eq_true q454
        go_wp2_with (first | ((with_reducible refine gate_dst (N := 10) rfl ?_); (try (refine gate_guard (by rfl) ?_; dsimp only)); refine box_event ?hg (N := 10) ?hd (cs := #[.int .u64 0, .int .u64 0, .int .u64 0, .int .u64 0, .slice none 0 0, .slice none 0 0]) (t := 26) ?hr ?_; (case hd => rfl); (case hg => rfl); (case hr => first | (go_simp; done) | (go_simp; rfl)); intro gb455 hg w22 hbox hb; have n0_ := Aside0.mk (blk_below (g := gb453) (o := .cells #[.int .u64 a1_0, .int .u64 a1_1, .int .u64 a1_2, .int .u64 a1_3, .slice A1_4 l1_4.length c1_4, .slice A1_5 l1_5.length c1_5] 26 (0, 0)) (by (with_reducible repeat (first | refine blk_drewN ?_ _ | refine blk_drew ?_ | refine blk_alloc ?_ _)); exact BK453.out) hb); have n1_ := Aside0.mk (below_step (by repeat (first | (with_reducible first | exact HB.out | apply below_alloc | apply pw_below_drewN | apply below_drew1 | refine below_set ?_ GE453.out) | exact HB.out)) hb); have n2_ := Aside0.mk (hbox); have n3_ := Aside0.mk ((by rw [hg]; exact (below_size (by repeat (first | (with_reducible first | exact HB.out | apply below_alloc | apply pw_below_drewN | apply below_drew1 | refine below_set ?_ GE453.out) | exact HB.out))) : w.heap.size ≤ gb455)); have n4_ := Aside0.mk ((by rw [hg]; exact (below_size (by repeat (first | (with_reducible first | exact HB.out | apply below_alloc | apply pw_below_drewN | apply below_drew1 | refine below_set ?_ GE453.out) | exact HB.out))) : w.heap.size ≤ gb455)); have n5_ := Aside0.mk ((by rw [hg]; exact Nat.ne_of_lt (blk_lt (g := gb453) (o := .cells #[.int .u64 a1_0, .int .u64 a1_1, .int .u64 a1_2, .int .u64 a1_3, .slice A1_4 l1_4.length c1_4, .slice A1_5 l1_5.length c1_5] 26 (0, 0)) (by (with_reducible repeat (first | refine blk_drewN ?_ _ | refine blk_drew ?_ | refine blk_alloc ?_ _)); exact BK453.out)) : gb453 ≠ gb455)); have n6_ := Aside0.mk ((by rw [hg]; exact Nat.ne_of_gt (blk_lt (g := gb453) (o := .cells #[.int .u64 a1_0, .int .u64 a1_1, .int .u64 a1_2, .int .u64 a1_3, .slice A1_4 l1_4.length c1_4, .slice A1_5 l1_5.length c1_5] 26 (0, 0)) (by (with_reducible repeat (first | refine blk_drewN ?_ _ | refine blk_drew ?_ | refine blk_alloc ?_ _)); exact BK453.out)) : gb455 ≠ gb453)); clear BK453; clear HB; have BK453 := n0_; have HB := n1_; have BK455 := n2_; have GW455 := n3_; have GE455 := n4_; have NB453_455 := n5_; have NB455_453 := n6_; clear n0_ n1_ n2_ n3_ n4_ n5_ n6_; clear hb hbox hg; have hnb23 := NB455_453.out; have hnc23 := NB453_455.out; have hcz24_0 : w22.cell? ⟨gb455, 0, none⟩ = some (.int .u64 0) := (blk_cell BK455.out 0).trans rfl; have hcz24_1 : w22.cell? ⟨gb455, 1, none⟩ = some (.int .u64 0) := (blk_cell BK455.out 1).trans rfl; have hcz24_2 : w22.cell? ⟨gb455, 2, none⟩ = some (.int .u64 0) := (blk_cell BK455.out 2).trans rfl; have hcz24_3 : w22.cell? ⟨gb455, 3, none⟩ = some (.int .u64 0) := (blk_cell BK455.out 3).trans rfl; have hcz24_4 : w22.cell? ⟨gb455, 4, none⟩ = some (.slice none 0 0) := (blk_cell BK455.out 4).trans rfl; have hcz24_5 : w22.cell? ⟨gb455, 5, none⟩ = some (.slice none 0 0) := (blk_cell BK455.out 5).trans rfl; have hfz24_0 := blk_frozen BK455.out 0; have hfz24_1 := blk_frozen BK455.out 1; have hfz24_2 := blk_frozen BK455.out 2; have hfz24_3 := blk_frozen BK455.out 3; have hfz24_4 := blk_frozen BK455.out 4; have hfz24_5 := blk_frozen BK455.out 5) | (go_at_call 55; (with_reducible refine (ssi_Judge_1.calls ((rd_T26 l0 x19_1).f0) ((rd_T26 l0 x19_1).f1) ((rd_T26 l0 x19_1).f2) ((rd_T26 l0 x19_1).f3) _ _ ((rd_T26 l0 x19_1).f4) _ _ ((rd_T26 l0 x19_1).f5) true _ ?side1 ?side2 ?side3 ?side4 A7.out).mono ?_); (case side1 => exact Kd.C_below HR454_4.out (by repeat (first | (with_reducible first | exact HB.out | apply below_alloc | apply pw_below_drewN | apply below_drew1 | refine below_set ?_ GE453.out | refine below_set ?_ GE455.out) | exact HB.out))); (case side2 => exact HC454_4.out); (case side3 => exact Kd.C_below HR454_5.out (by repeat (first | (with_reducible first | exact HB.out | apply below_alloc | apply pw_below_drewN | apply below_drew1 | refine below_set ?_ GE453.out | refine below_set ?_ GE455.out) | exact HB.out))); (case side4 => exact HC454_5.out); rintro e w25 ⟨rfl, hb⟩; have n0_ := Aside0.mk (blk_below (g := gb453) (o := .cells #[.int .u64 a1_0, .int .u64 a1_1, .int .u64 a1_2, .int .u64 a1_3, .slice A1_4 l1_4.length c1_4, .slice A1_5 l1_5.length c1_5] 26 (0, 0)) (by (with_reducible repeat (first | refine blk_drewN ?_ _ | refine blk_drew ?_ | refine blk_alloc ?_ _)); refine blk_far ?_ NB453_455.out _; (with_reducible repeat (first | refine blk_drewN ?_ _ | refine blk_drew ?_ | refine blk_alloc ?_ _)); refine blk_far ?_ NB453_455.out _; (with_reducible repeat (first | refine blk_drewN ?_ _ | refine blk_drew ?_ | refine blk_alloc ?_ _)); refine blk_far ?_ NB453_455.out _; (with_reducible repeat (first | refine blk_drewN ?_ _ | refine blk_drew ?_ | refine blk_alloc ?_ _)); refine blk_far ?_ NB453_455.out _; (with_reducible repeat (first | refine blk_drewN ?_ _ | refine blk_drew ?_ | refine blk_alloc ?_ _)); refine blk_far ?_ NB453_455.out _; (with_reducible repeat (first | refine blk_drewN ?_ _ | refine blk_drew ?_ | refine blk_alloc ?_ _)); refine blk_far ?_ NB453_455.out _; (with_reducible repeat (first | refine blk_drewN ?_ _ | refine blk_drew ?_ | refine blk_alloc ?_ _)); exact BK453.out) hb); have n1_ := Aside0.mk (blk_below (g := gb455) (o := .cells #[.int .u64 ((rd_T26 l0 x19_1).f0), .int .u64 ((rd_T26 l0 x19_1).f1), .int .u64 ((rd_T26 l0 x19_1).f2), .int .u64 ((rd_T26 l0 x19_1).f3), .slice A454_4 ((rd_T26 l0 x19_1).f4).length c454_4, .slice A454_5 ((rd_T26 l0 x19_1).f5).length c454_5] 26 (0, 0)) (by (with_reducible repeat (first | refine blk_drewN ?_ _ | refine blk_drew ?_ | refine blk_alloc ?_ _)); refine blk_put (cs := #[.int .u64 ((rd_T26 l0 x19_1).f0), .int .u64 ((rd_T26 l0 x19_1).f1), .int .u64 ((rd_T26 l0 x19_1).f2), .int .u64 ((rd_T26 l0 x19_1).f3), .slice A454_4 ((rd_T26 l0 x19_1).f4).length c454_4, .slice none 0 0]) ?_ 5 _ rfl; (with_reducible repeat (first | refine blk_drewN ?_ _ | refine blk_drew ?_ | refine blk_alloc ?_ _)); refine blk_put (cs := #[.int .u64 ((rd_T26 l0 x19_1).f0), .int .u64 ((rd_T26 l0 x19_1).f1), .int .u64 ((rd_T26 l0 x19_1).f2), .int .u64 ((rd_T26 l0 x19_1).f3), .slice none 0 0, .slice none 0 0]) ?_ 4 _ rfl; (with_reducible repeat (first | refine blk_drewN ?_ _ | refine blk_drew ?_ | refine blk_alloc ?_ _)); refine blk_put (cs := #[.int .u64 ((rd_T26 l0 x19_1).f0), .int .u64 ((rd_T26 l0 x19_1).f1), .int .u64 ((rd_T26 l0 x19_1).f2), .int .u64 0, .slice none 0 0, .slice none 0 0]) ?_ 3 _ rfl; (with_reducible repeat (first | refine blk_drewN ?_ _ | refine blk_drew ?_ | refine blk_alloc ?_ _)); refine blk_put (cs := #[.int .u64 ((rd_T26 l0 x19_1).f0), .int .u64 ((rd_T26 l0 x19_1).f1), .int .u64 0, .int .u64 0, .slice none 0 0, .slice none 0 0]) ?_ 2 _ rfl; (with_reducible repeat (first | refine blk_drewN ?_ _ | refine blk_drew ?_ | refine blk_alloc ?_ _)); refine blk_put (cs := #[.int .u64 ((rd_T26 l0 x19_1).f0), .int .u64 0, .int .u64 0, .int .u64 0, .slice none 0 0, .slice none 0 0]) ?_ 1 _ rfl; (with_reducible repeat (first | refine blk_drewN ?_ _ | refine blk_drew ?_ | refine blk_alloc ?_ _)); refine blk_put (cs := #[.int .u64 0, .int .u64 0, .int .u64 0, .int .u64 0, .slice none 0 0, .slice none 0 0]) ?_ 0 _ rfl; (with_reducible repeat (first | refine blk_drewN ?_ _ | refine blk_drew ?_ | refine blk_alloc ?_ _)); exact BK455.out) hb); have n2_ := Aside0.mk (below_step (by repeat (first | (with_reducible first | exact HB.out | apply below_alloc | apply pw_below_drewN | apply below_drew1 | refine below_set ?_ GE453.out | refine below_set ?_ GE455.out) | exact HB.out)) hb); clear BK453; clear BK455; clear HB; have BK453 := n0_; have BK455 := n1_; have HB := n2_; clear n0_ n1_ n2_; (try clear hb); (try clear hb2); (try clear hk); (try clear hi); have hcz26_0 : w25.cell? ⟨gb455, 0, none⟩ = some (.int .u64 ((rd_T26 l0 x19_1).f0)) := (blk_cell BK455.out 0).trans rfl; have hcz26_1 : w25.cell? ⟨gb455, 1, none⟩ = some (.int .u64 ((rd_T26 l0 x19_1).f1)) := (blk_cell BK455.out 1).trans rfl; have hcz26_2 : w25.cell? ⟨gb455, 2, none⟩ = some (.int .u64 ((rd_T26 l0 x19_1).f2)) := (blk_cell BK455.out 2).trans rfl; have hcz26_3 : w25.cell? ⟨gb455, 3, none⟩ = some (.int .u64 ((rd_T26 l0 x19_1).f3)) := (blk_cell BK455.out 3).trans rfl; have hcz26_4 : w25.cell? ⟨gb455, 4, none⟩ = some (.slice A454_4 ((rd_T26 l0 x19_1).f4).length c454_4) := (blk_cell BK455.out 4).trans rfl; have hcz26_5 : w25.cell? ⟨gb455, 5, none⟩ = some (.slice A454_5 ((rd_T26 l0 x19_1).f5).length c454_5) := (blk_cell BK455.out 5).trans rfl; have hfz26_0 := blk_frozen BK455.out 0; have hfz26_1 := blk_frozen BK455.out 1; have hfz26_2 := blk_frozen BK455.out 2; have hfz26_3 := blk_frozen BK455.out 3; have hfz26_4 := blk_frozen BK455.out 4; have hfz26_5 := blk_frozen BK455.out 5; have hcz27_0 : w25.cell? ⟨gb453, 0, none⟩ = some (.int .u64 a1_0) := (blk_cell BK453.out 0).trans rfl; have hcz27_1 : w25.cell? ⟨gb453, 1, none⟩ = some (.int .u64 a1_1) := (blk_cell BK453.out 1).trans rfl; have hcz27_2 : w25.cell? ⟨gb453, 2, none⟩ = some (.int .u64 a1_2) := (blk_cell BK453.out 2).trans rfl; have hcz27_3 : w25.cell? ⟨gb453, 3, none⟩ = some (.int .u64 a1_3) := (blk_cell BK453.out 3).trans rfl; have hcz27_4 : w25.cell? ⟨gb453, 4, none⟩ = some (.slice A1_4 l1_4.length c1_4) := (blk_cell BK453.out 4).trans rfl; have hcz27_5 : w25.cell? ⟨gb453, 5, none⟩ = some (.slice A1_5 l1_5.length c1_5) := (blk_cell BK453.out 5).trans rfl; have hfz27_0 := blk_frozen BK453.out 0; have hfz27_1 := blk_frozen BK453.out 1; have hfz27_2 := blk_frozen BK453.out 2; have hfz27_3 := blk_frozen BK453.out 3; have hfz27_4 := blk_frozen BK453.out 4; have hfz27_5 := blk_frozen BK453.out 5) | (go_at_call 37; (with_reducible refine (span_Meet.calls _ _ ((rd_T26 l0 x19_1).f4) _ _ l1_5 false _ ?side1 ?side2 ?side3 ?side4 A9.out).mono ?_); (case side1 => repeat (first | exact (Kd.C_below HR454_4.out HB.out) | (with_reducible refine Kd.C_alloc ?_ _) | (with_reducible refine Kd.C_drewN ?_ _) | (with_reducible refine Kd.C_drew ?_))); (case side2 => exact HC454_4.out); (case side3 => repeat (first | exact (Kd.C_below HR1_5.out HB.out) | (with_reducible refine Kd.C_alloc ?_ _) | (with_reducible refine Kd.C_drewN ?_ _) | (with_reducible refine Kd.C_drew ?_))); (case side4 => exact HC1_5.out); rintro e w28 ⟨rfl, hb⟩; have n0_ := Aside0.mk (blk_below (g := gb453) (o := .cells #[.int .u64 a1_0, .int .u64 a1_1, .int .u64 a1_2, .int .u64 a1_3, .slice A1_4 l1_4.length c1_4, .slice A1_5 l1_5.length c1_5] 26 (0, 0)) (by (with_reducible repeat (first | refine blk_drewN ?_ _ | refine blk_drew ?_ | refine blk_alloc ?_ _)); exact BK453.out) hb); have n1_ := Aside0.mk (blk_below (g := gb455) (o := .cells #[.int .u64 ((rd_T26 l0 x19_1).f0), .int .u64 ((rd_T26 l0 x19_1).f1), .int .u64 ((rd_T26 l0 x19_1).f2), .int .u64 ((rd_T26 l0 x19_1).f3), .slice A454_4 ((rd_T26 l0 x19_1).f4).length c454_4, .slice A454_5 ((rd_T26 l0 x19_1).f5).length c454_5] 26 (0, 0)) (by (with_reducible repeat (first | refine blk_drewN ?_ _ | refine blk_drew ?_ | refine blk_alloc ?_ _)); exact BK455.out) hb); have n2_ := Aside0.mk (below_step (by repeat (first | (with_reducible first | exact HB.out | apply below_alloc | apply pw_below_drewN | apply below_drew1 | refine below_set ?_ GE453.out | refine below_set ?_ GE455.out) | exact HB.out)) hb); clear BK453; clear BK455; clear HB; have BK453 := n0_; have BK455 := n1_; have HB := n2_; clear n0_ n1_ n2_; (try clear hb); (try clear hb2); (try clear hk); (try clear hi)))
        go_roundg k1
        case measure => have := HK1.out; omega
        case rel => exact ⟨(x7_1), (x8_1), (wrap64 (x19_1 + 1)), (by first | rfl | (simp; done) | (simp [*]; done)), (by first | rfl | (simp; done) | (simp [*]; done)), (by first | rfl | (simp; done) | (simp [*]; done)), H', ⟨by have := HK1.out; omega⟩, ⟨by (with_reducible repeat (first | refine blk_drewN ?_ _ | refine blk_drew ?_ | refine blk_alloc ?_ _)); exact BK453.out⟩, ⟨by repeat (first | (with_reducible first | exact HB.out | apply below_alloc | apply pw_below_drewN | apply below_drew1 | refine below_set ?_ GE453.out | refine below_set ?_ GE455.out) | exact HB.out)⟩⟩
      ·replace c8 := Bool.eq_false_iff.mpr c8
       subst c8
       have H1 : (ssi_Judge.l0 k1 l0 x7_1 x8_1 l0 (l0.length : Int) (wrap64 (x19_1 + 1)) a1_0 a1_1 a1_2 a1_3 l1_4 l1_5) = some (r1, r2) := by rw [if_neg (show ¬ (false = true) by decide)] at H; exact H
       clear H
       have H := H1
       clear H1
       have H' := Aside0.mk H
       clear H
       have p454 : 0 ≤ (x19_1 : Int) := of_decide_eq_true (by first | (with_reducible assumption) | assumption)
       have q454 : x19_1 < (l0.length : Int) := of_decide_eq_true (by first | (with_reducible assumption) | assumption)
       obtain ⟨ad454, A454_4, c454_4, A454_5, c454_5, e454, hx454_0, hx454_1, hx454_2, hx454_3, hx454_4, hx454_5, hl454_4, hi454_4, hl454_5, hi454_5⟩ := at_T26 HR0.out x19_1 p454 q454
       cases e454
       replace hx454_0 := (HB.out.cell (World.block_lt_of_cell? w _ hx454_0)).trans hx454_0
       replace hx454_1 := (HB.out.cell (World.block_lt_of_cell? w _ hx454_1)).trans hx454_1
       replace hx454_2 := (HB.out.cell (World.block_lt_of_cell? w _ hx454_2)).trans hx454_2
       replace hx454_3 := (HB.out.cell (World.block_lt_of_cell? w _ hx454_3)).trans hx454_3
       replace hx454_4 := (HB.out.cell (World.block_lt_of_cell? w _ hx454_4)).trans hx454_4
       replace hx454_5 := (HB.out.cell (World.block_lt_of_cell? w _ hx454_5)).trans hx454_5
       have HR454_4 := Aside0.mk hi454_4
       have HC454_4 := Aside0.mk hl454_4
       clear hi454_4 hl454_4
       have HR454_5 := Aside0.mk hi454_5
       have HC454_5 := Aside0.mk hl454_5
       clear hi454_5 hl454_5
       replace p454 := eq_true p454
       replace q454 := eq_true q454
       go_wp2_with (first | ((with_reducible refine gate_dst (N := 10) rfl ?_); (try (refine gate_guard (by rfl) ?_; dsimp only)); refine box_event ?hg (N := 10) ?hd (cs := #[.int .u64 0, .int .u64 0, .int .u64 0, .int .u64 0, .slice none 0 0, .slice none 0 0]) (t := 26) ?hr ?_; (case hd => rfl); (case hg => rfl); (case hr => first | (go_simp; done) | (go_simp; rfl)); intro gb455 hg w29 hbox hb; have n0_ := Aside0.mk (blk_below (g := gb453) (o := .cells #[.int .u64 a1_0, .int .u64 a1_1, .int .u64 a1_2, .int .u64 a1_3, .slice A1_4 l1_4.length c1_4, .slice A1_5 l1_5.length c1_5] 26 (0, 0)) (by (with_reducible repeat (first | refine blk_drewN ?_ _ | refine blk_drew ?_ | refine blk_alloc ?_ _)); exact BK453.out) hb); have n1_ := Aside0.mk (below_step (by repeat (first | (with_reducible first | exact HB.out | apply below_alloc | apply pw_below_drewN | apply below_drew1 | refine below_set ?_ GE453.out) | exact HB.out)) hb); have n2_ := Aside0.mk (hbox); have n3_ := Aside0.mk ((by rw [hg]; exact (below_size (by repeat (first | (with_reducible first | exact HB.out | apply below_alloc | apply pw_below_drewN | apply below_drew1 | refine below_set ?_ GE453.out) | exact HB.out))) : w.heap.size ≤ gb455)); have n4_ := Aside0.mk ((by rw [hg]; exact (below_size (by repeat (first | (with_reducible first | exact HB.out | apply below_alloc | apply pw_below_drewN | apply below_drew1 | refine below_set ?_ GE453.out) | exact HB.out))) : w.heap.size ≤ gb455)); have n5_ := Aside0.mk ((by rw [hg]; exact Nat.ne_of_lt (blk_lt (g := gb453) (o := .cells #[.int .u64 a1_0, .int .u64 a1_1, .int .u64 a1_2, .int .u64 a1_3, .slice A1_4 l1_4.length c1_4, .slice A1_5 l1_5.length c1_5] 26 (0, 0)) (by (with_reducible repeat (first | refine blk_drewN ?_ _ | refine blk_drew ?_ | refine blk_alloc ?_ _)); exact BK453.out)) : gb453 ≠ gb455)); have n6_ := Aside0.mk ((by rw [hg]; exact Nat.ne_of_gt (blk_lt (g := gb453) (o := .cells #[.int .u64 a1_0, .int .u64 a1_1, .int .u64 a1_2, .int .u64 a1_3, .slice A1_4 l1_4.length c1_4, .slice A1_5 l1_5.length c1_5] 26 (0, 0)) (by (with_reducible repeat (first | refine blk_drewN ?_ _ | refine blk_drew ?_ | refine blk_alloc ?_ _)); exact BK453.out)) : gb455 ≠ gb453)); clear BK453; clear HB; have BK453 := n0_; have HB := n1_; have BK455 := n2_; have GW455 := n3_; have GE455 := n4_; have NB453_455 := n5_; have NB455_453 := n6_; clear n0_ n1_ n2_ n3_ n4_ n5_ n6_; clear hb hbox hg; have hnb30 := NB455_453.out; have hnc30 := NB453_455.out; have hcz31_0 : w29.cell? ⟨gb455, 0, none⟩ = some (.int .u64 0) := (blk_cell BK455.out 0).trans rfl; have hcz31_1 : w29.cell? ⟨gb455, 1, none⟩ = some (.int .u64 0) := (blk_cell BK455.out 1).trans rfl; have hcz31_2 : w29.cell? ⟨gb455, 2, none⟩ = some (.int .u64 0) := (blk_cell BK455.out 2).trans rfl; have hcz31_3 : w29.cell? ⟨gb455, 3, none⟩ = some (.int .u64 0) := (blk_cell BK455.out 3).trans rfl; have hcz31_4 : w29.cell? ⟨gb455, 4, none⟩ = some (.slice none 0 0) := (blk_cell BK455.out 4).trans rfl; have hcz31_5 : w29.cell? ⟨gb455, 5, none⟩ = some (.slice none 0 0) := (blk_cell BK455.out 5).trans rfl; have hfz31_0 := blk_frozen BK455.out 0; have hfz31_1 := blk_frozen BK455.out 1; have hfz31_2 := blk_frozen BK455.out 2; have hfz31_3 := blk_frozen BK455.out 3; have hfz31_4 := blk_frozen BK455.out 4; have hfz31_5 := blk_frozen BK455.out 5) | (go_at_call 55; (with_reducible refine (ssi_Judge_1.calls ((rd_T26 l0 x19_1).f0) ((rd_T26 l0 x19_1).f1) ((rd_T26 l0 x19_1).f2) ((rd_T26 l0 x19_1).f3) _ _ ((rd_T26 l0 x19_1).f4) _ _ ((rd_T26 l0 x19_1).f5) false _ ?side1 ?side2 ?side3 ?side4 A7.out).mono ?_); (case side1 => exact Kd.C_below HR454_4.out (by repeat (first | (with_reducible first | exact HB.out | apply below_alloc | apply pw_below_drewN | apply below_drew1 | refine below_set ?_ GE453.out | refine below_set ?_ GE455.out) | exact HB.out))); (case side2 => exact HC454_4.out); (case side3 => exact Kd.C_below HR454_5.out (by repeat (first | (with_reducible first | exact HB.out | apply below_alloc | apply pw_below_drewN | apply below_drew1 | refine below_set ?_ GE453.out | refine below_set ?_ GE455.out) | exact HB.out))); (case side4 => exact HC454_5.out); rintro e w32 ⟨rfl, hb⟩; have n0_ := Aside0.mk (blk_below (g := gb453) (o := .cells #[.int .u64 a1_0, .int .u64 a1_1, .int .u64 a1_2, .int .u64 a1_3, .slice A1_4 l1_4.length c1_4, .slice A1_5 l1_5.length c1_5] 26 (0, 0)) (by (with_reducible repeat (first | refine blk_drewN ?_ _ | refine blk_drew ?_ | refine blk_alloc ?_ _)); refine blk_far ?_ NB453_455.out _; (with_reducible repeat (first | refine blk_drewN ?_ _ | refine blk_drew ?_ | refine blk_alloc ?_ _)); refine blk_far ?_ NB453_455.out _; (with_reducible repeat (first | refine blk_drewN ?_ _ | refine blk_drew ?_ | refine blk_alloc ?_ _)); refine blk_far ?_ NB453_455.out _; (with_reducible repeat (first | refine blk_drewN ?_ _ | refine blk_drew ?_ | refine blk_alloc ?_ _)); refine blk_far ?_ NB453_455.out _; (with_reducible repeat (first | refine blk_drewN ?_ _ | refine blk_drew ?_ | refine blk_alloc ?_ _)); refine blk_far ?_ NB453_455.out _; (with_reducible repeat (first | refine blk_drewN ?_ _ | refine blk_drew ?_ | refine blk_alloc ?_ _)); refine blk_far ?_ NB453_455.out _; (with_reducible repeat (first | refine blk_drewN ?_ _ | refine blk_drew ?_ | refine blk_alloc ?_ _)); exact BK453.out) hb); have n1_ := Aside0.mk (blk_below (g := gb455) (o := .cells #[.int .u64 ((rd_T26 l0 x19_1).f0), .int .u64 ((rd_T26 l0 x19_1).f1), .int .u64 ((rd_T26 l0 x19_1).f2), .int .u64 ((rd_T26 l0 x19_1).f3), .slice A454_4 ((rd_T26 l0 x19_1).f4).length c454_4, .slice A454_5 ((rd_T26 l0 x19_1).f5).length c454_5] 26 (0, 0)) (by (with_reducible repeat (first | refine blk_drewN ?_ _ | refine blk_drew ?_ | refine blk_alloc ?_ _)); refine blk_put (cs := #[.int .u64 ((rd_T26 l0 x19_1).f0), .int .u64 ((rd_T26 l0 x19_1).f1), .int .u64 ((rd_T26 l0 x19_1).f2), .int .u64 ((rd_T26 l0 x19_1).f3), .slice A454_4 ((rd_T26 l0 x19_1).f4).length c454_4, .slice none 0 0]) ?_ 5 _ rfl; (with_reducible repeat (first | refine blk_drewN ?_ _ | refine blk_drew ?_ | refine blk_alloc ?_ _)); refine blk_put (cs := #[.int .u64 ((rd_T26 l0 x19_1).f0), .int .u64 ((rd_T26 l0 x19_1).f1), .int .u64 ((rd_T26 l0 x19_1).f2), .int .u64 ((rd_T26 l0 x19_1).f3), .slice none 0 0, .slice none 0 0]) ?_ 4 _ rfl; (with_reducible repeat (first | refine blk_drewN ?_ _ | refine blk_drew ?_ | refine blk_alloc ?_ _)); refine blk_put (cs := #[.int .u64 ((rd_T26 l0 x19_1).f0), .int .u64 ((rd_T26 l0 x19_1).f1), .int .u64 ((rd_T26 l0 x19_1).f2), .int .u64 0, .slice none 0 0, .slice none 0 0]) ?_ 3 _ rfl; (with_reducible repeat (first | refine blk_drewN ?_ _ | refine blk_drew ?_ | refine blk_alloc ?_ _)); refine blk_put (cs := #[.int .u64 ((rd_T26 l0 x19_1).f0), .int .u64 ((rd_T26 l0 x19_1).f1), .int .u64 0, .int .u64 0, .slice none 0 0, .slice none 0 0]) ?_ 2 _ rfl; (with_reducible repeat (first | refine blk_drewN ?_ _ | refine blk_drew ?_ | refine blk_alloc ?_ _)); refine blk_put (cs := #[.int .u64 ((rd_T26 l0 x19_1).f0), .int .u64 0, .int .u64 0, .int .u64 0, .slice none 0 0, .slice none 0 0]) ?_ 1 _ rfl; (with_reducible repeat (first | refine blk_drewN ?_ _ | refine blk_drew ?_ | refine blk_alloc ?_ _)); refine blk_put (cs := #[.int .u64 0, .int .u64 0, .int .u64 0, .int .u64 0, .slice none 0 0, .slice none 0 0]) ?_ 0 _ rfl; (with_reducible repeat (first | refine blk_drewN ?_ _ | refine blk_drew ?_ | refine blk_alloc ?_ _)); exact BK455.out) hb); have n2_ := Aside0.mk (below_step (by repeat (first | (with_reducible first | exact HB.out | apply below_alloc | apply pw_below_drewN | apply below_drew1 | refine below_set ?_ GE453.out | refine below_set ?_ GE455.out) | exact HB.out)) hb); clear BK453; clear BK455; clear HB; have BK453 := n0_; have BK455 := n1_; have HB := n2_; clear n0_ n1_ n2_; (try clear hb); (try clear hb2); (try clear hk); (try clear hi)))
       go_roundg k1
       case measure => have := HK1.out; omega
       case rel => exact ⟨(x7_1), (x8_1), (wrap64 (x19_1 + 1)), (by first | rfl | (simp; done) | (simp [*]; done)), (by first | rfl | (simp; done) | (simp [*]; done)), (by first | rfl | (simp; done) | (simp [*]; done)), H', ⟨by have := HK1.out; omega⟩, ⟨by (with_reducible repeat (first | refine blk_drewN ?_ _ | refine blk_drew ?_ | refine blk_alloc ?_ _)); exact BK453.out⟩, ⟨by repeat (first | (with_reducible first | exact HB.out | apply below_alloc | apply pw_below_drewN | apply below_drew1 | refine below_set ?_ GE453.out | refine below_set ?_ GE455.out) | exact HB.out)⟩⟩
     ·rw [if_neg c6] at H
      exact absurd H (by simp)
    ·rw [if_neg c5] at H
     exact absurd H (by simp)
   ·rw [if_neg c4] at H
    have c4b0 : decide (x19_1 < (l0.length : Int)) = false := decide_eq_false c4
    clear c4
    have H' := Aside0.mk H
    clear H
    go_wp2
    (try (go_step3; (try go_wp2)))
    (try (go_step3; (try go_wp2)))
    go_loopg [11, 12, 13, 40] k1 (fun kq v11 v12 v13 v40 w' => ∃ (x11_2 : Int) (x12_2 : Bool) (x13_2 : Bool) (x40_2 : Int), v11 = .int .u64 x11_2 ∧ v12 = .bool x12_2 ∧ v13 = .bool x13_2 ∧ v40 = .int .i64 x40_2 ∧ Aside0 (ssi_Judge.l1 kq x7_1 x8_1 x11_2 x12_2 x13_2 l0 (l0.length : Int) x40_2 a1_0 a1_1 a1_2 a1_3 l1_4 l1_5 = some (r1, r2)) ∧ Aside0 (kq ≤ k1) ∧ Aside0 (w'.heap[gb453]? = some (.cells #[.int .u64 a1_0, .int .u64 a1_1, .int .u64 a1_2, .int .u64 a1_3, (.slice A1_4 l1_4.length c1_4), (.slice A1_5 l1_5.length c1_5)] 26 (0, 0))) ∧ Aside0 (Below w.heap.size w w'))
    case atStart => exact ⟨(0), (false), (false), (0), (by first | rfl | (simp; done) | (simp [*]; done)), (by first | rfl | (simp; done) | (simp [*]; done)), (by first | rfl | (simp; done) | (simp [*]; done)), (by first | rfl | (simp; done) | (simp [*]; done)), H', ⟨Nat.le_refl _⟩, ⟨by (with_reducible repeat (first | refine blk_drewN ?_ _ | refine blk_drew ?_ | refine blk_alloc ?_ _)); exact BK453.out⟩, ⟨by repeat (first | (with_reducible first | exact HB.out | apply below_alloc | apply pw_below_drewN | apply below_drew1 | refine below_set ?_ GE453.out) | exact HB.out)⟩⟩
    case round =>
     clear H'
     try clear c1
     try clear c2
     try clear p2
     try clear c3
     try clear c4
     try clear c4b0
     try clear p4
     try clear q4
     try clear hx4
     try clear c5
     try clear c5b0
     try clear c6
     try clear c6b0
     try clear p6
     try clear c8
     try clear c10
     try clear c14
     try clear c18
     try clear c23
     try clear c30
     try clear hcz15_0
     try clear hcz15_1
     try clear hcz15_2
     try clear hcz15_3
     try clear hcz15_4
     try clear hcz15_5
     try clear hcz17_0
     try clear hcz17_1
     try clear hcz17_2
     try clear hcz17_3
     try clear hcz17_4
     try clear hcz17_5
     try clear hcz18_0
     try clear hcz18_1
     try clear hcz18_2
     try clear hcz18_3
     try clear hcz18_4
     try clear hcz18_5
     try clear hcz20_0
     try clear hcz20_1
     try clear hcz20_2
     try clear hcz20_3
     try clear hcz20_4
     try clear hcz20_5
     try clear hcz24_0
     try clear hcz24_1
     try clear hcz24_2
     try clear hcz24_3
     try clear hcz24_4
     try clear hcz24_5
     try clear hcz26_0
     try clear hcz26_1
     try clear hcz26_2
     try clear hcz26_3
     try clear hcz26_4
     try clear hcz26_5
     try clear hcz27_0
     try clear hcz27_1
     try clear hcz27_2
     try clear hcz27_3
     try clear hcz27_4
     try clear hcz27_5
     try clear hcz31_0
     try clear hcz31_1
     try clear hcz31_2
     try clear hcz31_3
     try clear hcz31_4
     try clear hcz31_5
     try clear hfz15_0
     try clear hfz15_1
     try clear hfz15_2
     try clear hfz15_3
     try clear hfz15_4
     try clear hfz15_5
     try clear hfz17_0
     try clear hfz17_1
     try clear hfz17_2
     try clear hfz17_3
     try clear hfz17_4
     try clear hfz17_5
     try clear hfz18_0
     try clear hfz18_1
     try clear hfz18_2
     try clear hfz18_3
     try clear hfz18_4
     try clear hfz18_5
     try clear hfz20_0
     try clear hfz20_1
     try clear hfz20_2
     try clear hfz20_3
     try clear hfz20_4
     try clear hfz20_5
     try clear hfz24_0
     try clear hfz24_1
     try clear hfz24_2
     try clear hfz24_3
     try clear hfz24_4
     try clear hfz24_5
     try clear hfz26_0
     try clear hfz26_1
     try clear hfz26_2
     try clear hfz26_3
     try clear hfz26_4
     try clear hfz26_5
     try clear hfz27_0
     try clear hfz27_1
     try clear hfz27_2
     try clear hfz27_3
     try clear hfz27_4
     try clear hfz27_5
     try clear hfz31_0
     try clear hfz31_1
     try clear hfz31_2
     try clear hfz31_3
     try clear hfz31_4
     try clear hfz31_5
     try clear hx454_0
     try clear hx454_1
     try clear hx454_2
     try clear hx454_3
     try clear hx454_4
     try clear hx454_5
     try clear p2
     try clear p454
     try clear q454
     obtain ⟨x11_2, x12_2, x13_2, x40_2, rfl, rfl, rfl, rfl, HA, HK2, BK453, HB⟩ := hrel
     cases gk with
     | zero => exact absurd HA.out (by simp [ssi_Judge.l1])
     | succ k2 =>
      have H := HA.out
      clear HA
      simp only [ssi_Judge.l1] at H
      by_cases c33 : x40_2 < (l0.length : Int)
      ·rw [if_pos c33] at H
       have c33b0 : decide (x40_2 < (l0.length : Int)) = true := decide_eq_true c33
       clear c33
       by_cases c34 : 0 ≤ x40_2
       ·rw [if_pos c34] at H
        have c34b0 : decide (0 ≤ x40_2) = true := decide_eq_true c34
        clear c34
        by_cases c35 : x40_2 < (l0.length : Int)
        ·rw [if_pos c35] at H
         have c35b0 : decide (x40_2 < (l0.length : Int)) = true := decide_eq_true c35
         clear c35
         have HC36 := Aside0.mk H
         clear H
         have p459 : 0 ≤ (x40_2 : Int) := of_decide_eq_true (by first | (with_reducible assumption) | assumption)
         have q459 : x40_2 < (l0.length : Int) := of_decide_eq_true (by first | (with_reducible assumption) | assumption)
         obtain ⟨ad459, A459_4, c459_4, A459_5, c459_5, e459, hx459_0, hx459_1, hx459_2, hx459_3, hx459_4, hx459_5, hl459_4, hi459_4, hl459_5, hi459_5⟩ := at_T26 HR0.out x40_2 p459 q459
         cases e459
         replace hx459_0 := (HB.out.cell (World.block_lt_of_cell? w _ hx459_0)).trans hx459_0
         replace hx459_1 := (HB.out.cell (World.block_lt_of_cell? w _ hx459_1)).trans hx459_1
         replace hx459_2 := (HB.out.cell (World.block_lt_of_cell? w _ hx459_2)).trans hx459_2
         replace hx459_3 := (HB.out.cell (World.block_lt_of_cell? w _ hx459_3)).trans hx459_3
         replace hx459_4 := (HB.out.cell (World.block_lt_of_cell? w _ hx459_4)).trans hx459_4
         replace hx459_5 := (HB.out.cell (World.block_lt_of_cell? w _ hx459_5)).trans hx459_5
         have HR459_4 := Aside0.mk hi459_4
         have HC459_4 := Aside0.mk hl459_4
         clear hi459_4 hl459_4
         have HR459_5 := Aside0.mk hi459_5
         have HC459_5 := Aside0.mk hl459_5
         clear hi459_5 hl459_5
         replace p459 := eq_true p459
         replace q459 := eq_true q459
         go_upto_region 13 with (first | ((with_reducible refine gate_dst (N := 15) rfl ?_); (try (refine gate_guard (by rfl) ?_; dsimp only)); refine box_event ?hg (N := 15) ?hd (cs := #[.int .u64 0, .int .u64 0, .int .u64 0, .int .u64 0, .slice none 0 0, .slice none 0 0]) (t := 26) ?hr ?_; (case hd => rfl); (case hg => rfl); (case hr => first | (go_simp; done) | (go_simp; rfl)); intro gb460 hg w37 hbox hb; have n0_ := Aside0.mk (blk_below (g := gb453) (o := .cells #[.int .u64 a1_0, .int .u64 a1_1, .int .u64 a1_2, .int .u64 a1_3, .slice A1_4 l1_4.length c1_4, .slice A1_5 l1_5.length c1_5] 26 (0, 0)) (by (with_reducible repeat (first | refine blk_drewN ?_ _ | refine blk_drew ?_ | refine blk_alloc ?_ _)); exact BK453.out) hb); have n1_ := Aside0.mk (below_step (by repeat (first | (with_reducible first | exact HB.out | apply below_alloc | apply pw_below_drewN | apply below_drew1 | refine below_set ?_ GE453.out) | exact HB.out)) hb); have n2_ := Aside0.mk (hbox); have n3_ := Aside0.mk ((by rw [hg]; exact (below_size (by repeat (first | (with_reducible first | exact HB.out | apply below_alloc | apply pw_below_drewN | apply below_drew1 | refine below_set ?_ GE453.out) | exact HB.out))) : w.heap.size ≤ gb460)); have n4_ := Aside0.mk ((by rw [hg]; exact (below_size (by repeat (first | (with_reducible first | exact HB.out | apply below_alloc | apply pw_below_drewN | apply below_drew1 | refine below_set ?_ GE453.out) | exact HB.out))) : w.heap.size ≤ gb460)); have n5_ := Aside0.mk ((by rw [hg]; exact Nat.ne_of_lt (blk_lt (g := gb453) (o := .cells #[.int .u64 a1_0, .int .u64 a1_1, .int .u64 a1_2, .int .u64 a1_3, .slice A1_4 l1_4.length c1_4, .slice A1_5 l1_5.length c1_5] 26 (0, 0)) (by (with_reducible repeat (first | refine blk_drewN ?_ _ | refine blk_drew ?_ | refine blk_alloc ?_ _)); exact BK453.out)) : gb453 ≠ gb460)); have n6_ := Aside0.mk ((by rw [hg]; exact Nat.ne_of_gt (blk_lt (g := gb453) (o := .cells #[.int .u64 a1_0, .int .u64 a1_1, .int .u64 a1_2, .int .u64 a1_3, .slice A1_4 l1_4.length c1_4, .slice A1_5 l1_5.length c1_5] 26 (0, 0)) (by (with_reducible repeat (first | refine blk_drewN ?_ _ | refine blk_drew ?_ | refine blk_alloc ?_ _)); exact BK453.out)) : gb460 ≠ gb453)); clear BK453; clear HB; have BK453 := n0_; have HB := n1_; have BK460 := n2_; have GW460 := n3_; have GE460 := n4_; have NB453_460 := n5_; have NB460_453 := n6_; clear n0_ n1_ n2_ n3_ n4_ n5_ n6_; clear hb hbox hg; have hnb38 := NB460_453.out; have hnc38 := NB453_460.out; have hcz39_0 : w37.cell? ⟨gb460, 0, none⟩ = some (.int .u64 0) := (blk_cell BK460.out 0).trans rfl; have hcz39_1 : w37.cell? ⟨gb460, 1, none⟩ = some (.int .u64 0) := (blk_cell BK460.out 1).trans rfl; have hcz39_2 : w37.cell? ⟨gb460, 2, none⟩ = some (.int .u64 0) := (blk_cell BK460.out 2).trans rfl; have hcz39_3 : w37.cell? ⟨gb460, 3, none⟩ = some (.int .u64 0) := (blk_cell BK460.out 3).trans rfl; have hcz39_4 : w37.cell? ⟨gb460, 4, none⟩ = some (.slice none 0 0) := (blk_cell BK460.out 4).trans rfl; have hcz39_5 : w37.cell? ⟨gb460, 5, none⟩ = some (.slice none 0 0) := (blk_cell BK460.out 5).trans rfl; have hfz39_0 := blk_frozen BK460.out 0; have hfz39_1 := blk_frozen BK460.out 1; have hfz39_2 := blk_frozen BK460.out 2; have hfz39_3 := blk_frozen BK460.out 3; have hfz39_4 := blk_frozen BK460.out 4; have hfz39_5 := blk_frozen BK460.out 5))
         (try simp only [Act.put, List.setIfInBounds_toArray, List.set_cons_zero, List.set_cons_succ])
         go_cut [55] (fun v55 wc => ∃ (kq : Nat) (x55_35 : Bool), v55 = .bool x55_35 ∧ Aside0 (ssi_Judge.j2 kq x7_1 x8_1 x11_2 x12_2 x13_2 l0 (l0.length : Int) x40_2 x55_35 a1_0 a1_1 a1_2 a1_3 l1_4 l1_5 ((rd_T26 l0 x40_2).f0) ((rd_T26 l0 x40_2).f1) ((rd_T26 l0 x40_2).f2) ((rd_T26 l0 x40_2).f3) ((rd_T26 l0 x40_2).f4) ((rd_T26 l0 x40_2).f5) = some (r1, r2)) ∧ Aside0 (kq ≤ k2) ∧ Aside0 (wc.heap[gb453]? = some (.cells #[.int .u64 a1_0, .int .u64 a1_1, .int .u64 a1_2, .int .u64 a1_3, (.slice A1_4 l1_4.length c1_4), (.slice A1_5 l1_5.length c1_5)] 26 (0, 0))) ∧ Aside0 (wc.heap[gb460]? = some (.cells #[.int .u64 ((rd_T26 l0 x40_2).f0), .int .u64 ((rd_T26 l0 x40_2).f1), .int .u64 ((rd_T26 l0 x40_2).f2), .int .u64 ((rd_T26 l0 x40_2).f3), (.slice A459_4 ((rd_T26 l0 x40_2).f4).length c459_4), (.slice A459_5 ((rd_T26 l0 x40_2).f5).length c459_5)] 26 (0, 0))) ∧ Aside0 (Below w.heap.size w wc))
         case first =>
          have H := HC36.out
          clear HC36
          replace H := Option.bind_eq_some_iff.mp H
          obtain ⟨t461, A400, H⟩ := H
          replace H : (if t461 = true then ((span_Meet.f l1_4 ((rd_T26 l0 x40_2).f5)).bind fun t462 => (ssi_Judge.j2 k2 x7_1 x8_1 x11_2 x12_2 x13_2 l0 (l0.length : Int) x40_2 (!t462) a1_0 a1_1 a1_2 a1_3 l1_4 l1_5 ((rd_T26 l0 x40_2).f0) ((rd_T26 l0 x40_2).f1) ((rd_T26 l0 x40_2).f2) ((rd_T26 l0 x40_2).f3) ((rd_T26 l0 x40_2).f4) ((rd_T26 l0 x40_2).f5))) else (ssi_Judge.j2 k2 x7_1 x8_1 x11_2 x12_2 x13_2 l0 (l0.length : Int) x40_2 true a1_0 a1_1 a1_2 a1_3 l1_4 l1_5 ((rd_T26 l0 x40_2).f0) ((rd_T26 l0 x40_2).f1) ((rd_T26 l0 x40_2).f2) ((rd_T26 l0 x40_2).f3) ((rd_T26 l0 x40_2).f4) ((rd_T26 l0 x40_2).f5))) = some (r1, r2) := H
          have A40 := Aside0.mk A400
          clear A400
          by_cases c41 : t461 = true
          ·subst c41
           have H1 : ((span_Meet.f l1_4 ((rd_T26 l0 x40_2).f5)).bind fun t462 => (ssi_Judge.j2 k2 x7_1 x8_1 x11_2 x12_2 x13_2 l0 (l0.length : Int) x40_2 (!t462) a1_0 a1_1 a1_2 a1_3 l1_4 l1_5 ((rd_T26 l0 x40_2).f0) ((rd_T26 l0 x40_2).f1) ((rd_T26 l0 x40_2).f2) ((rd_T26 l0 x40_2).f3) ((rd_T26 l0 x40_2).f4) ((rd_T26 l0 x40_2).f5))) = some (r1, r2) := by rw [if_pos rfl] at H; exact H
           clear H
           have H := H1
           clear H1
           replace H := Option.bind_eq_some_iff.mp H
           obtain ⟨t462, A420, H⟩ := H
           replace H : (ssi_Judge.j2 k2 x7_1 x8_1 x11_2 x12_2 x13_2 l0 (l0.length : Int) x40_2 (!t462) a1_0 a1_1 a1_2 a1_3 l1_4 l1_5 ((rd_T26 l0 x40_2).f0) ((rd_T26 l0 x40_2).f1) ((rd_T26 l0 x40_2).f2) ((rd_T26 l0 x40_2).f3) ((rd_T26 l0 x40_2).f4) ((rd_T26 l0 x40_2).f5)) = some (r1, r2) := H
           have A42 := Aside0.mk A420
           clear A420
           have H' := Aside0.mk H
           clear H
           have hnb43 := NB460_453.out
           have hnc43 := NB453_460.out
           have hcz44_0 : w37.cell? ⟨gb460, 0, none⟩ = some (.int .u64 0) := (blk_cell BK460.out 0).trans rfl
           have hcz44_1 : w37.cell? ⟨gb460, 1, none⟩ = some (.int .u64 0) := (blk_cell BK460.out 1).trans rfl
           have hcz44_2 : w37.cell? ⟨gb460, 2, none⟩ = some (.int .u64 0) := (blk_cell BK460.out 2).trans rfl
           have hcz44_3 : w37.cell? ⟨gb460, 3, none⟩ = some (.int .u64 0) := (blk_cell BK460.out 3).trans rfl
           have hcz44_4 : w37.cell? ⟨gb460, 4, none⟩ = some (.slice none 0 0) := (blk_cell BK460.out 4).trans rfl
           have hcz44_5 : w37.cell? ⟨gb460, 5, none⟩ = some (.slice none 0 0) := (blk_cell BK460.out 5).trans rfl
           have hfz44_0 := blk_frozen BK460.out 0
           have hfz44_1 := blk_frozen BK460.out 1
           have hfz44_2 := blk_frozen BK460.out 2
           have hfz44_3 := blk_frozen BK460.out 3
           have hfz44_4 := blk_frozen BK460.out 4
           have hfz44_5 := blk_frozen BK460.out 5
           go_wp2_with (first | (go_at_call 55; (with_reducible refine (ssi_Judge_1.calls ((rd_T26 l0 x40_2).f0) ((rd_T26 l0 x40_2).f1) ((rd_T26 l0 x40_2).f2) ((rd_T26 l0 x40_2).f3) _ _ ((rd_T26 l0 x40_2).f4) _ _ ((rd_T26 l0 x40_2).f5) true _ ?side1 ?side2 ?side3 ?side4 A40.out).mono ?_); (case side1 => exact Kd.C_below HR459_4.out (by repeat (first | (with_reducible first | exact HB.out | apply below_alloc | apply pw_below_drewN | apply below_drew1 | refine below_set ?_ GE453.out | refine below_set ?_ GE460.out) | exact HB.out))); (case side2 => exact HC459_4.out); (case side3 => exact Kd.C_below HR459_5.out (by repeat (first | (with_reducible first | exact HB.out | apply below_alloc | apply pw_below_drewN | apply below_drew1 | refine below_set ?_ GE453.out | refine below_set ?_ GE460.out) | exact HB.out))); (case side4 => exact HC459_5.out); rintro e w45 ⟨rfl, hb⟩; have n0_ := Aside0.mk (blk_below (g := gb453) (o := .cells #[.int .u64 a1_0, .int .u64 a1_1, .int .u64 a1_2, .int .u64 a1_3, .slice A1_4 l1_4.length c1_4, .slice A1_5 l1_5.length c1_5] 26 (0, 0)) (by (with_reducible repeat (first | refine blk_drewN ?_ _ | refine blk_drew ?_ | refine blk_alloc ?_ _)); refine blk_far ?_ NB453_460.out _; (with_reducible repeat (first | refine blk_drewN ?_ _ | refine blk_drew ?_ | refine blk_alloc ?_ _)); refine blk_far ?_ NB453_460.out _; (with_reducible repeat (first | refine blk_drewN ?_ _ | refine blk_drew ?_ | refine blk_alloc ?_ _)); refine blk_far ?_ NB453_460.out _; (with_reducible repeat (first | refine blk_drewN ?_ _ | refine blk_drew ?_ | refine blk_alloc ?_ _)); refine blk_far ?_ NB453_460.out _; (with_reducible repeat (first | refine blk_drewN ?_ _ | refine blk_drew ?_ | refine blk_alloc ?_ _)); refine blk_far ?_ NB453_460.out _; (with_reducible repeat (first | refine blk_drewN ?_ _ | refine blk_drew ?_ | refine blk_alloc ?_ _)); refine blk_far ?_ NB453_460.out _; (with_reducible repeat (first | refine blk_drewN ?_ _ | refine blk_drew ?_ | refine blk_alloc ?_ _)); exact BK453.out) hb); have n1_ := Aside0.mk (blk_below (g := gb460) (o := .cells #[.int .u64 ((rd_T26 l0 x40_2).f0), .int .u64 ((rd_T26 l0 x40_2).f1), .int .u64 ((rd_T26 l0 x40_2).f2), .int .u64 ((rd_T26 l0 x40_2).f3), .slice A459_4 ((rd_T26 l0 x40_2).f4).length c459_4, .slice A459_5 ((rd_T26 l0 x40_2).f5).length c459_5] 26 (0, 0)) (by (with_reducible repeat (first | refine blk_drewN ?_ _ | refine blk_drew ?_ | refine blk_alloc ?_ _)); refine blk_put (cs := #[.int .u64 ((rd_T26 l0 x40_2).f0), .int .u64 ((rd_T26 l0 x40_2).f1), .int .u64 ((rd_T26 l0 x40_2).f2), .int .u64 ((rd_T26 l0 x40_2).f3), .slice A459_4 ((rd_T26 l0 x40_2).f4).length c459_4, .slice none 0 0]) ?_ 5 _ rfl; (with_reducible repeat (first | refine blk_drewN ?_ _ | refine blk_drew ?_ | refine blk_alloc ?_ _)); refine blk_put (cs := #[.int .u64 ((rd_T26 l0 x40_2).f0), .int .u64 ((rd_T26 l0 x40_2).f1), .int .u64 ((rd_T26 l0 x40_2).f2), .int .u64 ((rd_T26 l0 x40_2).f3), .slice none 0 0, .slice none 0 0]) ?_ 4 _ rfl; (with_reducible repeat (first | refine blk_drewN ?_ _ | refine blk_drew ?_ | refine blk_alloc ?_ _)); refine blk_put (cs := #[.int .u64 ((rd_T26 l0 x40_2).f0), .int .u64 ((rd_T26 l0 x40_2).f1), .int .u64 ((rd_T26 l0 x40_2).f2), .int .u64 0, .slice none 0 0, .slice none 0 0]) ?_ 3 _ rfl; (with_reducible repeat (first | refine blk_drewN ?_ _ | refine blk_drew ?_ | refine blk_alloc ?_ _)); refine blk_put (cs := #[.int .u64 ((rd_T26 l0 x40_2).f0), .int .u64 ((rd_T26 l0 x40_2).f1), .int .u64 0, .int .u64 0, .slice none 0 0, .slice none 0 0]) ?_ 2 _ rfl; (with_reducible repeat (first | refine blk_drewN ?_ _ | refine blk_drew ?_ | refine blk_alloc ?_ _)); refine blk_put (cs := #[.int .u64 ((rd_T26 l0 x40_2).f0), .int .u64 0, .int .u64 0, .int .u64 0, .slice none 0 0, .slice none 0 0]) ?_ 1 _ rfl; (with_reducible repeat (first | refine blk_drewN ?_ _ | refine blk_drew ?_ | refine blk_alloc ?_ _)); refine blk_put (cs := #[.int .u64 0, .int .u64 0, .int .u64 0, .int .u64 0, .slice none 0 0, .slice none 0 0]) ?_ 0 _ rfl; (with_reducible repeat (first | refine blk_drewN ?_ _ | refine blk_drew ?_ | refine blk_alloc ?_ _)); exact BK460.out) hb); have n2_ := Aside0.mk (below_step (by repeat (first | (with_reducible first | exact HB.out | apply below_alloc | apply pw_below_drewN | apply below_drew1 | refine below_set ?_ GE453.out | refine below_set ?_ GE460.out) | exact HB.out)) hb); clear BK453; clear BK460; clear HB; have BK453 := n0_; have BK460 := n1_; have HB := n2_; clear n0_ n1_ n2_; (try clear hb); (try clear hb2); (try clear hk); (try clear hi); have hcz46_0 : w45.cell? ⟨gb453, 0, none⟩ = some (.int .u64 a1_0) := (blk_cell BK453.out 0).trans rfl; have hcz46_1 : w45.cell? ⟨gb453, 1, none⟩ = some (.int .u64 a1_1) := (blk_cell BK453.out 1).trans rfl; have hcz46_2 : w45.cell? ⟨gb453, 2, none⟩ = some (.int .u64 a1_2) := (blk_cell BK453.out 2).trans rfl; have hcz46_3 : w45.cell? ⟨gb453, 3, none⟩ = some (.int .u64 a1_3) := (blk_cell BK453.out 3).trans rfl; have hcz46_4 : w45.cell? ⟨gb453, 4, none⟩ = some (.slice A1_4 l1_4.length c1_4) := (blk_cell BK453.out 4).trans rfl; have hcz46_5 : w45.cell? ⟨gb453, 5, none⟩ = some (.slice A1_5 l1_5.length c1_5) := (blk_cell BK453.out 5).trans rfl; have hfz46_0 := blk_frozen BK453.out 0; have hfz46_1 := blk_frozen BK453.out 1; have hfz46_2 := blk_frozen BK453.out 2; have hfz46_3 := blk_frozen BK453.out 3; have hfz46_4 := blk_frozen BK453.out 4; have hfz46_5 := blk_frozen BK453.out 5; have hcz47_0 : w45.cell? ⟨gb460, 0, none⟩ = some (.int .u64 ((rd_T26 l0 x40_2).f0)) := (blk_cell BK460.out 0).trans rfl; have hcz47_1 : w45.cell? ⟨gb460, 1, none⟩ = some (.int .u64 ((rd_T26 l0 x40_2).f1)) := (blk_cell BK460.out 1).trans rfl; have hcz47_2 : w45.cell? ⟨gb460, 2, none⟩ = some (.int .u64 ((rd_T26 l0 x40_2).f2)) := (blk_cell BK460.out 2).trans rfl; have hcz47_3 : w45.cell? ⟨gb460, 3, none⟩ = some (.int .u64 ((rd_T26 l0 x40_2).f3)) := (blk_cell BK460.out 3).trans rfl; have hcz47_4 : w45.cell? ⟨gb460, 4, none⟩ = some (.slice A459_4 ((rd_T26 l0 x40_2).f4).length c459_4) := (blk_cell BK460.out 4).trans rfl; have hcz47_5 : w45.cell? ⟨gb460, 5, none⟩ = some (.slice A459_5 ((rd_T26 l0 x40_2).f5).length c459_5) := (blk_cell BK460.out 5).trans rfl; have hfz47_0 := blk_frozen BK460.out 0; have hfz47_1 := blk_frozen BK460.out 1; have hfz47_2 := blk_frozen BK460.out 2; have hfz47_3 := blk_frozen BK460.out 3; have hfz47_4 := blk_frozen BK460.out 4; have hfz47_5 := blk_frozen BK460.out 5) | (go_at_call 37; (with_reducible refine (span_Meet.calls _ _ l1_4 _ _ ((rd_T26 l0 x40_2).f5) t462 _ ?side1 ?side2 ?side3 ?side4 A42.out).mono ?_); (case side1 => repeat (first | exact (Kd.C_below HR1_4.out HB.out) | (with_reducible refine Kd.C_alloc ?_ _) | (with_reducible refine Kd.C_drewN ?_ _) | (with_reducible refine Kd.C_drew ?_))); (case side2 => exact HC1_4.out); (case side3 => repeat (first | exact (Kd.C_below HR459_5.out HB.out) | (with_reducible refine Kd.C_alloc ?_ _) | (with_reducible refine Kd.C_drewN ?_ _) | (with_reducible refine Kd.C_drew ?_))); (case side4 => exact HC459_5.out); rintro e w48 ⟨rfl, hb⟩; have n0_ := Aside0.mk (blk_below (g := gb453) (o := .cells #[.int .u64 a1_0, .int .u64 a1_1, .int .u64 a1_2, .int .u64 a1_3, .slice A1_4 l1_4.length c1_4, .slice A1_5 l1_5.length c1_5] 26 (0, 0)) (by (with_reducible repeat (first | refine blk_drewN ?_ _ | refine blk_drew ?_ | refine blk_alloc ?_ _)); exact BK453.out) hb); have n1_ := Aside0.mk (blk_below (g := gb460) (o := .cells #[.int .u64 ((rd_T26 l0 x40_2).f0), .int .u64 ((rd_T26 l0 x40_2).f1), .int .u64 ((rd_T26 l0 x40_2).f2), .int .u64 ((rd_T26 l0 x40_2).f3), .slice A459_4 ((rd_T26 l0 x40_2).f4).length c459_4, .slice A459_5 ((rd_T26 l0 x40_2).f5).length c459_5] 26 (0, 0)) (by (with_reducible repeat (first | refine blk_drewN ?_ _ | refine blk_drew ?_ | refine blk_alloc ?_ _)); exact BK460.out) hb); have n2_ := Aside0.mk (below_step (by repeat (first | (with_reducible first | exact HB.out | apply below_alloc | apply pw_below_drewN | apply below_drew1 | refine below_set ?_ GE453.out | refine below_set ?_ GE460.out) | exact HB.out)) hb); clear BK453; clear BK460; clear HB; have BK453 := n0_; have BK460 := n1_; have HB := n2_; clear n0_ n1_ n2_; (try clear hb); (try clear hb2); (try clear hk); (try clear hi)))
           go_meet
           case rel => exact ⟨_, (!t462), (by first | rfl | (simp; done) | (simp [*]; done)), H', ⟨by have := HK1.out; have := HK2.out; first | omega | exact Nat.le_refl _⟩, ⟨by (with_reducible repeat (first | refine blk_drewN ?_ _ | refine blk_drew ?_ | refine blk_alloc ?_ _)); exact BK453.out⟩, ⟨by (with_reducible repeat (first | refine blk_drewN ?_ _ | refine blk_drew ?_ | refine blk_alloc ?_ _)); exact BK460.out⟩, ⟨by repeat (first | (with_reducible first | exact HB.out | apply below_alloc | apply pw_below_drewN | apply below_drew1 | refine below_set ?_ GE453.out | refine below_set ?_ GE460.out) | exact HB.out)⟩⟩
          ·replace c41 := Bool.eq_false_iff.mpr c41
           subst c41
           have H1 : (ssi_Judge.j2 k2 x7_1 x8_1 x11_2 x12_2 x13_2 l0 (l0.length : Int) x40_2 true a1_0 a1_1 a1_2 a1_3 l1_4 l1_5 ((rd_T26 l0 x40_2).f0) ((rd_T26 l0 x40_2).f1) ((rd_T26 l0 x40_2).f2) ((rd_T26 l0 x40_2).f3) ((rd_T26 l0 x40_2).f4) ((rd_T26 l0 x40_2).f5)) = some (r1, r2) := by rw [if_neg (show ¬ (false = true) by decide)] at H; exact H
           clear H
           have H := H1
           clear H1
           have H' := Aside0.mk H
           clear H
           have hnb49 := NB460_453.out
           have hnc49 := NB453_460.out
           have hcz50_0 : w37.cell? ⟨gb460, 0, none⟩ = some (.int .u64 0) := (blk_cell BK460.out 0).trans rfl
           have hcz50_1 : w37.cell? ⟨gb460, 1, none⟩ = some (.int .u64 0) := (blk_cell BK460.out 1).trans rfl
           have hcz50_2 : w37.cell? ⟨gb460, 2, none⟩ = some (.int .u64 0) := (blk_cell BK460.out 2).trans rfl
           have hcz50_3 : w37.cell? ⟨gb460, 3, none⟩ = some (.int .u64 0) := (blk_cell BK460.out 3).trans rfl
           have hcz50_4 : w37.cell? ⟨gb460, 4, none⟩ = some (.slice none 0 0) := (blk_cell BK460.out 4).trans rfl
           have hcz50_5 : w37.cell? ⟨gb460, 5, none⟩ = some (.slice none 0 0) := (blk_cell BK460.out 5).trans rfl
           have hfz50_0 := blk_frozen BK460.out 0
           have hfz50_1 := blk_frozen BK460.out 1
           have hfz50_2 := blk_frozen BK460.out 2
           have hfz50_3 := blk_frozen BK460.out 3
           have hfz50_4 := blk_frozen BK460.out 4
           have hfz50_5 := blk_frozen BK460.out 5
           go_wp2_with (first | (go_at_call 55; (with_reducible refine (ssi_Judge_1.calls ((rd_T26 l0 x40_2).f0) ((rd_T26 l0 x40_2).f1) ((rd_T26 l0 x40_2).f2) ((rd_T26 l0 x40_2).f3) _ _ ((rd_T26 l0 x40_2).f4) _ _ ((rd_T26 l0 x40_2).f5) false _ ?side1 ?side2 ?side3 ?side4 A40.out).mono ?_); (case side1 => exact Kd.C_below HR459_4.out (by repeat (first | (with_reducible first | exact HB.out | apply below_alloc | apply pw_below_drewN | apply below_drew1 | refine below_set ?_ GE453.out | refine below_set ?_ GE460.out) | exact HB.out))); (case side2 => exact HC459_4.out); (case side3 => exact Kd.C_below HR459_5.out (by repeat (first | (with_reducible first | exact HB.out | apply below_alloc | apply pw_below_drewN | apply below_drew1 | refine below_set ?_ GE453.out | refine below_set ?_ GE460.out) | exact HB.out))); (case side4 => exact HC459_5.out); rintro e w51 ⟨rfl, hb⟩; have n0_ := Aside0.mk (blk_below (g := gb453) (o := .cells #[.int .u64 a1_0, .int .u64 a1_1, .int .u64 a1_2, .int .u64 a1_3, .slice A1_4 l1_4.length c1_4, .slice A1_5 l1_5.length c1_5] 26 (0, 0)) (by (with_reducible repeat (first | refine blk_drewN ?_ _ | refine blk_drew ?_ | refine blk_alloc ?_ _)); refine blk_far ?_ NB453_460.out _; (with_reducible repeat (first | refine blk_drewN ?_ _ | refine blk_drew ?_ | refine blk_alloc ?_ _)); refine blk_far ?_ NB453_460.out _; (with_reducible repeat (first | refine blk_drewN ?_ _ | refine blk_drew ?_ | refine blk_alloc ?_ _)); refine blk_far ?_ NB453_460.out _; (with_reducible repeat (first | refine blk_drewN ?_ _ | refine blk_drew ?_ | refine blk_alloc ?_ _)); refine blk_far ?_ NB453_460.out _; (with_reducible repeat (first | refine blk_drewN ?_ _ | refine blk_drew ?_ | refine blk_alloc ?_ _)); refine blk_far ?_ NB453_460.out _; (with_reducible repeat (first | refine blk_drewN ?_ _ | refine blk_drew ?_ | refine blk_alloc ?_ _)); refine blk_far ?_ NB453_460.out _; (with_reducible repeat (first | refine blk_drewN ?_ _ | refine blk_drew ?_ | refine blk_alloc ?_ _)); exact BK453.out) hb); have n1_ := Aside0.mk (blk_below (g := gb460) (o := .cells #[.int .u64 ((rd_T26 l0 x40_2).f0), .int .u64 ((rd_T26 l0 x40_2).f1), .int .u64 ((rd_T26 l0 x40_2).f2), .int .u64 ((rd_T26 l0 x40_2).f3), .slice A459_4 ((rd_T26 l0 x40_2).f4).length c459_4, .slice A459_5 ((rd_T26 l0 x40_2).f5).length c459_5] 26 (0, 0)) (by (with_reducible repeat (first | refine blk_drewN ?_ _ | refine blk_drew ?_ | refine blk_alloc ?_ _)); refine blk_put (cs := #[.int .u64 ((rd_T26 l0 x40_2).f0), .int .u64 ((rd_T26 l0 x40_2).f1), .int .u64 ((rd_T26 l0 x40_2).f2), .int .u64 ((rd_T26 l0 x40_2).f3), .slice A459_4 ((rd_T26 l0 x40_2).f4).length c459_4, .slice none 0 0]) ?_ 5 _ rfl; (with_reducible repeat (first | refine blk_drewN ?_ _ | refine blk_drew ?_ | refine blk_alloc ?_ _)); refine blk_put (cs := #[.int .u64 ((rd_T26 l0 x40_2).f0), .int .u64 ((rd_T26 l0 x40_2).f1), .int .u64 ((rd_T26 l0 x40_2).f2), .int .u64 ((rd_T26 l0 x40_2).f3), .slice none 0 0, .slice none 0 0]) ?_ 4 _ rfl; (with_reducible repeat (first | refine blk_drewN ?_ _ | refine blk_drew ?_ | refine blk_alloc ?_ _)); refine blk_put (cs := #[.int .u64 ((rd_T26 l0 x40_2).f0), .int .u64 ((rd_T26 l0 x40_2).f1), .int .u64 ((rd_T26 l0 x40_2).f2), .int .u64 0, .slice none 0 0, .slice none 0 0]) ?_ 3 _ rfl; (with_reducible repeat (first | refine blk_drewN ?_ _ | refine blk_drew ?_ | refine blk_alloc ?_ _)); refine blk_put (cs := #[.int .u64 ((rd_T26 l0 x40_2).f0), .int .u64 ((rd_T26 l0 x40_2).f1), .int .u64 0, .int .u64 0, .slice none 0 0, .slice none 0 0]) ?_ 2 _ rfl; (with_reducible repeat (first | refine blk_drewN ?_ _ | refine blk_drew ?_ | refine blk_alloc ?_ _)); refine blk_put (cs := #[.int .u64 ((rd_T26 l0 x40_2).f0), .int .u64 0, .int .u64 0, .int .u64 0, .slice none 0 0, .slice none 0 0]) ?_ 1 _ rfl; (with_reducible repeat (first | refine blk_drewN ?_ _ | refine blk_drew ?_ | refine blk_alloc ?_ _)); refine blk_put (cs := #[.int .u64 0, .int .u64 0, .int .u64 0, .int .u64 0, .slice none 0 0, .slice none 0 0]) ?_ 0 _ rfl; (with_reducible repeat (first | refine blk_drewN ?_ _ | refine blk_drew ?_ | refine blk_alloc ?_ _)); exact BK460.out) hb); have n2_ := Aside0.mk (below_step (by repeat (first | (with_reducible first | exact HB.out | apply below_alloc | apply pw_below_drewN | apply below_drew1 | refine below_set ?_ GE453.out | refine below_set ?_ GE460.out) | exact HB.out)) hb); clear BK453; clear BK460; clear HB; have BK453 := n0_; have BK460 := n1_; have HB := n2_; clear n0_ n1_ n2_; (try clear hb); (try clear hb2); (try clear hk); (try clear hi)))
           go_meet
           case rel => exact ⟨_, (true), (by first | rfl | (simp; done) | (simp [*]; done)), H', ⟨by have := HK1.out; have := HK2.out; first | omega | exact Nat.le_refl _⟩, ⟨by (with_reducible repeat (first | refine blk_drewN ?_ _ | refine blk_drew ?_ | refine blk_alloc ?_ _)); exact BK453.out⟩, ⟨by (with_reducible repeat (first | refine blk_drewN ?_ _ | refine blk_drew ?_ | refine blk_alloc ?_ _)); exact BK460.out⟩, ⟨by repeat (first | (with_reducible first | exact HB.out | apply below_alloc | apply pw_below_drewN | apply below_drew1 | refine below_set ?_ GE453.out | refine below_set ?_ GE460.out) | exact HB.out)⟩⟩
         case rest =>
          clear HC36
          try clear c1
          try clear c2
          try clear p2
          try clear c3
          try clear c4
          try clear c4b0
          try clear p4
          try clear q4
          try clear hx4
          try clear c5
          try clear c5b0
          try clear c6
          try clear c6b0
          try clear p6
          try clear c8
          try clear c10
          try clear c14
          try clear c18
          try clear c23
          try clear c30
          try clear c33
          try clear c33b0
          try clear c34
          try clear c34b0
          try clear c35
          try clear c35b0
          try clear c38
          try clear c41
          try clear c43
          try clear c45
          try clear p45
          try clear q45
          try clear hx45
          try clear c49
          try clear hcz15_0
          try clear hcz15_1
          try clear hcz15_2
          try clear hcz15_3
          try clear hcz15_4
          try clear hcz15_5
          try clear hcz17_0
          try clear hcz17_1
          try clear hcz17_2
          try clear hcz17_3
          try clear hcz17_4
          try clear hcz17_5
          try clear hcz18_0
          try clear hcz18_1
          try clear hcz18_2
          try clear hcz18_3
          try clear hcz18_4
          try clear hcz18_5
          try clear hcz20_0
          try clear hcz20_1
          try clear hcz20_2
          try clear hcz20_3
          try clear hcz20_4
          try clear hcz20_5
          try clear hcz24_0
          try clear hcz24_1
          try clear hcz24_2
          try clear hcz24_3
          try clear hcz24_4
          try clear hcz24_5
          try clear hcz26_0
          try clear hcz26_1
          try clear hcz26_2
          try clear hcz26_3
          try clear hcz26_4
          try clear hcz26_5
          try clear hcz27_0
          try clear hcz27_1
          try clear hcz27_2
          try clear hcz27_3
          try clear hcz27_4
          try clear hcz27_5
          try clear hcz31_0
          try clear hcz31_1
          try clear hcz31_2
          try clear hcz31_3
          try clear hcz31_4
          try clear hcz31_5
          try clear hcz39_0
          try clear hcz39_1
          try clear hcz39_2
          try clear hcz39_3
          try clear hcz39_4
          try clear hcz39_5
          try clear hcz44_0
          try clear hcz44_1
          try clear hcz44_2
          try clear hcz44_3
          try clear hcz44_4
          try clear hcz44_5
          try clear hcz46_0
          try clear hcz46_1
          try clear hcz46_2
          try clear hcz46_3
          try clear hcz46_4
          try clear hcz46_5
          try clear hcz47_0
          try clear hcz47_1
          try clear hcz47_2
          try clear hcz47_3
          try clear hcz47_4
          try clear hcz47_5
          try clear hcz50_0
          try clear hcz50_1
          try clear hcz50_2
          try clear hcz50_3
          try clear hcz50_4
          try clear hcz50_5
          try clear hfz15_0
          try clear hfz15_1
          try clear hfz15_2
          try clear hfz15_3
          try clear hfz15_4
          try clear hfz15_5
          try clear hfz17_0
          try clear hfz17_1
          try clear hfz17_2
          try clear hfz17_3
          try clear hfz17_4
          try clear hfz17_5
          try clear hfz18_0
          try clear hfz18_1
          try clear hfz18_2
          try clear hfz18_3
          try clear hfz18_4
          try clear hfz18_5
          try clear hfz20_0
          try clear hfz20_1
          try clear hfz20_2
          try clear hfz20_3
          try clear hfz20_4
          try clear hfz20_5
          try clear hfz24_0
          try clear hfz24_1
          try clear hfz24_2
          try clear hfz24_3
          try clear hfz24_4
          try clear hfz24_5
          try clear hfz26_0
          try clear hfz26_1
          try clear hfz26_2
          try clear hfz26_3
          try clear hfz26_4
          try clear hfz26_5
          try clear hfz27_0
          try clear hfz27_1
          try clear hfz27_2
          try clear hfz27_3
          try clear hfz27_4
          try clear hfz27_5
          try clear hfz31_0
          try clear hfz31_1
          try clear hfz31_2
          try clear hfz31_3
          try clear hfz31_4
          try clear hfz31_5
          try clear hfz39_0
          try clear hfz39_1
          try clear hfz39_2
          try clear hfz39_3
          try clear hfz39_4
          try clear hfz39_5
          try clear hfz44_0
          try clear hfz44_1
          try clear hfz44_2
          try clear hfz44_3
          try clear hfz44_4
          try clear hfz44_5
          try clear hfz46_0
          try clear hfz46_1
          try clear hfz46_2
          try clear hfz46_3
          try clear hfz46_4
          try clear hfz46_5
          try clear hfz47_0
          try clear hfz47_1
          try clear hfz47_2
          try clear hfz47_3
          try clear hfz47_4
          try clear hfz47_5
          try clear hfz50_0
          try clear hfz50_1
          try clear hfz50_2
          try clear hfz50_3
          try clear hfz50_4
          try clear hfz50_5
          try clear hx454_0
          try clear hx454_1
          try clear hx454_2
          try clear hx454_3
          try clear hx454_4
          try clear hx454_5
          try clear hx459_0
          try clear hx459_1
          try clear hx459_2
          try clear hx459_3
          try clear hx459_4
          try clear hx459_5
          try clear p2
          try clear p4
          try clear p454
          try clear p459
          try clear p6
          try clear q4
          try clear q454
          try clear q459
          obtain ⟨kq, x55_35, rfl, HA, HJ35, BK453, BK460, HB⟩ := hcut
          cases kq with
          | zero => exact absurd HA.out (by simp [ssi_Judge.j2])
          | succ kj35 =>
           have H := HA.out
           clear HA
           simp only [ssi_Judge.j2] at H
           by_cases c52 : x55_35 = true
           ·subst c52
            have H1 : (ssi_Judge.l1 kj35 x7_1 x8_1 x11_2 x12_2 x13_2 l0 (l0.length : Int) (wrap64 (x40_2 + 1)) a1_0 a1_1 a1_2 a1_3 l1_4 l1_5) = some (r1, r2) := by rw [if_pos rfl] at H; exact H
            clear H
            have H := H1
            clear H1
            have H' := Aside0.mk H
            clear H
            go_wp2
            go_roundg kj35
            case measure => have := HK1.out; have := HK2.out; have := HJ35.out; omega
            case rel => exact ⟨(x11_2), (x12_2), (x13_2), (wrap64 (x40_2 + 1)), (by first | rfl | (simp; done) | (simp [*]; done)), (by first | rfl | (simp; done) | (simp [*]; done)), (by first | rfl | (simp; done) | (simp [*]; done)), (by first | rfl | (simp; done) | (simp [*]; done)), H', ⟨by have := HK1.out; have := HK2.out; have := HJ35.out; omega⟩, ⟨by (with_reducible repeat (first | refine blk_drewN ?_ _ | refine blk_drew ?_ | refine blk_alloc ?_ _)); exact BK453.out⟩, ⟨by repeat (first | (with_reducible first | exact HB.out | apply below_alloc | apply pw_below_drewN | apply below_drew1 | refine below_set ?_ GE453.out | refine below_set ?_ GE460.out) | exact HB.out)⟩⟩
           ·replace c52 := Bool.eq_false_iff.mpr c52
            subst c52
            have H1 : (if ((rd_T26 l0 x40_2).f3) = 0 then (ssi_Judge.j3 kj35 x7_1 x8_1 x11_2 x12_2 x13_2 l0 (l0.length : Int) x40_2 false a1_0 a1_1 a1_2 a1_3 l1_4 l1_5 ((rd_T26 l0 x40_2).f0) ((rd_T26 l0 x40_2).f1) ((rd_T26 l0 x40_2).f2) ((rd_T26 l0 x40_2).f3) ((rd_T26 l0 x40_2).f4) ((rd_T26 l0 x40_2).f5)) else (ssi_Judge.j3 kj35 x7_1 x8_1 x11_2 x12_2 x13_2 l0 (l0.length : Int) x40_2 (decide ((l1_5.length : Int) > 0)) a1_0 a1_1 a1_2 a1_3 l1_4 l1_5 ((rd_T26 l0 x40_2).f0) ((rd_T26 l0 x40_2).f1) ((rd_T26 l0 x40_2).f2) ((rd_T26 l0 x40_2).f3) ((rd_T26 l0 x40_2).f4) ((rd_T26 l0 x40_2).f5))) = some (r1, r2) := by rw [if_neg (show ¬ (false = true) by decide)] at H; exact H
            clear H
            have H := H1
            clear H1
            have HC53 := Aside0.mk H
            clear H
            go_upto_region 14 with (fail)
            go_cut [56] (fun v56 wc => ∃ (kq : Nat) (x56_52 : Bool), v56 = .bool x56_52 ∧ Aside0 (ssi_Judge.j3 kq x7_1 x8_1 x11_2 x12_2 x13_2 l0 (l0.length : Int) x40_2 x56_52 a1_0 a1_1 a1_2 a1_3 l1_4 l1_5 ((rd_T26 l0 x40_2).f0) ((rd_T26 l0 x40_2).f1) ((rd_T26 l0 x40_2).f2) ((rd_T26 l0 x40_2).f3) ((rd_T26 l0 x40_2).f4) ((rd_T26 l0 x40_2).f5) = some (r1, r2)) ∧ Aside0 (kq ≤ kj35) ∧ Aside0 (wc.heap[gb453]? = some (.cells #[.int .u64 a1_0, .int .u64 a1_1, .int .u64 a1_2, .int .u64 a1_3, (.slice A1_4 l1_4.length c1_4), (.slice A1_5 l1_5.length c1_5)] 26 (0, 0))) ∧ Aside0 (wc.heap[gb460]? = some (.cells #[.int .u64 ((rd_T26 l0 x40_2).f0), .int .u64 ((rd_T26 l0 x40_2).f1), .int .u64 ((rd_T26 l0 x40_2).f2), .int .u64 ((rd_T26 l0 x40_2).f3), (.slice A459_4 ((rd_T26 l0 x40_2).f4).length c459_4), (.slice A459_5 ((rd_T26 l0 x40_2).f5).length c459_5)] 26 (0, 0))) ∧ Aside0 (Below w.heap.size w wc))
            case first =>
             have H := HC53.out
             clear HC53
             by_cases c54 : ((rd_T26 l0 x40_2).f3) = 0
             ·rw [if_pos c54] at H
              have c54b0 : (((rd_T26 l0 x40_2).f3) == 0) = true := beq_iff_eq.mpr c54
              have c54b1 : (((rd_T26 l0 x40_2).f3) != 0) = false := bne_eq_false_iff_eq.mpr c54
              clear c54
              (first | rw [c54b0] | (simp only [i64_w, i32_w]; rw [c54b0]) | skip)
              have H' := Aside0.mk H
              clear H
              have hnb55 := NB460_453.out
              have hnc55 := NB453_460.out
              have hcz56_0 : wc.cell? ⟨gb460, 0, none⟩ = some (.int .u64 ((rd_T26 l0 x40_2).f0)) := (blk_cell BK460.out 0).trans rfl
              have hcz56_1 : wc.cell? ⟨gb460, 1, none⟩ = some (.int .u64 ((rd_T26 l0 x40_2).f1)) := (blk_cell BK460.out 1).trans rfl
              have hcz56_2 : wc.cell? ⟨gb460, 2, none⟩ = some (.int .u64 ((rd_T26 l0 x40_2).f2)) := (blk_cell BK460.out 2).trans rfl
              have hcz56_3 : wc.cell? ⟨gb460, 3, none⟩ = some (.int .u64 ((rd_T26 l0 x40_2).f3)) := (blk_cell BK460.out 3).trans rfl
              have hcz56_4 : wc.cell? ⟨gb460, 4, none⟩ = some (.slice A459_4 ((rd_T26 l0 x40_2).f4).length c459_4) := (blk_cell BK460.out 4).trans rfl
              have hcz56_5 : wc.cell? ⟨gb460, 5, none⟩ = some (.slice A459_5 ((rd_T26 l0 x40_2).f5).length c459_5) := (blk_cell BK460.out 5).trans rfl
              have hfz56_0 := blk_frozen BK460.out 0
              have hfz56_1 := blk_frozen BK460.out 1
              have hfz56_2 := blk_frozen BK460.out 2
              have hfz56_3 := blk_frozen BK460.out 3
              have hfz56_4 := blk_frozen BK460.out 4
              have hfz56_5 := blk_frozen BK460.out 5
              go_wp2
              go_meet
              case rel => exact ⟨_, (false), (by first | rfl | (simp; done) | (simp [*]; done)), H', ⟨by have := HK1.out; have := HK2.out; have := HJ35.out; first | omega | exact Nat.le_refl _⟩, ⟨by (with_reducible repeat (first | refine blk_drewN ?_ _ | refine blk_drew ?_ | refine blk_alloc ?_ _)); exact BK453.out⟩, ⟨by (with_reducible repeat (first | refine blk_drewN ?_ _ | refine blk_drew ?_ | refine blk_alloc ?_ _)); exact BK460.out⟩, ⟨by repeat (first | (with_reducible first | exact HB.out | apply below_alloc | apply pw_below_drewN | apply below_drew1 | refine below_set ?_ GE453.out | refine below_set ?_ GE460.out) | exact HB.out)⟩⟩
             ·rw [if_neg c54] at H
              have c54b0 : (((rd_T26 l0 x40_2).f3) == 0) = false := beq_eq_false_iff_ne.mpr c54
              have c54b1 : (((rd_T26 l0 x40_2).f3) != 0) = true := bne_iff_ne.mpr c54
              (first | rw [c54b0] | (simp only [i64_w, i32_w]; rw [c54b0]) | skip)
              have H' := Aside0.mk H
              clear H
              have hnb57 := NB460_453.out
              have hnc57 := NB453_460.out
              have hcz58_0 : wc.cell? ⟨gb460, 0, none⟩ = some (.int .u64 ((rd_T26 l0 x40_2).f0)) := (blk_cell BK460.out 0).trans rfl
              have hcz58_1 : wc.cell? ⟨gb460, 1, none⟩ = some (.int .u64 ((rd_T26 l0 x40_2).f1)) := (blk_cell BK460.out 1).trans rfl
              have hcz58_2 : wc.cell? ⟨gb460, 2, none⟩ = some (.int .u64 ((rd_T26 l0 x40_2).f2)) := (blk_cell BK460.out 2).trans rfl
              have hcz58_3 : wc.cell? ⟨gb460, 3, none⟩ = some (.int .u64 ((rd_T26 l0 x40_2).f3)) := (blk_cell BK460.out 3).trans rfl
              have hcz58_4 : wc.cell? ⟨gb460, 4, none⟩ = some (.slice A459_4 ((rd_T26 l0 x40_2).f4).length c459_4) := (blk_cell BK460.out 4).trans rfl
              have hcz58_5 : wc.cell? ⟨gb460, 5, none⟩ = some (.slice A459_5 ((rd_T26 l0 x40_2).f5).length c459_5) := (blk_cell BK460.out 5).trans rfl
              have hfz58_0 := blk_frozen BK460.out 0
              have hfz58_1 := blk_frozen BK460.out 1
              have hfz58_2 := blk_frozen BK460.out 2
              have hfz58_3 := blk_frozen BK460.out 3
              have hfz58_4 := blk_frozen BK460.out 4
              have hfz58_5 := blk_frozen BK460.out 5
              have hcz59_0 : wc.cell? ⟨gb453, 0, none⟩ = some (.int .u64 a1_0) := (blk_cell BK453.out 0).trans rfl
              have hcz59_1 : wc.cell? ⟨gb453, 1, none⟩ = some (.int .u64 a1_1) := (blk_cell BK453.out 1).trans rfl
              have hcz59_2 : wc.cell? ⟨gb453, 2, none⟩ = some (.int .u64 a1_2) := (blk_cell BK453.out 2).trans rfl
              have hcz59_3 : wc.cell? ⟨gb453, 3, none⟩ = some (.int .u64 a1_3) := (blk_cell BK453.out 3).trans rfl
              have hcz59_4 : wc.cell? ⟨gb453, 4, none⟩ = some (.slice A1_4 l1_4.length c1_4) := (blk_cell BK453.out 4).trans rfl
              have hcz59_5 : wc.cell? ⟨gb453, 5, none⟩ = some (.slice A1_5 l1_5.length c1_5) := (blk_cell BK453.out 5).trans rfl
              have hfz59_0 := blk_frozen BK453.out 0
              have hfz59_1 := blk_frozen BK453.out 1
              have hfz59_2 := blk_frozen BK453.out 2
              have hfz59_3 := blk_frozen BK453.out 3
              have hfz59_4 := blk_frozen BK453.out 4
              have hfz59_5 := blk_frozen BK453.out 5
              go_wp2
              go_meet
              case rel => exact ⟨_, (decide ((l1_5.length : Int) > 0)), (by first | rfl | (simp; done) | (simp [*]; done)), H', ⟨by have := HK1.out; have := HK2.out; have := HJ35.out; first | omega | exact Nat.le_refl _⟩, ⟨by (with_reducible repeat (first | refine blk_drewN ?_ _ | refine blk_drew ?_ | refine blk_alloc ?_ _)); exact BK453.out⟩, ⟨by (with_reducible repeat (first | refine blk_drewN ?_ _ | refine blk_drew ?_ | refine blk_alloc ?_ _)); exact BK460.out⟩, ⟨by repeat (first | (with_reducible first | exact HB.out | apply below_alloc | apply pw_below_drewN | apply below_drew1 | refine below_set ?_ GE453.out | refine below_set ?_ GE460.out) | exact HB.out)⟩⟩
            case rest =>
             clear HC53
             try clear c1
             try clear c2
             try clear p2
             try clear c3
             try clear c4
             try clear c4b0
             try clear p4
             try clear q4
             try clear hx4
             try clear c5
             try clear c5b0
             try clear c6
             try clear c6b0
             try clear p6
             try clear c8
             try clear c10
             try clear c14
             try clear c18
             try clear c23
             try clear c30
             try clear c33
             try clear c33b0
             try clear c34
             try clear c34b0
             try clear c35
             try clear c35b0
             try clear c38
             try clear c41
             try clear c43
             try clear c45
             try clear p45
             try clear q45
             try clear hx45
             try clear c49
             try clear c52
             try clear c54
             try clear c54b0
             try clear c54b1
             try clear c55
             try clear c57
             try clear hcz15_0
             try clear hcz15_1
             try clear hcz15_2
             try clear hcz15_3
             try clear hcz15_4
             try clear hcz15_5
             try clear hcz17_0
             try clear hcz17_1
             try clear hcz17_2
             try clear hcz17_3
             try clear hcz17_4
             try clear hcz17_5
             try clear hcz18_0
             try clear hcz18_1
             try clear hcz18_2
             try clear hcz18_3
             try clear hcz18_4
             try clear hcz18_5
             try clear hcz20_0
             try clear hcz20_1
             try clear hcz20_2
             try clear hcz20_3
             try clear hcz20_4
             try clear hcz20_5
             try clear hcz24_0
             try clear hcz24_1
             try clear hcz24_2
             try clear hcz24_3
             try clear hcz24_4
             try clear hcz24_5
             try clear hcz26_0
             try clear hcz26_1
             try clear hcz26_2
             try clear hcz26_3
             try clear hcz26_4
             try clear hcz26_5
             try clear hcz27_0
             try clear hcz27_1
             try clear hcz27_2
             try clear hcz27_3
             try clear hcz27_4
             try clear hcz27_5
             try clear hcz31_0
             try clear hcz31_1
             try clear hcz31_2
             try clear hcz31_3
             try clear hcz31_4
             try clear hcz31_5
             try clear hcz39_0
             try clear hcz39_1
             try clear hcz39_2
             try clear hcz39_3
             try clear hcz39_4
             try clear hcz39_5
             try clear hcz44_0
             try clear hcz44_1
             try clear hcz44_2
             try clear hcz44_3
             try clear hcz44_4
             try clear hcz44_5
             try clear hcz46_0
             try clear hcz46_1
             try clear hcz46_2
             try clear hcz46_3
             try clear hcz46_4
             try clear hcz46_5
             try clear hcz47_0
             try clear hcz47_1
             try clear hcz47_2
             try clear hcz47_3
             try clear hcz47_4
             try clear hcz47_5
             try clear hcz50_0
             try clear hcz50_1
             try clear hcz50_2
             try clear hcz50_3
             try clear hcz50_4
             try clear hcz50_5
             try clear hcz56_0
             try clear hcz56_1
             try clear hcz56_2
             try clear hcz56_3
             try clear hcz56_4
             try clear hcz56_5
             try clear hcz58_0
             try clear hcz58_1
             try clear hcz58_2
             try clear hcz58_3
             try clear hcz58_4
             try clear hcz58_5
             try clear hcz59_0
             try clear hcz59_1
             try clear hcz59_2
             try clear hcz59_3
             try clear hcz59_4
             try clear hcz59_5
             try clear hfz15_0
             try clear hfz15_1
             try clear hfz15_2
             try clear hfz15_3
             try clear hfz15_4
             try clear hfz15_5
             try clear hfz17_0
             try clear hfz17_1
             try clear hfz17_2
             try clear hfz17_3
             try clear hfz17_4
             try clear hfz17_5
             try clear hfz18_0
             try clear hfz18_1
             try clear hfz18_2
             try clear hfz18_3
             try clear hfz18_4
             try clear hfz18_5
             try clear hfz20_0
             try clear hfz20_1
             try clear hfz20_2
             try clear hfz20_3
             try clear hfz20_4
             try clear hfz20_5
             try clear hfz24_0
             try clear hfz24_1
             try clear hfz24_2
             try clear hfz24_3
             try clear hfz24_4
             try clear hfz24_5
             try clear hfz26_0
             try clear hfz26_1
             try clear hfz26_2
             try clear hfz26_3
             try clear hfz26_4
             try clear hfz26_5
             try clear hfz27_0
             try clear hfz27_1
             try clear hfz27_2
             try clear hfz27_3
             try clear hfz27_4
             try clear hfz27_5
             try clear hfz31_0
             try clear hfz31_1
             try clear hfz31_2
             try clear hfz31_3
             try clear hfz31_4
             try clear hfz31_5
             try clear hfz39_0
             try clear hfz39_1
             try clear hfz39_2
             try clear hfz39_3
             try clear hfz39_4
             try clear hfz39_5
             try clear hfz44_0
             try clear hfz44_1
             try clear hfz44_2
             try clear hfz44_3
             try clear hfz44_4
             try clear hfz44_5
             try clear hfz46_0
             try clear hfz46_1
             try clear hfz46_2
             try clear hfz46_3
             try clear hfz46_4
             try clear hfz46_5
             try clear hfz47_0
             try clear hfz47_1
             try clear hfz47_2
             try clear hfz47_3
             try clear hfz47_4
             try clear hfz47_5
             try clear hfz50_0
             try clear hfz50_1
             try clear hfz50_2
             try clear hfz50_3
             try clear hfz50_4
             try clear hfz50_5
             try clear hfz56_0
             try clear hfz56_1
             try clear hfz56_2
             try clear hfz56_3
             try clear hfz56_4
             try clear hfz56_5
             try clear hfz58_0
             try clear hfz58_1
             try clear hfz58_2
             try clear hfz58_3
             try clear hfz58_4
             try clear hfz58_5
             try clear hfz59_0
             try clear hfz59_1
             try clear hfz59_2
             try clear hfz59_3
             try clear hfz59_4
             try clear hfz59_5
             try clear hx454_0
             try clear hx454_1
             try clear hx454_2
             try clear hx454_3
             try clear hx454_4
             try clear hx454_5
             try clear hx459_0
             try clear hx459_1
             try clear hx459_2
             try clear hx459_3
             try clear hx459_4
             try clear hx459_5
             try clear p2
             try clear p4
             try clear p45
             try clear p454
             try clear p459
             try clear p6
             try clear q4
             try clear q45
             try clear q454
             try clear q459
             obtain ⟨kq, x56_52, rfl, HA, HJ52, BK453, BK460, HB⟩ := hcut
             cases kq with
             | zero => exact absurd HA.out (by simp [ssi_Judge.j3])
             | succ kj52 =>
              have H := HA.out
              clear HA
              simp only [ssi_Judge.j3] at H
              by_cases c60 : x56_52 = true
              ·subst c60
               have H1 : (some (0, 101)) = some (r1, r2) := by rw [if_pos rfl] at H; exact H
               clear H
               have H := H1
               clear H1
               simp only [Option.some.injEq, Prod.mk.injEq] at H
               obtain ⟨rfl, rfl⟩ := H
               go_wp2
               (try rw [Exit.noGoto_ret])
               go_ret2
               exact ⟨by first | rfl | (simp [errW_none, errW_some] <;> rfl) | (simp [*, errW_none, errW_some] <;> rfl), by repeat (first | (with_reducible first | exact HB.out | apply below_alloc | apply pw_below_drewN | apply below_drew1 | refine below_set ?_ GE453.out | refine below_set ?_ GE460.out) | exact HB.out)⟩
              ·replace c60 := Bool.eq_false_iff.mpr c60
               subst c60
               have H1 : (if ((rd_T26 l0 x40_2).f3) = 0 then (ssi_Judge.j4 kj52 x7_1 x8_1 x11_2 x12_2 x13_2 l0 (l0.length : Int) x40_2 false a1_0 a1_1 a1_2 a1_3 l1_4 l1_5 ((rd_T26 l0 x40_2).f0) ((rd_T26 l0 x40_2).f1) ((rd_T26 l0 x40_2).f2) ((rd_T26 l0 x40_2).f3) ((rd_T26 l0 x40_2).f4) ((rd_T26 l0 x40_2).f5)) else (ssi_Judge.j4 kj52 x7_1 x8_1 x11_2 x12_2 x13_2 l0 (l0.length : Int) x40_2 (decide (((rd_T26 l0 x40_2).f3) ≤ a1_2)) a1_0 a1_1 a1_2 a1_3 l1_4 l1_5 ((rd_T26 l0 x40_2).f0) ((rd_T26 l0 x40_2).f1) ((rd_T26 l0 x40_2).f2) ((rd_T26 l0 x40_2).f3) ((rd_T26 l0 x40_2).f4) ((rd_T26 l0 x40_2).f5))) = some (r1, r2) := by rw [if_neg (show ¬ (false = true) by decide)] at H; exact H
               clear H
               have H := H1
               clear H1
               have HC61 := Aside0.mk H
               clear H
               go_upto_region 15 with (fail)
               go_cut [66] (fun v66 wc => ∃ (kq : Nat) (x66_60 : Bool), v66 = .bool x66_60 ∧ Aside0 (ssi_Judge.j4 kq x7_1 x8_1 x11_2 x12_2 x13_2 l0 (l0.length : Int) x40_2 x66_60 a1_0 a1_1 a1_2 a1_3 l1_4 l1_5 ((rd_T26 l0 x40_2).f0) ((rd_T26 l0 x40_2).f1) ((rd_T26 l0 x40_2).f2) ((rd_T26 l0 x40_2).f3) ((rd_T26 l0 x40_2).f4) ((rd_T26 l0 x40_2).f5) = some (r1, r2)) ∧ Aside0 (kq ≤ kj52) ∧ Aside0 (wc.heap[gb453]? = some (.cells #[.int .u64 a1_0, .int .u64 a1_1, .int .u64 a1_2, .int .u64 a1_3, (.slice A1_4 l1_4.length c1_4), (.slice A1_5 l1_5.length c1_5)] 26 (0, 0))) ∧ Aside0 (wc.heap[gb460]? = some (.cells #[.int .u64 ((rd_T26 l0 x40_2).f0), .int .u64 ((rd_T26 l0 x40_2).f1), .int .u64 ((rd_T26 l0 x40_2).f2), .int .u64 ((rd_T26 l0 x40_2).f3), (.slice A459_4 ((rd_T26 l0 x40_2).f4).length c459_4), (.slice A459_5 ((rd_T26 l0 x40_2).f5).length c459_5)] 26 (0, 0))) ∧ Aside0 (Below w.heap.size w wc))
               case first =>
                have H := HC61.out
                clear HC61
                by_cases c62 : ((rd_T26 l0 x40_2).f3) = 0
                ·rw [if_pos c62] at H
                 have c62b0 : (((rd_T26 l0 x40_2).f3) == 0) = true := beq_iff_eq.mpr c62
                 have c62b1 : (((rd_T26 l0 x40_2).f3) != 0) = false := bne_eq_false_iff_eq.mpr c62
                 clear c62
                 (first | rw [c62b0] | (simp only [i64_w, i32_w]; rw [c62b0]) | skip)
                 have H' := Aside0.mk H
                 clear H
                 have hnb63 := NB460_453.out
                 have hnc63 := NB453_460.out
                 have hcz64_0 : wc.cell? ⟨gb460, 0, none⟩ = some (.int .u64 ((rd_T26 l0 x40_2).f0)) := (blk_cell BK460.out 0).trans rfl
                 have hcz64_1 : wc.cell? ⟨gb460, 1, none⟩ = some (.int .u64 ((rd_T26 l0 x40_2).f1)) := (blk_cell BK460.out 1).trans rfl
                 have hcz64_2 : wc.cell? ⟨gb460, 2, none⟩ = some (.int .u64 ((rd_T26 l0 x40_2).f2)) := (blk_cell BK460.out 2).trans rfl
                 have hcz64_3 : wc.cell? ⟨gb460, 3, none⟩ = some (.int .u64 ((rd_T26 l0 x40_2).f3)) := (blk_cell BK460.out 3).trans rfl
                 have hcz64_4 : wc.cell? ⟨gb460, 4, none⟩ = some (.slice A459_4 ((rd_T26 l0 x40_2).f4).length c459_4) := (blk_cell BK460.out 4).trans rfl
                 have hcz64_5 : wc.cell? ⟨gb460, 5, none⟩ = some (.slice A459_5 ((rd_T26 l0 x40_2).f5).length c459_5) := (blk_cell BK460.out 5).trans rfl
                 have hfz64_0 := blk_frozen BK460.out 0
                 have hfz64_1 := blk_frozen BK460.out 1
                 have hfz64_2 := blk_frozen BK460.out 2
                 have hfz64_3 := blk_frozen BK460.out 3
                 have hfz64_4 := blk_frozen BK460.out 4
                 have hfz64_5 := blk_frozen BK460.out 5
                 go_wp2
                 go_meet
                 case rel => exact ⟨_, (false), (by first | rfl | (simp; done) | (simp [*]; done)), H', ⟨by have := HK1.out; have := HK2.out; have := HJ35.out; have := HJ52.out; first | omega | exact Nat.le_refl _⟩, ⟨by (with_reducible repeat (first | refine blk_drewN ?_ _ | refine blk_drew ?_ | refine blk_alloc ?_ _)); exact BK453.out⟩, ⟨by (with_reducible repeat (first | refine blk_drewN ?_ _ | refine blk_drew ?_ | refine blk_alloc ?_ _)); exact BK460.out⟩, ⟨by repeat (first | (with_reducible first | exact HB.out | apply below_alloc | apply pw_below_drewN | apply below_drew1 | refine below_set ?_ GE453.out | refine below_set ?_ GE460.out) | exact HB.out)⟩⟩
                ·rw [if_neg c62] at H
                 have c62b0 : (((rd_T26 l0 x40_2).f3) == 0) = false := beq_eq_false_iff_ne.mpr c62
                 have c62b1 : (((rd_T26 l0 x40_2).f3) != 0) = true := bne_iff_ne.mpr c62
                 (first | rw [c62b0] | (simp only [i64_w, i32_w]; rw [c62b0]) | skip)
                 have H' := Aside0.mk H
                 clear H
                 have hnb65 := NB460_453.out
                 have hnc65 := NB453_460.out
                 have hcz66_0 : wc.cell? ⟨gb460, 0, none⟩ = some (.int .u64 ((rd_T26 l0 x40_2).f0)) := (blk_cell BK460.out 0).trans rfl
                 have hcz66_1 : wc.cell? ⟨gb460, 1, none⟩ = some (.int .u64 ((rd_T26 l0 x40_2).f1)) := (blk_cell BK460.out 1).trans rfl
                 have hcz66_2 : wc.cell? ⟨gb460, 2, none⟩ = some (.int .u64 ((rd_T26 l0 x40_2).f2)) := (blk_cell BK460.out 2).trans rfl
                 have hcz66_3 : wc.cell? ⟨gb460, 3, none⟩ = some (.int .u64 ((rd_T26 l0 x40_2).f3)) := (blk_cell BK460.out 3).trans rfl
                 have hcz66_4 : wc.cell? ⟨gb460, 4, none⟩ = some (.slice A459_4 ((rd_T26 l0 x40_2).f4).length c459_4) := (blk_cell BK460.out 4).trans rfl
                 have hcz66_5 : wc.cell? ⟨gb460, 5, none⟩ = some (.slice A459_5 ((rd_T26 l0 x40_2).f5).length c459_5) := (blk_cell BK460.out 5).trans rfl
                 have hfz66_0 := blk_frozen BK460.out 0
                 have hfz66_1 := blk_frozen BK460.out 1
                 have hfz66_2 := blk_frozen BK460.out 2
                 have hfz66_3 := blk_frozen BK460.out 3
                 have hfz66_4 := blk_frozen BK460.out 4
                 have hfz66_5 := blk_frozen BK460.out 5
                 have hcz67_0 : wc.cell? ⟨gb453, 0, none⟩ = some (.int .u64 a1_0) := (blk_cell BK453.out 0).trans rfl
                 have hcz67_1 : wc.cell? ⟨gb453, 1, none⟩ = some (.int .u64 a1_1) := (blk_cell BK453.out 1).trans rfl
                 have hcz67_2 : wc.cell? ⟨gb453, 2, none⟩ = some (.int .u64 a1_2) := (blk_cell BK453.out 2).trans rfl
                 have hcz67_3 : wc.cell? ⟨gb453, 3, none⟩ = some (.int .u64 a1_3) := (blk_cell BK453.out 3).trans rfl
                 have hcz67_4 : wc.cell? ⟨gb453, 4, none⟩ = some (.slice A1_4 l1_4.length c1_4) := (blk_cell BK453.out 4).trans rfl
                 have hcz67_5 : wc.cell? ⟨gb453, 5, none⟩ = some (.slice A1_5 l1_5.length c1_5) := (blk_cell BK453.out 5).trans rfl
                 have hfz67_0 := blk_frozen BK453.out 0
                 have hfz67_1 := blk_frozen BK453.out 1
                 have hfz67_2 := blk_frozen BK453.out 2
                 have hfz67_3 := blk_frozen BK453.out 3
                 have hfz67_4 := blk_frozen BK453.out 4
                 have hfz67_5 := blk_frozen BK453.out 5
                 go_wp2
                 go_meet
                 case rel => exact ⟨_, (decide (((rd_T26 l0 x40_2).f3) ≤ a1_2)), (by first | rfl | (simp; done) | (simp [*]; done)), H', ⟨by have := HK1.out; have := HK2.out; have := HJ35.out; have := HJ52.out; first | omega | exact Nat.le_refl _⟩, ⟨by (with_reducible repeat (first | refine blk_drewN ?_ _ | refine blk_drew ?_ | refine blk_alloc ?_ _)); exact BK453.out⟩, ⟨by (with_reducible repeat (first | refine blk_drewN ?_ _ | refine blk_drew ?_ | refine blk_alloc ?_ _)); exact BK460.out⟩, ⟨by repeat (first | (with_reducible first | exact HB.out | apply below_alloc | apply pw_below_drewN | apply below_drew1 | refine below_set ?_ GE453.out | refine below_set ?_ GE460.out) | exact HB.out)⟩⟩
               case rest =>
                clear HC61
                try clear c1
                try clear c2
                try clear p2
                try clear c3
                try clear c4
                try clear c4b0
                try clear p4
                try clear q4
                try clear hx4
                try clear c5
                try clear c5b0
                try clear c6
                try clear c6b0
                try clear p6
                try clear c8
                try clear c10
                try clear c14
                try clear c18
                try clear c23
                try clear c30
                try clear c33
                try clear c33b0
                try clear c34
                try clear c34b0
                try clear c35
                try clear c35b0
                try clear c38
                try clear c41
                try clear c43
                try clear c45
                try clear p45
                try clear q45
                try clear hx45
                try clear c49
                try clear c52
                try clear c54
                try clear c54b0
                try clear c54b1
                try clear c55
                try clear c57
                try clear c60
                try clear c62
                try clear c62b0
                try clear c62b1
                try clear c63
                try clear p64
                try clear c65
                try clear hcz15_0
                try clear hcz15_1
                try clear hcz15_2
                try clear hcz15_3
                try clear hcz15_4
                try clear hcz15_5
                try clear hcz17_0
                try clear hcz17_1
                try clear hcz17_2
                try clear hcz17_3
                try clear hcz17_4
                try clear hcz17_5
                try clear hcz18_0
                try clear hcz18_1
                try clear hcz18_2
                try clear hcz18_3
                try clear hcz18_4
                try clear hcz18_5
                try clear hcz20_0
                try clear hcz20_1
                try clear hcz20_2
                try clear hcz20_3
                try clear hcz20_4
                try clear hcz20_5
                try clear hcz24_0
                try clear hcz24_1
                try clear hcz24_2
                try clear hcz24_3
                try clear hcz24_4
                try clear hcz24_5
                try clear hcz26_0
                try clear hcz26_1
                try clear hcz26_2
                try clear hcz26_3
                try clear hcz26_4
                try clear hcz26_5
                try clear hcz27_0
                try clear hcz27_1
                try clear hcz27_2
                try clear hcz27_3
                try clear hcz27_4
                try clear hcz27_5
                try clear hcz31_0
                try clear hcz31_1
                try clear hcz31_2
                try clear hcz31_3
                try clear hcz31_4
                try clear hcz31_5
                try clear hcz39_0
                try clear hcz39_1
                try clear hcz39_2
                try clear hcz39_3
                try clear hcz39_4
                try clear hcz39_5
                try clear hcz44_0
                try clear hcz44_1
                try clear hcz44_2
                try clear hcz44_3
                try clear hcz44_4
                try clear hcz44_5
                try clear hcz46_0
                try clear hcz46_1
                try clear hcz46_2
                try clear hcz46_3
                try clear hcz46_4
                try clear hcz46_5
                try clear hcz47_0
                try clear hcz47_1
                try clear hcz47_2
                try clear hcz47_3
                try clear hcz47_4
                try clear hcz47_5
                try clear hcz50_0
                try clear hcz50_1
                try clear hcz50_2
                try clear hcz50_3
                try clear hcz50_4
                try clear hcz50_5
                try clear hcz56_0
                try clear hcz56_1
                try clear hcz56_2
                try clear hcz56_3
                try clear hcz56_4
                try clear hcz56_5
                try clear hcz58_0
                try clear hcz58_1
                try clear hcz58_2
                try clear hcz58_3
                try clear hcz58_4
                try clear hcz58_5
                try clear hcz59_0
                try clear hcz59_1
                try clear hcz59_2
                try clear hcz59_3
                try clear hcz59_4
                try clear hcz59_5
                try clear hcz64_0
                try clear hcz64_1
                try clear hcz64_2
                try clear hcz64_3
                try clear hcz64_4
                try clear hcz64_5
                try clear hcz66_0
                try clear hcz66_1
                try clear hcz66_2
                try clear hcz66_3
                try clear hcz66_4
                try clear hcz66_5
                try clear hcz67_0
                try clear hcz67_1
                try clear hcz67_2
                try clear hcz67_3
                try clear hcz67_4
                try clear hcz67_5
                try clear hfz15_0
                try clear hfz15_1
                try clear hfz15_2
                try clear hfz15_3
                try clear hfz15_4
                try clear hfz15_5
                try clear hfz17_0
                try clear hfz17_1
                try clear hfz17_2
                try clear hfz17_3
                try clear hfz17_4
                try clear hfz17_5
                try clear hfz18_0
                try clear hfz18_1
                try clear hfz18_2
                try clear hfz18_3
                try clear hfz18_4
                try clear hfz18_5
                try clear hfz20_0
                try clear hfz20_1
                try clear hfz20_2
                try clear hfz20_3
                try clear hfz20_4
                try clear hfz20_5
                try clear hfz24_0
                try clear hfz24_1
                try clear hfz24_2
                try clear hfz24_3
                try clear hfz24_4
                try clear hfz24_5
                try clear hfz26_0
                try clear hfz26_1
                try clear hfz26_2
                try clear hfz26_3
                try clear hfz26_4
                try clear hfz26_5
                try clear hfz27_0
                try clear hfz27_1
                try clear hfz27_2
                try clear hfz27_3
                try clear hfz27_4
                try clear hfz27_5
                try clear hfz31_0
                try clear hfz31_1
                try clear hfz31_2
                try clear hfz31_3
                try clear hfz31_4
                try clear hfz31_5
                try clear hfz39_0
                try clear hfz39_1
                try clear hfz39_2
                try clear hfz39_3
                try clear hfz39_4
                try clear hfz39_5
                try clear hfz44_0
                try clear hfz44_1
                try clear hfz44_2
                try clear hfz44_3
                try clear hfz44_4
                try clear hfz44_5
                try clear hfz46_0
                try clear hfz46_1
                try clear hfz46_2
                try clear hfz46_3
                try clear hfz46_4
                try clear hfz46_5
                try clear hfz47_0
                try clear hfz47_1
                try clear hfz47_2
                try clear hfz47_3
                try clear hfz47_4
                try clear hfz47_5
                try clear hfz50_0
                try clear hfz50_1
                try clear hfz50_2
                try clear hfz50_3
                try clear hfz50_4
                try clear hfz50_5
                try clear hfz56_0
                try clear hfz56_1
                try clear hfz56_2
                try clear hfz56_3
                try clear hfz56_4
                try clear hfz56_5
                try clear hfz58_0
                try clear hfz58_1
                try clear hfz58_2
                try clear hfz58_3
                try clear hfz58_4
                try clear hfz58_5
                try clear hfz59_0
                try clear hfz59_1
                try clear hfz59_2
                try clear hfz59_3
                try clear hfz59_4
                try clear hfz59_5
                try clear hfz64_0
                try clear hfz64_1
                try clear hfz64_2
                try clear hfz64_3
                try clear hfz64_4
                try clear hfz64_5
                try clear hfz66_0
                try clear hfz66_1
                try clear hfz66_2
                try clear hfz66_3
                try clear hfz66_4
                try clear hfz66_5
                try clear hfz67_0
                try clear hfz67_1
                try clear hfz67_2
                try clear hfz67_3
                try clear hfz67_4
                try clear hfz67_5
                try clear hx454_0
                try clear hx454_1
                try clear hx454_2
                try clear hx454_3
                try clear hx454_4
                try clear hx454_5
                try clear hx459_0
                try clear hx459_1
                try clear hx459_2
                try clear hx459_3
                try clear hx459_4
                try clear hx459_5
                try clear p2
                try clear p4
                try clear p45
                try clear p454
                try clear p459
                try clear p6
                try clear q4
                try clear q45
                try clear q454
                try clear q459
                obtain ⟨kq, x66_60, rfl, HA, HJ60, BK453, BK460, HB⟩ := hcut
                cases kq with
                | zero => exact absurd HA.out (by simp [ssi_Judge.j4])
                | succ kj60 =>
                 have H := HA.out
                 clear HA
                 simp only [ssi_Judge.j4] at H
                 by_cases c68 : x66_60 = true
                 ·subst c68
                  have H1 : (some (0, 101)) = some (r1, r2) := by rw [if_pos rfl] at H; exact H
                  clear H
                  have H := H1
                  clear H1
                  simp only [Option.some.injEq, Prod.mk.injEq] at H
                  obtain ⟨rfl, rfl⟩ := H
                  go_wp2
                  (try rw [Exit.noGoto_ret])
                  go_ret2
                  exact ⟨by first | rfl | (simp [errW_none, errW_some] <;> rfl) | (simp [*, errW_none, errW_some] <;> rfl), by repeat (first | (with_reducible first | exact HB.out | apply below_alloc | apply pw_below_drewN | apply below_drew1 | refine below_set ?_ GE453.out | refine below_set ?_ GE460.out) | exact HB.out)⟩
                 ·replace c68 := Bool.eq_false_iff.mpr c68
                  subst c68
                  have H1 : (if x8_1 = true then (ssi_Judge.j5 kj60 x7_1 x8_1 x11_2 x12_2 x13_2 l0 (l0.length : Int) x40_2 (decide (((rd_T26 l0 x40_2).f0) ≤ x7_1)) a1_0 a1_1 a1_2 a1_3 l1_4 l1_5 ((rd_T26 l0 x40_2).f0) ((rd_T26 l0 x40_2).f1) ((rd_T26 l0 x40_2).f2) ((rd_T26 l0 x40_2).f3) ((rd_T26 l0 x40_2).f4) ((rd_T26 l0 x40_2).f5)) else (ssi_Judge.j5 kj60 x7_1 x8_1 x11_2 x12_2 x13_2 l0 (l0.length : Int) x40_2 false a1_0 a1_1 a1_2 a1_3 l1_4 l1_5 ((rd_T26 l0 x40_2).f0) ((rd_T26 l0 x40_2).f1) ((rd_T26 l0 x40_2).f2) ((rd_T26 l0 x40_2).f3) ((rd_T26 l0 x40_2).f4) ((rd_T26 l0 x40_2).f5))) = some (r1, r2) := by rw [if_neg (show ¬ (false = true) by decide)] at H; exact H
                  clear H
                  have H := H1
                  clear H1
                  have HC69 := Aside0.mk H
                  clear H
                  go_upto_region 16 with (fail)
                  go_cut [77] (fun v77 wc => ∃ (kq : Nat) (x77_68 : Bool), v77 = .bool x77_68 ∧ Aside0 (ssi_Judge.j5 kq x7_1 x8_1 x11_2 x12_2 x13_2 l0 (l0.length : Int) x40_2 x77_68 a1_0 a1_1 a1_2 a1_3 l1_4 l1_5 ((rd_T26 l0 x40_2).f0) ((rd_T26 l0 x40_2).f1) ((rd_T26 l0 x40_2).f2) ((rd_T26 l0 x40_2).f3) ((rd_T26 l0 x40_2).f4) ((rd_T26 l0 x40_2).f5) = some (r1, r2)) ∧ Aside0 (kq ≤ kj60) ∧ Aside0 (wc.heap[gb453]? = some (.cells #[.int .u64 a1_0, .int .u64 a1_1, .int .u64 a1_2, .int .u64 a1_3, (.slice A1_4 l1_4.length c1_4), (.slice A1_5 l1_5.length c1_5)] 26 (0, 0))) ∧ Aside0 (wc.heap[gb460]? = some (.cells #[.int .u64 ((rd_T26 l0 x40_2).f0), .int .u64 ((rd_T26 l0 x40_2).f1), .int .u64 ((rd_T26 l0 x40_2).f2), .int .u64 ((rd_T26 l0 x40_2).f3), (.slice A459_4 ((rd_T26 l0 x40_2).f4).length c459_4), (.slice A459_5 ((rd_T26 l0 x40_2).f5).length c459_5)] 26 (0, 0))) ∧ Aside0 (Below w.heap.size w wc))
                  case first =>
                   have H := HC69.out
                   clear HC69
                   by_cases c70 : x8_1 = true
                   ·subst c70
                    have H1 : (ssi_Judge.j5 kj60 x7_1 true x11_2 x12_2 x13_2 l0 (l0.length : Int) x40_2 (decide (((rd_T26 l0 x40_2).f0) ≤ x7_1)) a1_0 a1_1 a1_2 a1_3 l1_4 l1_5 ((rd_T26 l0 x40_2).f0) ((rd_T26 l0 x40_2).f1) ((rd_T26 l0 x40_2).f2) ((rd_T26 l0 x40_2).f3) ((rd_T26 l0 x40_2).f4) ((rd_T26 l0 x40_2).f5)) = some (r1, r2) := by rw [if_pos rfl] at H; exact H
                    clear H
                    have H := H1
                    clear H1
                    have H' := Aside0.mk H
                    clear H
                    have hnb71 := NB460_453.out
                    have hnc71 := NB453_460.out
                    have hcz72_0 : wc.cell? ⟨gb460, 0, none⟩ = some (.int .u64 ((rd_T26 l0 x40_2).f0)) := (blk_cell BK460.out 0).trans rfl
                    have hcz72_1 : wc.cell? ⟨gb460, 1, none⟩ = some (.int .u64 ((rd_T26 l0 x40_2).f1)) := (blk_cell BK460.out 1).trans rfl
                    have hcz72_2 : wc.cell? ⟨gb460, 2, none⟩ = some (.int .u64 ((rd_T26 l0 x40_2).f2)) := (blk_cell BK460.out 2).trans rfl
                    have hcz72_3 : wc.cell? ⟨gb460, 3, none⟩ = some (.int .u64 ((rd_T26 l0 x40_2).f3)) := (blk_cell BK460.out 3).trans rfl
                    have hcz72_4 : wc.cell? ⟨gb460, 4, none⟩ = some (.slice A459_4 ((rd_T26 l0 x40_2).f4).length c459_4) := (blk_cell BK460.out 4).trans rfl
                    have hcz72_5 : wc.cell? ⟨gb460, 5, none⟩ = some (.slice A459_5 ((rd_T26 l0 x40_2).f5).length c459_5) := (blk_cell BK460.out 5).trans rfl
                    have hfz72_0 := blk_frozen BK460.out 0
                    have hfz72_1 := blk_frozen BK460.out 1
                    have hfz72_2 := blk_frozen BK460.out 2
                    have hfz72_3 := blk_frozen BK460.out 3
                    have hfz72_4 := blk_frozen BK460.out 4
                    have hfz72_5 := blk_frozen BK460.out 5
                    go_wp2
                    go_meet
                    case rel => exact ⟨_, (decide (((rd_T26 l0 x40_2).f0) ≤ x7_1)), (by first | rfl | (simp; done) | (simp [*]; done)), H', ⟨by have := HK1.out; have := HK2.out; have := HJ35.out; have := HJ52.out; have := HJ60.out; first | omega | exact Nat.le_refl _⟩, ⟨by (with_reducible repeat (first | refine blk_drewN ?_ _ | refine blk_drew ?_ | refine blk_alloc ?_ _)); exact BK453.out⟩, ⟨by (with_reducible repeat (first | refine blk_drewN ?_ _ | refine blk_drew ?_ | refine blk_alloc ?_ _)); exact BK460.out⟩, ⟨by repeat (first | (with_reducible first | exact HB.out | apply below_alloc | apply pw_below_drewN | apply below_drew1 | refine below_set ?_ GE453.out | refine below_set ?_ GE460.out) | exact HB.out)⟩⟩
                   ·replace c70 := Bool.eq_false_iff.mpr c70
                    subst c70
                    have H1 : (ssi_Judge.j5 kj60 x7_1 false x11_2 x12_2 x13_2 l0 (l0.length : Int) x40_2 false a1_0 a1_1 a1_2 a1_3 l1_4 l1_5 ((rd_T26 l0 x40_2).f0) ((rd_T26 l0 x40_2).f1) ((rd_T26 l0 x40_2).f2) ((rd_T26 l0 x40_2).f3) ((rd_T26 l0 x40_2).f4) ((rd_T26 l0 x40_2).f5)) = some (r1, r2) := by rw [if_neg (show ¬ (false = true) by decide)] at H; exact H
                    clear H
                    have H := H1
                    clear H1
                    have H' := Aside0.mk H
                    clear H
                    go_wp2
                    go_meet
                    case rel => exact ⟨_, (false), (by first | rfl | (simp; done) | (simp [*]; done)), H', ⟨by have := HK1.out; have := HK2.out; have := HJ35.out; have := HJ52.out; have := HJ60.out; first | omega | exact Nat.le_refl _⟩, ⟨by (with_reducible repeat (first | refine blk_drewN ?_ _ | refine blk_drew ?_ | refine blk_alloc ?_ _)); exact BK453.out⟩, ⟨by (with_reducible repeat (first | refine blk_drewN ?_ _ | refine blk_drew ?_ | refine blk_alloc ?_ _)); exact BK460.out⟩, ⟨by repeat (first | (with_reducible first | exact HB.out | apply below_alloc | apply pw_below_drewN | apply below_drew1 | refine below_set ?_ GE453.out | refine below_set ?_ GE460.out) | exact HB.out)⟩⟩
                  case rest =>
                   clear HC69
                   try clear c1
                   try clear c2
                   try clear p2
                   try clear c3
                   try clear c4
                   try clear c4b0
                   try clear p4
                   try clear q4
                   try clear hx4
                   try clear c5
                   try clear c5b0
                   try clear c6
                   try clear c6b0
                   try clear p6
                   try clear c7
                   try clear c8
                   try clear c10
                   try clear c14
                   try clear c18
                   try clear c23
                   try clear c30
                   try clear c33
                   try clear c33b0
                   try clear c34
                   try clear c34b0
                   try clear c35
                   try clear c35b0
                   try clear c38
                   try clear c41
                   try clear c43
                   try clear c45
                   try clear p45
                   try clear q45
                   try clear hx45
                   try clear c49
                   try clear c52
                   try clear c54
                   try clear c54b0
                   try clear c54b1
                   try clear c55
                   try clear c57
                   try clear c60
                   try clear c62
                   try clear c62b0
                   try clear c62b1
                   try clear c63
                   try clear p64
                   try clear c65
                   try clear c68
                   try clear c70
                   try clear c71
                   try clear hcz15_0
                   try clear hcz15_1
                   try clear hcz15_2
                   try clear hcz15_3
                   try clear hcz15_4
                   try clear hcz15_5
                   try clear hcz17_0
                   try clear hcz17_1
                   try clear hcz17_2
                   try clear hcz17_3
                   try clear hcz17_4
                   try clear hcz17_5
                   try clear hcz18_0
                   try clear hcz18_1
                   try clear hcz18_2
                   try clear hcz18_3
                   try clear hcz18_4
                   try clear hcz18_5
                   try clear hcz20_0
                   try clear hcz20_1
                   try clear hcz20_2
                   try clear hcz20_3
                   try clear hcz20_4
                   try clear hcz20_5
                   try clear hcz24_0
                   try clear hcz24_1
                   try clear hcz24_2
                   try clear hcz24_3
                   try clear hcz24_4
                   try clear hcz24_5
                   try clear hcz26_0
                   try clear hcz26_1
                   try clear hcz26_2
                   try clear hcz26_3
                   try clear hcz26_4
                   try clear hcz26_5
                   try clear hcz27_0
                   try clear hcz27_1
                   try clear hcz27_2
                   try clear hcz27_3
                   try clear hcz27_4
                   try clear hcz27_5
                   try clear hcz31_0
                   try clear hcz31_1
                   try clear hcz31_2
                   try clear hcz31_3
                   try clear hcz31_4
                   try clear hcz31_5
                   try clear hcz39_0
                   try clear hcz39_1
                   try clear hcz39_2
                   try clear hcz39_3
                   try clear hcz39_4
                   try clear hcz39_5
                   try clear hcz44_0
                   try clear hcz44_1
                   try clear hcz44_2
                   try clear hcz44_3
                   try clear hcz44_4
                   try clear hcz44_5
                   try clear hcz46_0
                   try clear hcz46_1
                   try clear hcz46_2
                   try clear hcz46_3
                   try clear hcz46_4
                   try clear hcz46_5
                   try clear hcz47_0
                   try clear hcz47_1
                   try clear hcz47_2
                   try clear hcz47_3
                   try clear hcz47_4
                   try clear hcz47_5
                   try clear hcz50_0
                   try clear hcz50_1
                   try clear hcz50_2
                   try clear hcz50_3
                   try clear hcz50_4
                   try clear hcz50_5
                   try clear hcz56_0
                   try clear hcz56_1
                   try clear hcz56_2
                   try clear hcz56_3
                   try clear hcz56_4
                   try clear hcz56_5
                   try clear hcz58_0
                   try clear hcz58_1
                   try clear hcz58_2
                   try clear hcz58_3
                   try clear hcz58_4
                   try clear hcz58_5
                   try clear hcz59_0
                   try clear hcz59_1
                   try clear hcz59_2
                   try clear hcz59_3
                   try clear hcz59_4
                   try clear hcz59_5
                   try clear hcz64_0
                   try clear hcz64_1
                   try clear hcz64_2
                   try clear hcz64_3
                   try clear hcz64_4
                   try clear hcz64_5
                   try clear hcz66_0
                   try clear hcz66_1
                   try clear hcz66_2
                   try clear hcz66_3
                   try clear hcz66_4
                   try clear hcz66_5
                   try clear hcz67_0
                   try clear hcz67_1
                   try clear hcz67_2
                   try clear hcz67_3
                   try clear hcz67_4
                   try clear hcz67_5
                   try clear hcz72_0
                   try clear hcz72_1
                   try clear hcz72_2
                   try clear hcz72_3
                   try clear hcz72_4
                   try clear hcz72_5
                   try clear hfz15_0
                   try clear hfz15_1
                   try clear hfz15_2
                   try clear hfz15_3
                   try clear hfz15_4
                   try clear hfz15_5
                   try clear hfz17_0
                   try clear hfz17_1
                   try clear hfz17_2
                   try clear hfz17_3
                   try clear hfz17_4
                   try clear hfz17_5
                   try clear hfz18_0
                   try clear hfz18_1
                   try clear hfz18_2
                   try clear hfz18_3
                   try clear hfz18_4
                   try clear hfz18_5
                   try clear hfz20_0
                   try clear hfz20_1
                   try clear hfz20_2
                   try clear hfz20_3
                   try clear hfz20_4
                   try clear hfz20_5
                   try clear hfz24_0
                   try clear hfz24_1
                   try clear hfz24_2
                   try clear hfz24_3
                   try clear hfz24_4
                   try clear hfz24_5
                   try clear hfz26_0
                   try clear hfz26_1
                   try clear hfz26_2
                   try clear hfz26_3
                   try clear hfz26_4
                   try clear hfz26_5
                   try clear hfz27_0
                   try clear hfz27_1
                   try clear hfz27_2
                   try clear hfz27_3
                   try clear hfz27_4
                   try clear hfz27_5
                   try clear hfz31_0
                   try clear hfz31_1
                   try clear hfz31_2
                   try clear hfz31_3
                   try clear hfz31_4
                   try clear hfz31_5
                   try clear hfz39_0
                   try clear hfz39_1
                   try clear hfz39_2
                   try clear hfz39_3
                   try clear hfz39_4
                   try clear hfz39_5
                   try clear hfz44_0
                   try clear hfz44_1
                   try clear hfz44_2
                   try clear hfz44_3
                   try clear hfz44_4
                   try clear hfz44_5
                   try clear hfz46_0
                   try clear hfz46_1
                   try clear hfz46_2
                   try clear hfz46_3
                   try clear hfz46_4
                   try clear hfz46_5
                   try clear hfz47_0
                   try clear hfz47_1
                   try clear hfz47_2
                   try clear hfz47_3
                   try clear hfz47_4
                   try clear hfz47_5
                   try clear hfz50_0
                   try clear hfz50_1
                   try clear hfz50_2
                   try clear hfz50_3
                   try clear hfz50_4
                   try clear hfz50_5
                   try clear hfz56_0
                   try clear hfz56_1
                   try clear hfz56_2
                   try clear hfz56_3
                   try clear hfz56_4
                   try clear hfz56_5
                   try clear hfz58_0
                   try clear hfz58_1
                   try clear hfz58_2
                   try clear hfz58_3
                   try clear hfz58_4
                   try clear hfz58_5
                   try clear hfz59_0
                   try clear hfz59_1
                   try clear hfz59_2
                   try clear hfz59_3
                   try clear hfz59_4
                   try clear hfz59_5
                   try clear hfz64_0
                   try clear hfz64_1
                   try clear hfz64_2
                   try clear hfz64_3
                   try clear hfz64_4
                   try clear hfz64_5
                   try clear hfz66_0
                   try clear hfz66_1
                   try clear hfz66_2
                   try clear hfz66_3
                   try clear hfz66_4
                   try clear hfz66_5
                   try clear hfz67_0
                   try clear hfz67_1
                   try clear hfz67_2
                   try clear hfz67_3
                   try clear hfz67_4
                   try clear hfz67_5
                   try clear hfz72_0
                   try clear hfz72_1
                   try clear hfz72_2
                   try clear hfz72_3
                   try clear hfz72_4
                   try clear hfz72_5
                   try clear hx454_0
                   try clear hx454_1
                   try clear hx454_2
                   try clear hx454_3
                   try clear hx454_4
                   try clear hx454_5
                   try clear hx459_0
                   try clear hx459_1
                   try clear hx459_2
                   try clear hx459_3
                   try clear hx459_4
                   try clear hx459_5
                   try clear p2
                   try clear p4
                   try clear p45
                   try clear p454
                   try clear p459
                   try clear p6
                   try clear p64
                   try clear q4
                   try clear q45
                   try clear q454
                   try clear q459
                   obtain ⟨kq, x77_68, rfl, HA, HJ68, BK453, BK460, HB⟩ := hcut
                   cases kq with
                   | zero => exact absurd HA.out (by simp [ssi_Judge.j5])
                   | succ kj68 =>
                    have H := HA.out
                    clear HA
                    simp only [ssi_Judge.j5] at H
                    by_cases c73 : x77_68 = true
                    ·subst c73
                     have H1 : (some (0, 101)) = some (r1, r2) := by rw [if_pos rfl] at H; exact H
                     clear H
                     have H := H1
                     clear H1
                     simp only [Option.some.injEq, Prod.mk.injEq] at H
                     obtain ⟨rfl, rfl⟩ := H
                     go_wp2
                     (try rw [Exit.noGoto_ret])
                     go_ret2
                     exact ⟨by first | rfl | (simp [errW_none, errW_some] <;> rfl) | (simp [*, errW_none, errW_some] <;> rfl), by repeat (first | (with_reducible first | exact HB.out | apply below_alloc | apply pw_below_drewN | apply below_drew1 | refine below_set ?_ GE453.out | refine below_set ?_ GE460.out) | exact HB.out)⟩
                    ·replace c73 := Bool.eq_false_iff.mpr c73
                     subst c73
                     have H1 : (if x12_2 = true then (if ((rd_T26 l0 x40_2).f0) < x11_2 then (ssi_Judge.l1 kj68 x7_1 x8_1 ((rd_T26 l0 x40_2).f0) true x13_2 l0 (l0.length : Int) (wrap64 (x40_2 + 1)) a1_0 a1_1 a1_2 a1_3 l1_4 l1_5) else (ssi_Judge.l1 kj68 x7_1 x8_1 x11_2 x12_2 x13_2 l0 (l0.length : Int) (wrap64 (x40_2 + 1)) a1_0 a1_1 a1_2 a1_3 l1_4 l1_5)) else (ssi_Judge.l1 kj68 x7_1 x8_1 ((rd_T26 l0 x40_2).f0) true x13_2 l0 (l0.length : Int) (wrap64 (x40_2 + 1)) a1_0 a1_1 a1_2 a1_3 l1_4 l1_5)) = some (r1, r2) := by rw [if_neg (show ¬ (false = true) by decide)] at H; exact H
                     clear H
                     have H := H1
                     clear H1
                     by_cases c74 : x12_2 = true
                     ·subst c74
                      have H1 : (if ((rd_T26 l0 x40_2).f0) < x11_2 then (ssi_Judge.l1 kj68 x7_1 x8_1 ((rd_T26 l0 x40_2).f0) true x13_2 l0 (l0.length : Int) (wrap64 (x40_2 + 1)) a1_0 a1_1 a1_2 a1_3 l1_4 l1_5) else (ssi_Judge.l1 kj68 x7_1 x8_1 x11_2 true x13_2 l0 (l0.length : Int) (wrap64 (x40_2 + 1)) a1_0 a1_1 a1_2 a1_3 l1_4 l1_5)) = some (r1, r2) := by rw [if_pos rfl] at H; exact H
                      clear H
                      have H := H1
                      clear H1
                      by_cases c75 : ((rd_T26 l0 x40_2).f0) < x11_2
                      ·rw [if_pos c75] at H
                       have c75b0 : decide (((rd_T26 l0 x40_2).f0) < x11_2) = true := decide_eq_true c75
                       clear c75
                       have H' := Aside0.mk H
                       clear H
                       have hnb76 := NB460_453.out
                       have hnc76 := NB453_460.out
                       have hcz77_0 : wc.cell? ⟨gb460, 0, none⟩ = some (.int .u64 ((rd_T26 l0 x40_2).f0)) := (blk_cell BK460.out 0).trans rfl
                       have hcz77_1 : wc.cell? ⟨gb460, 1, none⟩ = some (.int .u64 ((rd_T26 l0 x40_2).f1)) := (blk_cell BK460.out 1).trans rfl
                       have hcz77_2 : wc.cell? ⟨gb460, 2, none⟩ = some (.int .u64 ((rd_T26 l0 x40_2).f2)) := (blk_cell BK460.out 2).trans rfl
                       have hcz77_3 : wc.cell? ⟨gb460, 3, none⟩ = some (.int .u64 ((rd_T26 l0 x40_2).f3)) := (blk_cell BK460.out 3).trans rfl
                       have hcz77_4 : wc.cell? ⟨gb460, 4, none⟩ = some (.slice A459_4 ((rd_T26 l0 x40_2).f4).length c459_4) := (blk_cell BK460.out 4).trans rfl
                       have hcz77_5 : wc.cell? ⟨gb460, 5, none⟩ = some (.slice A459_5 ((rd_T26 l0 x40_2).f5).length c459_5) := (blk_cell BK460.out 5).trans rfl
                       have hfz77_0 := blk_frozen BK460.out 0
                       have hfz77_1 := blk_frozen BK460.out 1
                       have hfz77_2 := blk_frozen BK460.out 2
                       have hfz77_3 := blk_frozen BK460.out 3
                       have hfz77_4 := blk_frozen BK460.out 4
                       have hfz77_5 := blk_frozen BK460.out 5
                       go_wp2
                       go_roundg kj68
                       case measure => have := HK1.out; have := HK2.out; have := HJ35.out; have := HJ52.out; have := HJ60.out; have := HJ68.out; omega
                       case rel => exact ⟨(((rd_T26 l0 x40_2).f0)), (true), (x13_2), (wrap64 (x40_2 + 1)), (by first | rfl | (simp; done) | (simp [*]; done)), (by first | rfl | (simp; done) | (simp [*]; done)), (by first | rfl | (simp; done) | (simp [*]; done)), (by first | rfl | (simp; done) | (simp [*]; done)), H', ⟨by have := HK1.out; have := HK2.out; have := HJ35.out; have := HJ52.out; have := HJ60.out; have := HJ68.out; omega⟩, ⟨by (with_reducible repeat (first | refine blk_drewN ?_ _ | refine blk_drew ?_ | refine blk_alloc ?_ _)); exact BK453.out⟩, ⟨by repeat (first | (with_reducible first | exact HB.out | apply below_alloc | apply pw_below_drewN | apply below_drew1 | refine below_set ?_ GE453.out | refine below_set ?_ GE460.out) | exact HB.out)⟩⟩
                      ·rw [if_neg c75] at H
                       have c75b0 : decide (((rd_T26 l0 x40_2).f0) < x11_2) = false := decide_eq_false c75
                       clear c75
                       have H' := Aside0.mk H
                       clear H
                       have hnb78 := NB460_453.out
                       have hnc78 := NB453_460.out
                       have hcz79_0 : wc.cell? ⟨gb460, 0, none⟩ = some (.int .u64 ((rd_T26 l0 x40_2).f0)) := (blk_cell BK460.out 0).trans rfl
                       have hcz79_1 : wc.cell? ⟨gb460, 1, none⟩ = some (.int .u64 ((rd_T26 l0 x40_2).f1)) := (blk_cell BK460.out 1).trans rfl
                       have hcz79_2 : wc.cell? ⟨gb460, 2, none⟩ = some (.int .u64 ((rd_T26 l0 x40_2).f2)) := (blk_cell BK460.out 2).trans rfl
                       have hcz79_3 : wc.cell? ⟨gb460, 3, none⟩ = some (.int .u64 ((rd_T26 l0 x40_2).f3)) := (blk_cell BK460.out 3).trans rfl
                       have hcz79_4 : wc.cell? ⟨gb460, 4, none⟩ = some (.slice A459_4 ((rd_T26 l0 x40_2).f4).length c459_4) := (blk_cell BK460.out 4).trans rfl
                       have hcz79_5 : wc.cell? ⟨gb460, 5, none⟩ = some (.slice A459_5 ((rd_T26 l0 x40_2).f5).length c459_5) := (blk_cell BK460.out 5).trans rfl
                       have hfz79_0 := blk_frozen BK460.out 0
                       have hfz79_1 := blk_frozen BK460.out 1
                       have hfz79_2 := blk_frozen BK460.out 2
                       have hfz79_3 := blk_frozen BK460.out 3
                       have hfz79_4 := blk_frozen BK460.out 4
                       have hfz79_5 := blk_frozen BK460.out 5
                       go_wp2
                       go_roundg kj68
                       case measure => have := HK1.out; have := HK2.out; have := HJ35.out; have := HJ52.out; have := HJ60.out; have := HJ68.out; omega
                       case rel => exact ⟨(x11_2), (true), (x13_2), (wrap64 (x40_2 + 1)), (by first | rfl | (simp; done) | (simp [*]; done)), (by first | rfl | (simp; done) | (simp [*]; done)), (by first | rfl | (simp; done) | (simp [*]; done)), (by first | rfl | (simp; done) | (simp [*]; done)), H', ⟨by have := HK1.out; have := HK2.out; have := HJ35.out; have := HJ52.out; have := HJ60.out; have := HJ68.out; omega⟩, ⟨by (with_reducible repeat (first | refine blk_drewN ?_ _ | refine blk_drew ?_ | refine blk_alloc ?_ _)); exact BK453.out⟩, ⟨by repeat (first | (with_reducible first | exact HB.out | apply below_alloc | apply pw_below_drewN | apply below_drew1 | refine below_set ?_ GE453.out | refine below_set ?_ GE460.out) | exact HB.out)⟩⟩
                     ·replace c74 := Bool.eq_false_iff.mpr c74
                      subst c74
                      have H1 : (ssi_Judge.l1 kj68 x7_1 x8_1 ((rd_T26 l0 x40_2).f0) true x13_2 l0 (l0.length : Int) (wrap64 (x40_2 + 1)) a1_0 a1_1 a1_2 a1_3 l1_4 l1_5) = some (r1, r2) := by rw [if_neg (show ¬ (false = true) by decide)] at H; exact H
                      clear H
                      have H := H1
                      clear H1
                      have H' := Aside0.mk H
                      clear H
                      have hnb80 := NB460_453.out
                      have hnc80 := NB453_460.out
                      have hcz81_0 : wc.cell? ⟨gb460, 0, none⟩ = some (.int .u64 ((rd_T26 l0 x40_2).f0)) := (blk_cell BK460.out 0).trans rfl
                      have hcz81_1 : wc.cell? ⟨gb460, 1, none⟩ = some (.int .u64 ((rd_T26 l0 x40_2).f1)) := (blk_cell BK460.out 1).trans rfl
                      have hcz81_2 : wc.cell? ⟨gb460, 2, none⟩ = some (.int .u64 ((rd_T26 l0 x40_2).f2)) := (blk_cell BK460.out 2).trans rfl
                      have hcz81_3 : wc.cell? ⟨gb460, 3, none⟩ = some (.int .u64 ((rd_T26 l0 x40_2).f3)) := (blk_cell BK460.out 3).trans rfl
                      have hcz81_4 : wc.cell? ⟨gb460, 4, none⟩ = some (.slice A459_4 ((rd_T26 l0 x40_2).f4).length c459_4) := (blk_cell BK460.out 4).trans rfl
                      have hcz81_5 : wc.cell? ⟨gb460, 5, none⟩ = some (.slice A459_5 ((rd_T26 l0 x40_2).f5).length c459_5) := (blk_cell BK460.out 5).trans rfl
                      have hfz81_0 := blk_frozen BK460.out 0
                      have hfz81_1 := blk_frozen BK460.out 1
                      have hfz81_2 := blk_frozen BK460.out 2
                      have hfz81_3 := blk_frozen BK460.out 3
                      have hfz81_4 := blk_frozen BK460.out 4
                      have hfz81_5 := blk_frozen BK460.out 5
                      go_wp2
                      go_roundg kj68
                      case measure => have := HK1.out; have := HK2.out; have := HJ35.out; have := HJ52.out; have := HJ60.out; have := HJ68.out; omega
                      case rel => exact ⟨(((rd_T26 l0 x40_2).f0)), (true), (x13_2), (wrap64 (x40_2 + 1)), (by first | rfl | (simp; done) | (simp [*]; done)), (by first | rfl | (simp; done) | (simp [*]; done)), (by first | rfl | (simp; done) | (simp [*]; done)), (by first | rfl | (simp; done) | (simp [*]; done)), H', ⟨by have := HK1.out; have := HK2.out; have := HJ35.out; have := HJ52.out; have := HJ60.out; have := HJ68.out; omega⟩, ⟨by (with_reducible repeat (first | refine blk_drewN ?_ _ | refine blk_drew ?_ | refine blk_alloc ?_ _)); exact BK453.out⟩, ⟨by repeat (first | (with_reducible first | exact HB.out | apply below_alloc | apply pw_below_drewN | apply below_drew1 | refine below_set ?_ GE453.out | refine below_set ?_ GE460.out) | exact HB.out)⟩⟩
        ·rw [if_neg c35] at H
         exact absurd H (by simp)
       ·rw [if_neg c34] at H
        exact absurd H (by simp)
      ·rw [if_neg c33] at H
       have c33b0 : decide (x40_2 < (l0.length : Int)) = false := decide_eq_false c33
       clear c33
       by_cases c82 : x13_2 = true
       ·subst c82
        have H1 : (some (0, 101)) = some (r1, r2) := by rw [if_pos rfl] at H; exact H
        clear H
        have H := H1
        clear H1
        simp only [Option.some.injEq, Prod.mk.injEq] at H
        obtain ⟨rfl, rfl⟩ := H
        go_wp2
        (try rw [Exit.noGoto_ret])
        go_ret2
        exact ⟨by first | rfl | (simp [errW_none, errW_some] <;> rfl) | (simp [*, errW_none, errW_some] <;> rfl), by repeat (first | (with_reducible first | exact HB.out | apply below_alloc | apply pw_below_drewN | apply below_drew1 | refine below_set ?_ GE453.out) | exact HB.out)⟩
       ·replace c82 := Bool.eq_false_iff.mpr c82
        subst c82
        have H1 : (some (x11_2, 0)) = some (r1, r2) := by rw [if_neg (show ¬ (false = true) by decide)] at H; exact H
        clear H
        have H := H1
        clear H1
        simp only [Option.some.injEq, Prod.mk.injEq] at H
        obtain ⟨rfl, rfl⟩ := H
        go_wp2
        (try rw [Exit.noGoto_ret])
        go_ret2
        exact ⟨by first | rfl | (simp [errW_none, errW_some] <;> rfl) | (simp [*, errW_none, errW_some] <;> rfl), by repeat (first | (with_reducible first | exact HB.out | apply below_alloc | apply pw_below_drewN | apply below_drew1 | refine below_set ?_ GE453.out) | exact HB.out)⟩
end Go.Proofs.Ytjefihcbhdennaa.S
