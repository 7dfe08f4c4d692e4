/- Texts of this session, merged for the law SsiJoins: S11. No condition. -/
import Derived.Test.YtjefihcbhdennaaZSsiJoinsd
import Derived.Test.YtjefihcbhdennaaZSsiJoinsp
import Derived.Test.YtjefihcbhdennaaZSsiJoinss
namespace Go.Proofs.Ytjefihcbhdennaa.S
open Go.RowKit Go.Proofs.YtjefihcbhdennaaW.PrintWords Go.Proofs.YtjefihcbhdennaaW.PrintLast Go.Proofs.YtjefihcbhdennaaW.PrintMore
attribute [local go_sem] max2_int min2_int max2_str min2_str str_leq str_gtr str_geq max_two min_two max_three min_three max_four min_four
set_option linter.unusedVariables false
set_option linter.unusedSimpArgs false
mutual
def api_Span_81.l0 : Nat → List (S41) → Int → Int → Int → Option ((List (S41)))
 | 0, _, _, _, _ => none
 | k + 1, x0, x1, x10, x11 => if x10 < x11 then (if 0 ≤ (wrap64 ((IntKind.u64.wrap (wrap64 (x10 + x11))) / 2)) then (if (wrap64 ((IntKind.u64.wrap (wrap64 (x10 + x11))) / 2)) < (x0.length : Int) then (if 0 ≤ x1 then (if x1 < (x0.length : Int) then ((span_Join_2.f ((rd_T41 x0 (wrap64 ((IntKind.u64.wrap (wrap64 (x10 + x11))) / 2))).f0) ((rd_T41 x0 (wrap64 ((IntKind.u64.wrap (wrap64 (x10 + x11))) / 2))).f1) ((rd_T41 x0 x1).f0) ((rd_T41 x0 x1).f1)).bind fun t129 => (if t129 < 0 then (api_Span_81.l0 k x0 x1 (wrap64 ((wrap64 ((IntKind.u64.wrap (wrap64 (x10 + x11))) / 2)) + 1)) x11) else (api_Span_81.l0 k x0 x1 x10 (wrap64 ((IntKind.u64.wrap (wrap64 (x10 + x11))) / 2))))) else (none)) else (none)) else (none)) else (none)) else (api_Span_81.l1 k x0 x10 x1)
def api_Span_81.l1 : Nat → List (S41) → Int → Int → Option ((List (S41)))
 | 0, _, _, _ => none
 | k + 1, x0, x10, x13 => if x13 < (wrap64 (x10 - 1)) then (if 0 ≤ (wrap64 (x13 + 1)) then (if (wrap64 (x13 + 1)) < (x0.length : Int) then (if 0 ≤ x13 then (if x13 < (x0.length : Int) then (api_Span_81.l1 k ((x0.set (x13 : Int).toNat (⟨(rd_T41 x0 (wrap64 (x13 + 1))).f0, (rd_T41 x0 (wrap64 (x13 + 1))).f1⟩ : S41)).set ((wrap64 (x13 + 1)) : Int).toNat (⟨(rd_T41 x0 x13).f0, (rd_T41 x0 x13).f1⟩ : S41)) x10 (wrap64 (x13 + 1))) else (none)) else (none)) else (none)) else (none)) else (some x0)
def api_Span_81.l2 : Nat → List (S41) → Int → Int → Int → Option ((List (S41)))
 | 0, _, _, _, _ => none
 | k + 1, x0, x2, x14, x15 => if x14 < x15 then (if 0 ≤ x2 then (if x2 < (x0.length : Int) then (if 0 ≤ (wrap64 ((IntKind.u64.wrap (wrap64 (x14 + x15))) / 2)) then (if (wrap64 ((IntKind.u64.wrap (wrap64 (x14 + x15))) / 2)) < (x0.length : Int) then ((span_Join_2.f ((rd_T41 x0 x2).f0) ((rd_T41 x0 x2).f1) ((rd_T41 x0 (wrap64 ((IntKind.u64.wrap (wrap64 (x14 + x15))) / 2))).f0) ((rd_T41 x0 (wrap64 ((IntKind.u64.wrap (wrap64 (x14 + x15))) / 2))).f1)).bind fun t136 => (if t136 < 0 then (api_Span_81.l2 k x0 x2 x14 (wrap64 ((IntKind.u64.wrap (wrap64 (x14 + x15))) / 2))) else (api_Span_81.l2 k x0 x2 (wrap64 ((wrap64 ((IntKind.u64.wrap (wrap64 (x14 + x15))) / 2)) + 1)) x15))) else (none)) else (none)) else (none)) else (none)) else (api_Span_81.l3 k x0 x14 x2)
def api_Span_81.l3 : Nat → List (S41) → Int → Int → Option ((List (S41)))
 | 0, _, _, _ => none
 | k + 1, x0, x14, x17 => if x17 > x14 then (if 0 ≤ (wrap64 (x17 - 1)) then (if (wrap64 (x17 - 1)) < (x0.length : Int) then (if 0 ≤ x17 then (if x17 < (x0.length : Int) then (api_Span_81.l3 k ((x0.set (x17 : Int).toNat (⟨(rd_T41 x0 (wrap64 (x17 - 1))).f0, (rd_T41 x0 (wrap64 (x17 - 1))).f1⟩ : S41)).set ((wrap64 (x17 - 1)) : Int).toNat (⟨(rd_T41 x0 x17).f0, (rd_T41 x0 x17).f1⟩ : S41)) x14 (wrap64 (x17 - 1))) else (none)) else (none)) else (none)) else (none)) else (some x0)
def api_Span_81.j4 : Nat → List (S41) → Int → Int → Int → Int → Int → Int → Int → Option ((List (S41)))
 | 0, _, _, _, _, _, _, _, _ => none
 | k + 1, x0, x1, x2, x3, x18, x19, x20, x21 => api_Span_81.l4 k x0 x1 x2 x3 x18 x19 x20 x21 (wrap64 (x19 - 1))
def api_Span_81.l4 : Nat → List (S41) → Int → Int → Int → Int → Int → Int → Int → Int → Option ((List (S41)))
 | 0, _, _, _, _, _, _, _, _, _ => none
 | k + 1, x0, x1, x2, x3, x18, x19, x20, x21, x22 => if x20 < x21 then (if 0 ≤ (wrap64 (x22 - (wrap64 ((IntKind.u64.wrap (wrap64 (x20 + x21))) / 2)))) then (if (wrap64 (x22 - (wrap64 ((IntKind.u64.wrap (wrap64 (x20 + x21))) / 2)))) < (x0.length : Int) then (if 0 ≤ (wrap64 ((IntKind.u64.wrap (wrap64 (x20 + x21))) / 2)) then (if (wrap64 ((IntKind.u64.wrap (wrap64 (x20 + x21))) / 2)) < (x0.length : Int) then ((span_Join_2.f ((rd_T41 x0 (wrap64 (x22 - (wrap64 ((IntKind.u64.wrap (wrap64 (x20 + x21))) / 2))))).f0) ((rd_T41 x0 (wrap64 (x22 - (wrap64 ((IntKind.u64.wrap (wrap64 (x20 + x21))) / 2))))).f1) ((rd_T41 x0 (wrap64 ((IntKind.u64.wrap (wrap64 (x20 + x21))) / 2))).f0) ((rd_T41 x0 (wrap64 ((IntKind.u64.wrap (wrap64 (x20 + x21))) / 2))).f1)).bind fun t143 => (if t143 < 0 then (api_Span_81.l4 k x0 x1 x2 x3 x18 x19 x20 (wrap64 ((IntKind.u64.wrap (wrap64 (x20 + x21))) / 2)) x22) else (api_Span_81.l4 k x0 x1 x2 x3 x18 x19 (wrap64 ((wrap64 ((IntKind.u64.wrap (wrap64 (x20 + x21))) / 2)) + 1)) x21 x22))) else (none)) else (none)) else (none)) else (none)) else (if x20 < x2 then (api_Span_81.j6 k x0 x1 x2 x3 x18 x20 (wrap64 (x19 - x20)) (decide (x2 < (wrap64 (x19 - x20))))) else (api_Span_81.j6 k x0 x1 x2 x3 x18 x20 (wrap64 (x19 - x20)) false))
def api_Span_81.j6 : Nat → List (S41) → Int → Int → Int → Int → Int → Int → Bool → Option ((List (S41)))
 | 0, _, _, _, _, _, _, _, _ => none
 | k + 1, x0, x1, x2, x3, x18, x20, x24, x185 => if x185 = true then ((api_Span_83.f k x0 x20 x2 x24).bind fun t144 => (api_Span_81.j7 k t144 x1 x3 x18 x20 x24)) else (api_Span_81.j7 k x0 x1 x3 x18 x20 x24)
def api_Span_81.j7 : Nat → List (S41) → Int → Int → Int → Int → Int → Option ((List (S41)))
 | 0, _, _, _, _, _, _ => none
 | k + 1, x0, x1, x3, x18, x20, x24 => if x1 < x20 then (api_Span_81.j8 k x0 x1 x3 x18 x20 x24 (decide (x20 < x18))) else (api_Span_81.j8 k x0 x1 x3 x18 x20 x24 false)
def api_Span_81.j8 : Nat → List (S41) → Int → Int → Int → Int → Int → Bool → Option ((List (S41)))
 | 0, _, _, _, _, _, _, _ => none
 | k + 1, x0, x1, x3, x18, x20, x24, x199 => if x199 = true then ((api_Span_81.f k x0 x1 x20 x18).bind fun t145 => (if x18 < x24 then (if x24 < x3 then ((api_Span_81.f k t145 x18 x24 x3).bind fun t146 => (some t146)) else (some t145)) else (some t145))) else (if x18 < x24 then (if x24 < x3 then ((api_Span_81.f k x0 x18 x24 x3).bind fun t147 => (some t147)) else (some x0)) else (some x0))
def api_Span_81.f : Nat → List (S41) → Int → Int → Int → Option ((List (S41)))
 | 0, _, _, _, _ => none
 | k + 1, l0, a1, a2, a3 => if (wrap64 (a2 - a1)) = 1 then (api_Span_81.l0 k l0 a1 a2 a3) else (if (wrap64 (a3 - a2)) = 1 then (api_Span_81.l2 k l0 a2 a1 a2) else (if a2 > (wrap64 ((IntKind.u64.wrap (wrap64 (a1 + a3))) / 2)) then (api_Span_81.j4 k l0 a1 a2 a3 (wrap64 ((IntKind.u64.wrap (wrap64 (a1 + a3))) / 2)) (wrap64 ((wrap64 ((IntKind.u64.wrap (wrap64 (a1 + a3))) / 2)) + a2)) (wrap64 ((wrap64 ((wrap64 ((IntKind.u64.wrap (wrap64 (a1 + a3))) / 2)) + a2)) - a3)) (wrap64 ((IntKind.u64.wrap (wrap64 (a1 + a3))) / 2))) else (api_Span_81.j4 k l0 a1 a2 a3 (wrap64 ((IntKind.u64.wrap (wrap64 (a1 + a3))) / 2)) (wrap64 ((wrap64 ((IntKind.u64.wrap (wrap64 (a1 + a3))) / 2)) + a2)) a1 a2)))
end
def api_Span_81.T5 : Bool × List (List Nat × List Nat) := (true, [([], []), ([], []), ([], []), ([1, 2], [1, 2]), ([3], [3]), ([], []), ([], []), ([5, 6], [5, 6]), ([7], [7]), ([0, 4, 8], [0, 4, 8]), ([9], [9])])
def api_Span_81.B5 : List Nat := [0, 0, 0, 6, 14, 0, 0, 96, 224, 511, 1023]
theorem api_Span_81.tab5 : rtab .any (opsOf Try.f81 5) = api_Span_81.T5 := by kernel_rfl
theorem api_Span_81.bits5 : waitsOk api_Span_81.T5.2 api_Span_81.B5 = true := by kernel_rfl
def api_Span_81.T11 : Bool × List (List Nat × List Nat) := (true, [([], []), ([], []), ([], []), ([], []), ([3], [3]), ([], []), ([], []), ([6], [6]), ([5, 7], [5, 7]), ([8], [8]), ([], []), ([], []), ([10, 11], [10, 11]), ([12], [12]), ([0, 1, 0, 1, 5, 6, 7, 8, 9, 13], [0, 1]), ([14, 9, 0, 1, 5, 6, 7, 8, 9, 13], [9, 14]), ([2, 4, 0, 1, 2, 3, 4, 5, 6, 7, 8, 9, 10, 11, 12, 13, 14, 15], [2, 4]), ([16, 13, 15, 0, 1, 2, 3, 4, 5, 6, 7, 8, 9, 10, 11, 12, 13, 14, 15], [13, 16])])
def api_Span_81.B11 : List Nat := [0, 0, 0, 0, 8, 0, 0, 64, 224, 480, 0, 0, 3072, 7168, 16355, 32739, 65535, 131071]
theorem api_Span_81.tab11 : rtab .any (opsOf Try.f81 11) = api_Span_81.T11 := by kernel_rfl
theorem api_Span_81.bits11 : waitsOk api_Span_81.T11.2 api_Span_81.B11 = true := by kernel_rfl
def api_Span_81.T17 : Bool × List (List Nat × List Nat) := (true, [([], []), ([], []), ([], []), ([1, 2], [1, 2]), ([3], [3]), ([], []), ([], []), ([5, 6], [5, 6]), ([7], [7]), ([0, 4, 8], [0, 4, 8]), ([9], [9]), ([10], [10])])
def api_Span_81.B17 : List Nat := [0, 0, 0, 6, 14, 0, 0, 96, 224, 511, 1023, 2047]
theorem api_Span_81.tab17 : rtab .any (opsOf Try.f81 17) = api_Span_81.T17 := by kernel_rfl
theorem api_Span_81.bits17 : waitsOk api_Span_81.T17.2 api_Span_81.B17 = true := by kernel_rfl
def api_Span_81.T23 : Bool × List (List Nat × List Nat) := (true, [([], []), ([], []), ([], []), ([], []), ([3], [3]), ([], []), ([], []), ([6], [6]), ([5, 7], [5, 7]), ([8], [8]), ([], []), ([], []), ([10, 11], [10, 11]), ([12], [12]), ([0, 1, 0, 1, 5, 6, 7, 8, 9, 13], [0, 1]), ([14, 9, 0, 1, 5, 6, 7, 8, 9, 13], [9, 14]), ([2, 4, 0, 1, 2, 3, 4, 5, 6, 7, 8, 9, 10, 11, 12, 13, 14, 15], [2, 4]), ([16, 13, 15, 0, 1, 2, 3, 4, 5, 6, 7, 8, 9, 10, 11, 12, 13, 14, 15], [13, 16])])
def api_Span_81.B23 : List Nat := [0, 0, 0, 0, 8, 0, 0, 64, 224, 480, 0, 0, 3072, 7168, 16355, 32739, 65535, 131071]
theorem api_Span_81.tab23 : rtab .any (opsOf Try.f81 23) = api_Span_81.T23 := by kernel_rfl
theorem api_Span_81.bits23 : waitsOk api_Span_81.T23.2 api_Span_81.B23 = true := by kernel_rfl
def api_Span_81.T35 : Bool × List (List Nat × List Nat) := (true, [([], []), ([], []), ([], []), ([], []), ([2, 3], [2, 3]), ([1, 4], [1, 4]), ([5], [5]), ([], []), ([], []), ([7, 8], [7, 8]), ([9], [9]), ([0, 6, 10], [0, 6, 10]), ([11], [11]), ([12], [12])])
def api_Span_81.B35 : List Nat := [0, 0, 0, 0, 12, 30, 62, 0, 0, 384, 896, 2047, 4095, 8191]
theorem api_Span_81.tab35 : rtab .any (opsOf Try.f81 35) = api_Span_81.T35 := by kernel_rfl
theorem api_Span_81.bits35 : waitsOk api_Span_81.T35.2 api_Span_81.B35 = true := by kernel_rfl
set_option maxHeartbeats 8000000 in
set_option maxRecDepth 100000 in
theorem api_Span_81.callsA (k : Nat) (ih : ∀ m_ : Nat, m_ < k → ∀ (P0_ : Nat → Prop) (u9000_ : Value) (l0 : List (S41)) (a1 : Int) (a2 : Int) (a3 : Int)  (r : List (S41)) (w0 w : World) (hB : Below w0.heap.size w0 w) (ho0 : Kd.R k41 41 w w0.heap.size P0_ u9000_ l0) (h : api_Span_81.f m_ l0 a1 a2 a3 = some r),
  Calls Try.prog 81 #[u9000_, .int .i64 a1, .int .i64 a2, .int .i64 a3, .func (.func 62) #[] #[]] w fun e w' => e = .returned (.tuple #[]) ∧ Kd.R k41 41 w' w0.heap.size (fun k_ => (P0_ k_ ∨ w.heap.size ≤ k_)) u9000_ r ∧ Below w0.heap.size w0 w' ∧ Kept w w' (fun k_ => P0_ k_)) : ∀ (P0_ : Nat → Prop) (u9000_ : Value) (l0 : List (S41)) (a1 : Int) (a2 : Int) (a3 : Int)  (r : List (S41)) (w0 w : World) (hB : Below w0.heap.size w0 w) (ho0 : Kd.R k41 41 w w0.heap.size P0_ u9000_ l0) (h : api_Span_81.f k l0 a1 a2 a3 = some r) (hS_ : Aside0 ((wrap64 (a2 - a1)) = 1)),
  Calls Try.prog 81 #[u9000_, .int .i64 a1, .int .i64 a2, .int .i64 a3, .func (.func 62) #[] #[]] w fun e w' => e = .returned (.tuple #[]) ∧ Kd.R k41 41 w' w0.heap.size (fun k_ => (P0_ k_ ∨ w.heap.size ≤ k_)) u9000_ r ∧ Below w0.heap.size w0 w' ∧ Kept w w' (fun k_ => P0_ k_) := by
 intro P0_ u9000_ l0 a1 a2 a3 r w0 w hB ho0 h hS_
 cases k with
 | zero => exact absurd h (by simp [api_Span_81.f])
 | succ k =>
 simp only [api_Span_81.f] at h
 have hu41 := Try.underlying41
 have HO0 := Aside0.mk (show Kd.R k41 41 w w0.heap.size (fun k_ => (P0_ k_ ∨ w.heap.size ≤ k_)) u9000_ l0 from Kd.R_mono ho0 (fun k_ hk => (.inl hk)))
 have HK := Aside0.mk (Kept.refl w (fun k_ => P0_ k_))
 have HW0 := Aside0.mk hB.size
 have HB := Aside0.mk hB; clear hB
 have H : (if (wrap64 (a2 - a1)) = 1 then (api_Span_81.l0 k l0 a1 a2 a3) else (if (wrap64 (a3 - a2)) = 1 then (api_Span_81.l2 k l0 a2 a1 a2) else (if a2 > (wrap64 ((IntKind.u64.wrap (wrap64 (a1 + a3))) / 2)) then (api_Span_81.j4 k l0 a1 a2 a3 (wrap64 ((IntKind.u64.wrap (wrap64 (a1 + a3))) / 2)) (wrap64 ((wrap64 ((IntKind.u64.wrap (wrap64 (a1 + a3))) / 2)) + a2)) (wrap64 ((wrap64 ((wrap64 ((IntKind.u64.wrap (wrap64 (a1 + a3))) / 2)) + a2)) - a3)) (wrap64 ((IntKind.u64.wrap (wrap64 (a1 + a3))) / 2))) else (api_Span_81.j4 k l0 a1 a2 a3 (wrap64 ((IntKind.u64.wrap (wrap64 (a1 + a3))) / 2)) (wrap64 ((wrap64 ((IntKind.u64.wrap (wrap64 (a1 + a3))) / 2)) + a2)) a1 a2)))) = some r := h
 clear h
 by_cases c6 : (wrap64 (a2 - a1)) = 1
 ·rw [if_pos c6] at H
  have c6b0 : ((wrap64 (a2 - a1)) == 1) = true := beq_iff_eq.mpr c6
  have c6b1 : ((wrap64 (a2 - a1)) != 1) = false := bne_eq_false_iff_eq.mpr c6
  clear c6; have H' := Aside0.mk H; clear H
  go_enter Try.func81, Try.ntmps81
  go_wp2
  go_loopg [10, 11] k (fun kq v10 v11 w' => ∃ (x10_1 : Int) (x11_1 : Int), v10 = .int .i64 x10_1 ∧ v11 = .int .i64 x11_1 ∧ Aside0 (api_Span_81.l0 kq l0 a1 x10_1 x11_1 = some r) ∧ Aside0 (kq ≤ k) ∧ Aside0 (Kd.R k41 41 w' w0.heap.size (fun k_ => (P0_ k_ ∨ w.heap.size ≤ k_)) u9000_ l0) ∧ Aside0 (Kept w w' (fun k_ => P0_ k_)) ∧ Aside0 (Below w0.heap.size w0 w'))
  case atStart => exact ⟨(a2), (a3), (by first | rfl | (simp; done) | (simp [*]; done)), (by first | rfl | (simp; done) | (simp [*]; done)), H', ⟨Nat.le_refl _⟩, ⟨by exact HO0.out⟩, ⟨by repeat (first | (with_reducible first | exact HK.out | apply Kept.alloc | apply Kept.drewN | apply Kept.drew) | exact HK.out)⟩, ⟨bl_⟩⟩
  case round =>
   clear H'; obtain ⟨x10_1, x11_1, rfl, rfl, HA, HK1, HO_0, HK, HB⟩ := hrel
   cases gk with
   | zero => exact absurd HA.out (by simp [api_Span_81.l0])
   | succ k1 =>
    have H := HA.out
    clear HA
    simp only [api_Span_81.l0] at H
    by_cases c7 : x10_1 < x11_1
    ·rw [if_pos c7] at H
     have c7b0 : decide (x10_1 < x11_1) = true := decide_eq_true c7
     clear c7
     obtain ⟨ji8, hji8⟩ : ∃ j_ : Int, (wrap64 ((IntKind.u64.wrap (wrap64 (x10_1 + x11_1))) / 2)) = j_ := ⟨_, rfl⟩
     replace H : (if 0 ≤ (ji8) then (if (ji8) < (l0.length : Int) then (if 0 ≤ a1 then (if a1 < (l0.length : Int) then ((span_Join_2.f ((rd_T41 l0 (ji8)).f0) ((rd_T41 l0 (ji8)).f1) ((rd_T41 l0 a1).f0) ((rd_T41 l0 a1).f1)).bind fun t129 => (if t129 < 0 then (api_Span_81.l0 k1 l0 a1 (wrap64 ((ji8) + 1)) x11_1) else (api_Span_81.l0 k1 l0 a1 x10_1 ji8))) else (none)) else (none)) else (none)) else (none)) = some r := by first | (rw [hji8] at H; exact H) | (simp only [hji8] at H ⊢; exact H)
     have hji8w : (IntKind.i64.wrap ((IntKind.u64.wrap (wrap64 (x10_1 + x11_1))) / 2)) = ji8 := (i64_w _).trans hji8
     by_cases c9 : 0 ≤ (ji8)
     ·rw [if_pos c9] at H
      have c9b0 : decide (0 ≤ (ji8)) = true := decide_eq_true c9
      clear c9
      by_cases c10 : (ji8) < (l0.length : Int)
      ·rw [if_pos c10] at H
       have c10b0 : decide ((ji8) < (l0.length : Int)) = true := decide_eq_true c10
       clear c10
       by_cases c11 : 0 ≤ a1
       ·rw [if_pos c11] at H
        have c11b0 : decide (0 ≤ a1) = true := decide_eq_true c11
        clear c11
        by_cases c12 : a1 < (l0.length : Int)
        ·rw [if_pos c12] at H
         have c12b0 : decide (a1 < (l0.length : Int)) = true := decide_eq_true c12
         clear c12; replace H := Option.bind_eq_some_iff.mp H; obtain ⟨t129, A130, H⟩ := H
         replace H : (if t129 < 0 then (api_Span_81.l0 k1 l0 a1 (wrap64 ((ji8) + 1)) x11_1) else (api_Span_81.l0 k1 l0 a1 x10_1 ji8)) = some r := H
         have A13 := Aside0.mk A130; clear A130
         by_cases c14 : t129 < 0
         ·rw [if_pos c14] at H
          have c14b0 : decide (t129 < 0) = true := decide_eq_true c14
          clear c14; have H' := Aside0.mk H; clear H
          try go_wp2
          have n0_ := Aside0.mk (Kd.R_drew HO_0.out)
          have n1_ := Aside0.mk (Kept.drew HK.out)
          have n2_ := Aside0.mk (below_drew1 HB.out)
          clear HO_0; clear HK; clear HB; have HO_0 := n0_; have HK := n1_; have HB := n2_; clear n0_ n1_ n2_; obtain ⟨Ao16, co16, eo16⟩ := Kd.R_slice HO_0.out
          (first | subst eo16 | (injection eo16 with f1_ f2_ f3_; have f4_ := f1_.symm; have f5_ := f3_.symm; clear f1_ f2_ f3_; subst f4_; subst f5_))
          have p127 : 0 ≤ ((ji8) : Int) := od_
          have q127 : (ji8) < (l0.length : Int) := od_
          obtain ⟨ad127, e127, hx127_0, hx127_1⟩ := at_T41 (Kd.R_reads' HO_0.out).2.2 (ji8) p127 q127
          cases e127; replace p127 := eq_true p127; replace q127 := eq_true q127
          have p128 : 0 ≤ (a1 : Int) := od_
          have q128 : a1 < (l0.length : Int) := od_
          obtain ⟨ad128, e128, hx128_0, hx128_1⟩ := at_T41 (Kd.R_reads' HO_0.out).2.2 a1 p128 q128
          obtain rfl : ad127 = ad128 := (by injection e128)
          replace p128 := eq_true p128; replace q128 := eq_true q128
          refine start_ (n := 11) (S := fun w' => w'.cell? (ad127.add (((ji8)).toNat * 2)) = some (.string ((rd_T41 l0 (ji8)).f0)) ∧ w'.cell? ⟨(ad127.add (((ji8)).toNat * 2)).block, (ad127.add (((ji8)).toNat * 2)).off + 1, none⟩ = some (.string ((rd_T41 l0 (ji8)).f1)) ∧ w'.cell? (ad127.add ((a1).toNat * 2)) = some (.string ((rd_T41 l0 a1).f0)) ∧ w'.cell? ⟨(ad127.add ((a1).toNat * 2)).block, (ad127.add ((a1).toNat * 2)).off + 1, none⟩ = some (.string ((rd_T41 l0 a1).f1))) (ds := []) (fst_ 11 0) (by kernel_rfl) rfl rfl ⟨hx127_0, hx127_1, hx128_0, hx128_1⟩ (fun hHeld => ?_); refine with_tabW api_Span_81.tab5 api_Span_81.bits5 (fun HT_ HW_ => ?_)
          generalize wr.drew = w15 at HO_0 HK HB hx127_0 hx127_1 hx128_0 hx128_1 hHeld ⊢
          iterate 4 (refine pk_ (v := ?_) (a' := ?_) HT_.out rfl rfl (by kernel_rfl) (fun _ _ _ h => h) (Or.inl ⟨by rfl, ?_⟩) ?_ ?_; rotate_left; (· intro w'; go_simp; with_reducible rfl); rotate_left; (· simp only [Act.put, List.setIfInBounds_toArray, List.set_cons_zero, List.set_cons_succ, i64_w, i32_w]; rfl))
          refine pure_ (i := 5) (N := some 45) (v := ?_) (a' := ?_) #[true, true, true, true, false, true, false, false, false, false, false] rfl rfl (any_of HT_.out (by kernel_rfl)) (fun _ _ _ h => h) (Or.inl ⟨by rfl, ?_⟩) ?_ ?_
          rotate_left
          ·intro w'
           go_simp
           with_reducible rfl
          rotate_left
          ·simp only [Act.put, List.setIfInBounds_toArray, List.set_cons_zero, List.set_cons_succ, i64_w, i32_w]
           rfl
          refine pure_ (i := 6) (N := some 46) (v := ?_) (a' := ?_) #[true, true, true, true, false, true, true, false, false, false, false] rfl rfl (any_of HT_.out (by kernel_rfl)) (fun _ _ _ h => h) (Or.inl ⟨by rfl, ?_⟩) ?_ ?_
          rotate_left
          ·intro w'
           go_simp
           with_reducible rfl
          rotate_left
          ·simp only [Act.put, List.setIfInBounds_toArray, List.set_cons_zero, List.set_cons_succ, i64_w, i32_w]
           rfl
          refine pure_ (i := 7) (N := some 47) (v := ?_) (a' := ?_) #[true, true, true, true, false, true, true, true, false, false, false] rfl rfl (any_of HT_.out (by kernel_rfl)) (fun _ _ _ h => h) (Or.inl ⟨by rfl, ?_⟩) ?_ ?_
          rotate_left
          ·intro w'
           go_simp
           with_reducible rfl
          rotate_left
          ·simp only [Act.put, List.setIfInBounds_toArray, List.set_cons_zero, List.set_cons_succ, i64_w, i32_w]
           rfl
          refine take_ (i := 4) (N := some 44) (v := ?_) (a' := ?_) (fst_ 11 8) rfl rfl (take_ofW HT_.out HW_.out (by kernel_rfl)) (fun _ _ _ h => h) (Or.inl ⟨by rfl, ?_⟩) hHeld ?_ ?_
          rotate_left
          ·rintro w' ⟨s0, s1, s2, s3⟩
           go_simp
           with_reducible rfl
          rotate_left
          ·simp only [Act.put, List.setIfInBounds_toArray, List.set_cons_zero, List.set_cons_succ, i64_w, i32_w]
           rfl
          refine tk_ (v := ?_) (a' := ?_) HT_.out HW_.out rfl rfl (by kernel_rfl) (fun _ _ _ h => h) (Or.inl ⟨by rfl, ?_⟩) hHeld ?_ ?_
          rotate_left
          ·rintro w' ⟨s0, s1, s2, s3⟩
           go_simp
           with_reducible rfl
          rotate_left
          ·simp only [Act.put, List.setIfInBounds_toArray, List.set_cons_zero, List.set_cons_succ, i64_w, i32_w]
           rfl
          refine one_ (i := 9) (N := some 49) (fst_ 11 10) rfl rfl (one_of HT_.out (by kernel_rfl)) (by decide) (fun K hK => ?_)
          refine goesc_ Try.func62 (by kernel_rfl) rfl #[.agg #[.string ((rd_T41 l0 (ji8)).f0), .string ((rd_T41 l0 (ji8)).f1)], .agg #[.string ((rd_T41 l0 a1).f0), .string ((rd_T41 l0 a1).f1)]] (by rfl) rfl rfl rfl (by (try simp only [List.map_toArray, List.map_cons, List.map_nil]); first | done | (simp only [hji8]; rfl) | rfl | (simp only [List.length_drop, List.length_take]; rfl)) ?_
          with_reducible refine (span_Join_2.calls ((rd_T41 l0 (ji8)).f0) ((rd_T41 l0 (ji8)).f1) ((rd_T41 l0 a1).f0) ((rd_T41 l0 a1).f1) t129 _ A13.out).mono ?_
          rintro e w17 ⟨rfl, hb⟩
          have HS0_ := (hb.cell (World.block_lt_of_cell? _ _ (hHeld.1))).trans (hHeld.1)
          have HS1_ := (hb.cell (World.block_lt_of_cell? _ _ (hHeld.2.1))).trans (hHeld.2.1)
          have HS2_ := (hb.cell (World.block_lt_of_cell? _ _ (hHeld.2.2.1))).trans (hHeld.2.2.1)
          have HS3_ := (hb.cell (World.block_lt_of_cell? _ _ (hHeld.2.2.2))).trans (hHeld.2.2.2)
          refine ⟨_, rfl, ?_⟩
          have n0_ := Aside0.mk (Kd.R_below (by exact HO_0.out) hb)
          have n1_ := Aside0.mk (Kept.below (S := (fun k_ => P0_ k_)) (by repeat (first | (with_reducible first | exact HK.out | apply Kept.alloc | apply Kept.drewN | apply Kept.drew) | exact HK.out)) hb)
          have n2_ := Aside0.mk (below_step bl_ hb)
          clear HO_0; clear HK; clear HB; have HO_0 := n0_; have HK := n1_; have HB := n2_; clear n0_ n1_ n2_
          (try clear hb)
          (try clear hb2)
          (try clear hk)
          (try clear hi)
          refine hK.out _ _ ⟨HS0_, HS1_, HS2_, HS3_⟩ (fun hHeld => ?_)
          clear hK K; refine norm_ (a' := ?_) ?_ ?_; rotate_left
          ·show Act.put _ (some 49) _ = _
           simp only [Act.put, List.setIfInBounds_toArray, List.set_cons_zero, List.set_cons_succ, i64_w, i32_w]
           rfl
          (refine pk_ (v := ?_) (a' := ?_) HT_.out rfl rfl (by kernel_rfl) (fun _ _ _ h => h) (Or.inl ⟨by rfl, ?_⟩) ?_ ?_; rotate_left; (· intro w'; go_simp; with_reducible rfl); rotate_left; (· simp only [Act.put, List.setIfInBounds_toArray, List.set_cons_zero, List.set_cons_succ, i64_w, i32_w]; rfl))
          refine done_ (done_of HT_.out (by kernel_rfl)) ?_
          try go_wp2
          go_roundg k1
          case measure => have := HK1.out; omega
          case rel => exact ⟨(wrap64 ((ji8) + 1)), (x11_1), (by first | rfl | (simp; done) | (simp only [← hji8] <;> (first | rfl | simp)) | (simp [*]; done)), (by first | rfl | (simp; done) | (simp [*]; done)), H', ⟨by have := HK1.out; omega⟩, ⟨by exact HO_0.out⟩, ⟨by repeat (first | (with_reducible first | exact HK.out | apply Kept.alloc | apply Kept.drewN | apply Kept.drew) | exact HK.out)⟩, ⟨bl_⟩⟩
         ·rw [if_neg c14] at H
          have c14b0 : decide (t129 < 0) = false := decide_eq_false c14
          clear c14; have H' := Aside0.mk H; clear H
          try go_wp2
          have n0_ := Aside0.mk (Kd.R_drew HO_0.out)
          have n1_ := Aside0.mk (Kept.drew HK.out)
          have n2_ := Aside0.mk (below_drew1 HB.out)
          clear HO_0; clear HK; clear HB; have HO_0 := n0_; have HK := n1_; have HB := n2_; clear n0_ n1_ n2_; obtain ⟨Ao19, co19, eo19⟩ := Kd.R_slice HO_0.out
          (first | subst eo19 | (injection eo19 with f1_ f2_ f3_; have f4_ := f1_.symm; have f5_ := f3_.symm; clear f1_ f2_ f3_; subst f4_; subst f5_))
          have p127 : 0 ≤ ((ji8) : Int) := od_
          have q127 : (ji8) < (l0.length : Int) := od_
          obtain ⟨ad127, e127, hx127_0, hx127_1⟩ := at_T41 (Kd.R_reads' HO_0.out).2.2 (ji8) p127 q127
          cases e127; replace p127 := eq_true p127; replace q127 := eq_true q127
          have p128 : 0 ≤ (a1 : Int) := od_
          have q128 : a1 < (l0.length : Int) := od_
          obtain ⟨ad128, e128, hx128_0, hx128_1⟩ := at_T41 (Kd.R_reads' HO_0.out).2.2 a1 p128 q128
          obtain rfl : ad127 = ad128 := (by injection e128)
          replace p128 := eq_true p128; replace q128 := eq_true q128
          refine start_ (n := 11) (S := fun w' => w'.cell? (ad127.add (((ji8)).toNat * 2)) = some (.string ((rd_T41 l0 (ji8)).f0)) ∧ w'.cell? ⟨(ad127.add (((ji8)).toNat * 2)).block, (ad127.add (((ji8)).toNat * 2)).off + 1, none⟩ = some (.string ((rd_T41 l0 (ji8)).f1)) ∧ w'.cell? (ad127.add ((a1).toNat * 2)) = some (.string ((rd_T41 l0 a1).f0)) ∧ w'.cell? ⟨(ad127.add ((a1).toNat * 2)).block, (ad127.add ((a1).toNat * 2)).off + 1, none⟩ = some (.string ((rd_T41 l0 a1).f1))) (ds := []) (fst_ 11 0) (by kernel_rfl) rfl rfl ⟨hx127_0, hx127_1, hx128_0, hx128_1⟩ (fun hHeld => ?_); refine with_tabW api_Span_81.tab5 api_Span_81.bits5 (fun HT_ HW_ => ?_)
          generalize wr.drew = w18 at HO_0 HK HB hx127_0 hx127_1 hx128_0 hx128_1 hHeld ⊢
          iterate 4 (refine pk_ (v := ?_) (a' := ?_) HT_.out rfl rfl (by kernel_rfl) (fun _ _ _ h => h) (Or.inl ⟨by rfl, ?_⟩) ?_ ?_; rotate_left; (· intro w'; go_simp; with_reducible rfl); rotate_left; (· simp only [Act.put, List.setIfInBounds_toArray, List.set_cons_zero, List.set_cons_succ, i64_w, i32_w]; rfl))
          refine pure_ (i := 5) (N := some 45) (v := ?_) (a' := ?_) #[true, true, true, true, false, true, false, false, false, false, false] rfl rfl (any_of HT_.out (by kernel_rfl)) (fun _ _ _ h => h) (Or.inl ⟨by rfl, ?_⟩) ?_ ?_
          rotate_left
          ·intro w'
           go_simp
           with_reducible rfl
          rotate_left
          ·simp only [Act.put, List.setIfInBounds_toArray, List.set_cons_zero, List.set_cons_succ, i64_w, i32_w]
           rfl
          refine pure_ (i := 6) (N := some 46) (v := ?_) (a' := ?_) #[true, true, true, true, false, true, true, false, false, false, false] rfl rfl (any_of HT_.out (by kernel_rfl)) (fun _ _ _ h => h) (Or.inl ⟨by rfl, ?_⟩) ?_ ?_
          rotate_left
          ·intro w'
           go_simp
           with_reducible rfl
          rotate_left
          ·simp only [Act.put, List.setIfInBounds_toArray, List.set_cons_zero, List.set_cons_succ, i64_w, i32_w]
           rfl
          refine pure_ (i := 7) (N := some 47) (v := ?_) (a' := ?_) #[true, true, true, true, false, true, true, true, false, false, false] rfl rfl (any_of HT_.out (by kernel_rfl)) (fun _ _ _ h => h) (Or.inl ⟨by rfl, ?_⟩) ?_ ?_
          rotate_left
          ·intro w'
           go_simp
           with_reducible rfl
          rotate_left
          ·simp only [Act.put, List.setIfInBounds_toArray, List.set_cons_zero, List.set_cons_succ, i64_w, i32_w]
           rfl
          refine take_ (i := 4) (N := some 44) (v := ?_) (a' := ?_) (fst_ 11 8) rfl rfl (take_ofW HT_.out HW_.out (by kernel_rfl)) (fun _ _ _ h => h) (Or.inl ⟨by rfl, ?_⟩) hHeld ?_ ?_
          rotate_left
          ·rintro w' ⟨s0, s1, s2, s3⟩
           go_simp
           with_reducible rfl
          rotate_left
          ·simp only [Act.put, List.setIfInBounds_toArray, List.set_cons_zero, List.set_cons_succ, i64_w, i32_w]
           rfl
          refine tk_ (v := ?_) (a' := ?_) HT_.out HW_.out rfl rfl (by kernel_rfl) (fun _ _ _ h => h) (Or.inl ⟨by rfl, ?_⟩) hHeld ?_ ?_
          rotate_left
          ·rintro w' ⟨s0, s1, s2, s3⟩
           go_simp
           with_reducible rfl
          rotate_left
          ·simp only [Act.put, List.setIfInBounds_toArray, List.set_cons_zero, List.set_cons_succ, i64_w, i32_w]
           rfl
          refine one_ (i := 9) (N := some 49) (fst_ 11 10) rfl rfl (one_of HT_.out (by kernel_rfl)) (by decide) (fun K hK => ?_)
          refine goesc_ Try.func62 (by kernel_rfl) rfl #[.agg #[.string ((rd_T41 l0 (ji8)).f0), .string ((rd_T41 l0 (ji8)).f1)], .agg #[.string ((rd_T41 l0 a1).f0), .string ((rd_T41 l0 a1).f1)]] (by rfl) rfl rfl rfl (by (try simp only [List.map_toArray, List.map_cons, List.map_nil]); first | done | (simp only [hji8]; rfl) | rfl | (simp only [List.length_drop, List.length_take]; rfl)) ?_
          with_reducible refine (span_Join_2.calls ((rd_T41 l0 (ji8)).f0) ((rd_T41 l0 (ji8)).f1) ((rd_T41 l0 a1).f0) ((rd_T41 l0 a1).f1) t129 _ A13.out).mono ?_
          rintro e w20 ⟨rfl, hb⟩
          have HS0_ := (hb.cell (World.block_lt_of_cell? _ _ (hHeld.1))).trans (hHeld.1)
          have HS1_ := (hb.cell (World.block_lt_of_cell? _ _ (hHeld.2.1))).trans (hHeld.2.1)
          have HS2_ := (hb.cell (World.block_lt_of_cell? _ _ (hHeld.2.2.1))).trans (hHeld.2.2.1)
          have HS3_ := (hb.cell (World.block_lt_of_cell? _ _ (hHeld.2.2.2))).trans (hHeld.2.2.2)
          refine ⟨_, rfl, ?_⟩
          have n0_ := Aside0.mk (Kd.R_below (by exact HO_0.out) hb)
          have n1_ := Aside0.mk (Kept.below (S := (fun k_ => P0_ k_)) (by repeat (first | (with_reducible first | exact HK.out | apply Kept.alloc | apply Kept.drewN | apply Kept.drew) | exact HK.out)) hb)
          have n2_ := Aside0.mk (below_step bl_ hb)
          clear HO_0; clear HK; clear HB; have HO_0 := n0_; have HK := n1_; have HB := n2_; clear n0_ n1_ n2_
          (try clear hb)
          (try clear hb2)
          (try clear hk)
          (try clear hi)
          refine hK.out _ _ ⟨HS0_, HS1_, HS2_, HS3_⟩ (fun hHeld => ?_)
          clear hK K; refine norm_ (a' := ?_) ?_ ?_; rotate_left
          ·show Act.put _ (some 49) _ = _
           simp only [Act.put, List.setIfInBounds_toArray, List.set_cons_zero, List.set_cons_succ, i64_w, i32_w]
           rfl
          (refine pk_ (v := ?_) (a' := ?_) HT_.out rfl rfl (by kernel_rfl) (fun _ _ _ h => h) (Or.inl ⟨by rfl, ?_⟩) ?_ ?_; rotate_left; (· intro w'; go_simp; with_reducible rfl); rotate_left; (· simp only [Act.put, List.setIfInBounds_toArray, List.set_cons_zero, List.set_cons_succ, i64_w, i32_w]; rfl))
          refine done_ (done_of HT_.out (by kernel_rfl)) ?_
          try go_wp2
          go_roundg k1
          case measure => have := HK1.out; omega
          case rel => exact ⟨(x10_1), (ji8), (by first | rfl | (simp; done) | (simp [*]; done)), (by first | rfl | (simp; done) | (simp only [← hji8] <;> (first | rfl | simp)) | (simp [*]; done)), H', ⟨by have := HK1.out; omega⟩, ⟨by exact HO_0.out⟩, ⟨by repeat (first | (with_reducible first | exact HK.out | apply Kept.alloc | apply Kept.drewN | apply Kept.drew) | exact HK.out)⟩, ⟨bl_⟩⟩
        ·rw [if_neg c12] at H
         exact absurd H (by simp)
       ·rw [if_neg c11] at H
        exact absurd H (by simp)
      ·rw [if_neg c10] at H
       exact absurd H (by simp)
     ·rw [if_neg c9] at H
      exact absurd H (by simp)
    ·rw [if_neg c7] at H
     have c7b0 : decide (x10_1 < x11_1) = false := decide_eq_false c7
     clear c7; have H' := Aside0.mk H; clear H
     go_wp2
     go_loopg [13] k1 (fun kq v13 w' => ∃ (x0_2 : List (S41)) (x13_2 : Int), v13 = .int .i64 x13_2 ∧ Aside0 (api_Span_81.l1 kq x0_2 x10_1 x13_2 = some r) ∧ Aside0 (kq ≤ k1) ∧ Aside0 (Kd.R k41 41 w' w0.heap.size (fun k_ => (P0_ k_ ∨ w.heap.size ≤ k_)) u9000_ x0_2) ∧ Aside0 (Kept w w' (fun k_ => P0_ k_)) ∧ Aside0 (Below w0.heap.size w0 w'))
     case atStart => exact ⟨(l0), (a1), (by first | rfl | (simp; done) | (simp [*]; done)), H', ⟨Nat.le_refl _⟩, ⟨by exact HO_0.out⟩, ⟨by repeat (first | (with_reducible first | exact HK.out | apply Kept.alloc | apply Kept.drewN | apply Kept.drew) | exact HK.out)⟩, ⟨bl_⟩⟩
     case round =>
      clear H'; obtain ⟨x0_2, x13_2, rfl, HA, HK2, HO_0, HK, HB⟩ := hrel
      cases gk with
      | zero => exact absurd HA.out (by simp [api_Span_81.l1])
      | succ k2 =>
       have H := HA.out
       clear HA
       simp only [api_Span_81.l1] at H
       by_cases c21 : x13_2 < (wrap64 (x10_1 - 1))
       ·rw [if_pos c21] at H
        have c21b0 : decide (x13_2 < (wrap64 (x10_1 - 1))) = true := decide_eq_true c21
        clear c21
        obtain ⟨ji22, hji22⟩ : ∃ j_ : Int, (wrap64 (x13_2 + 1)) = j_ := ⟨_, rfl⟩
        replace H : (if 0 ≤ (ji22) then (if (ji22) < (x0_2.length : Int) then (if 0 ≤ x13_2 then (if x13_2 < (x0_2.length : Int) then (api_Span_81.l1 k2 ((x0_2.set (x13_2 : Int).toNat (⟨(rd_T41 x0_2 (ji22)).f0, (rd_T41 x0_2 (ji22)).f1⟩ : S41)).set ((ji22) : Int).toNat (⟨(rd_T41 x0_2 x13_2).f0, (rd_T41 x0_2 x13_2).f1⟩ : S41)) x10_1 ji22) else (none)) else (none)) else (none)) else (none)) = some r := by first | (rw [hji22] at H; exact H) | (simp only [hji22] at H ⊢; exact H)
        have hji22w : (IntKind.i64.wrap (x13_2 + 1)) = ji22 := (i64_w _).trans hji22
        by_cases c23 : 0 ≤ (ji22)
        ·rw [if_pos c23] at H
         have c23b0 : decide (0 ≤ (ji22)) = true := decide_eq_true c23
         clear c23
         by_cases c24 : (ji22) < (x0_2.length : Int)
         ·rw [if_pos c24] at H
          have c24b0 : decide ((ji22) < (x0_2.length : Int)) = true := decide_eq_true c24
          clear c24
          by_cases c25 : 0 ≤ x13_2
          ·rw [if_pos c25] at H
           have c25b0 : decide (0 ≤ x13_2) = true := decide_eq_true c25
           clear c25
           by_cases c26 : x13_2 < (x0_2.length : Int)
           ·rw [if_pos c26] at H
            have c26b0 : decide (x13_2 < (x0_2.length : Int)) = true := decide_eq_true c26
            clear c26
            obtain ⟨y132, hy132⟩ : ∃ y_ : List (S41), y_ = (x0_2.set (x13_2 : Int).toNat (⟨(rd_T41 x0_2 (ji22)).f0, (rd_T41 x0_2 (ji22)).f1⟩ : S41)) := ⟨_, rfl⟩
            replace H : (api_Span_81.l1 k2 (y132.set ((ji22) : Int).toNat (⟨(rd_T41 x0_2 x13_2).f0, (rd_T41 x0_2 x13_2).f1⟩ : S41)) x10_1 ji22) = some r := by first | (rw [hy132]; with_reducible exact H) | (have H2_ := (Option.bind_some _ _).symm.trans H; rw [hy132]; with_reducible exact H2_) | (have H2_ := (Option.bind_some _ _).symm.trans H; with_reducible exact H2_) | with_reducible exact H | (rw [hy132]; exact H) | exact H
            have Ny132 := Aside0.mk hy132; clear hy132
            obtain ⟨y133, hy133⟩ : ∃ y_ : List (S41), y_ = (y132.set ((ji22) : Int).toNat (⟨(rd_T41 x0_2 x13_2).f0, (rd_T41 x0_2 x13_2).f1⟩ : S41)) := ⟨_, rfl⟩
            replace H : (api_Span_81.l1 k2 y133 x10_1 ji22) = some r := by first | (rw [hy133]; with_reducible exact H) | (have H2_ := (Option.bind_some _ _).symm.trans H; rw [hy133]; with_reducible exact H2_) | (have H2_ := (Option.bind_some _ _).symm.trans H; with_reducible exact H2_) | with_reducible exact H | (rw [hy133]; exact H) | exact H
            have Ny133 := Aside0.mk hy133; clear hy133; have H' := Aside0.mk H; clear H
            try go_wp2
            have n0_ := Aside0.mk (Kd.R_drew HO_0.out)
            have n1_ := Aside0.mk (Kept.drew HK.out)
            have n2_ := Aside0.mk (below_drew1 HB.out)
            clear HO_0; clear HK; clear HB; have HO_0 := n0_; have HK := n1_; have HB := n2_; clear n0_ n1_ n2_; obtain ⟨Ao30, co30, eo30⟩ := Kd.R_slice HO_0.out
            (first | subst eo30 | (injection eo30 with f1_ f2_ f3_; have f4_ := f1_.symm; have f5_ := f3_.symm; clear f1_ f2_ f3_; subst f4_; subst f5_))
            have p130 : 0 ≤ ((ji22) : Int) := od_
            have q130 : (ji22) < (x0_2.length : Int) := od_
            obtain ⟨ad130, e130, hx130_0, hx130_1⟩ := at_T41 (Kd.R_reads' HO_0.out).2.2 (ji22) p130 q130
            cases e130; replace p130 := eq_true p130; replace q130 := eq_true q130
            have p131 : 0 ≤ (x13_2 : Int) := od_
            have q131 : x13_2 < (x0_2.length : Int) := od_
            obtain ⟨ad131, e131, hx131_0, hx131_1⟩ := at_T41 (Kd.R_reads' HO_0.out).2.2 x13_2 p131 q131
            obtain rfl : ad130 = ad131 := (by injection e131)
            replace p131 := eq_true p131; replace q131 := eq_true q131
            have p27 : 0 ≤ (x13_2 : Int) := od_
            have q27 : (x13_2 : Int) < ((x0_2.length : Int) : Int) := od_
            obtain ⟨go27, co27, eo27, gb27, gl27, cl27, HG27⟩ := Kd.R_form HO_0.out (by omega)
            (first | cases eo27 | (injection eo27 with ea_ en_ ec_; (first | subst ea_ | (injection ea_ with ea_; subst ea_)); subst ec_; clear en_))
            have GB27 := Aside0.mk gb27; have GG27 := Aside0.mk HG27; clear gb27 gl27 HG27
            have HMgo27 := Aside0.mk (show (P0_ go27 ∨ w.heap.size ≤ go27) from (HO_0.out.1 _ rfl))
            (first | simp only [add_plain] at hx130_0 | skip)
            (first | simp only [add_plain] at hx130_1 | skip)
            (first | simp only [add_plain] at hx131_0 | skip)
            (first | simp only [add_plain] at hx131_1 | skip)
            obtain ⟨ce27, hcl27, hM27, hcc27, hfr27⟩ := Kd.R_elem HO_0.out z41 (x13_2 : Int) p27 q27
            obtain rfl := k41_openM hM27
            have hx27_0 : World.cell? _ ⟨go27, (x13_2 : Int).toNat * 2, none⟩ = some (.string ((rd_T41 x0_2 x13_2).f0)) := hcc27 0 _ rfl
            have hx27_1 : World.cell? _ ⟨go27, (x13_2 : Int).toNat * 2 + 1, none⟩ = some (.string ((rd_T41 x0_2 x13_2).f1)) := hcc27 1 _ rfl
            have hz27_0 := hx27_0
            have hz27_1 := hx27_1
            (try simp only [World.setCells, Nat.add_zero, show k41.sz = 2 from rfl] at hz27_0 hz27_1)
            (try rw [cell_set_off (by omega)] at hz27_0)
            have hf27_0 : World.frozen? _ ⟨go27, (x13_2 : Int).toNat * 2, none⟩ = false := hfr27 0
            have hf27_1 : World.frozen? _ ⟨go27, (x13_2 : Int).toNat * 2 + 1, none⟩ = false := hfr27 1
            have hq27_0 := hf27_0
            have hq27_1 := hf27_1
            (try simp only [World.setCells, World.frozen?_setCell, Nat.add_zero, show k41.sz = 2 from rfl] at hq27_0 hq27_1)
            clear hcl27 hcc27 hfr27 hM27; replace p27 := eq_true p27; replace q27 := eq_true q27
            obtain ⟨ce31, hcl31, hM31, hcc31, hfr31⟩ := Kd.R_elem HO_0.out z41 (x13_2 : Int) (od_) (by have h_ : (x13_2 : Int) < ((x0_2.length : Int) : Int) := od_; first | exact h_ | (have e_ := (Kd.R_reads' HO_0.out).1; omega) | simpa using h_)
            obtain rfl := k41_openM hM31
            have HP31 := (Kd.R_seg HO_0.out (x13_2 : Int) (od_) (by have h_ : (x13_2 : Int) < ((x0_2.length : Int) : Int) := od_; first | exact h_ | (have e_ := (Kd.R_reads' HO_0.out).1; omega) | simpa using h_) (seg := [.string ((rd_T41 x0_2 (ji22)).f0), .string ((rd_T41 x0_2 (ji22)).f1)]) (j := 0) hcl31 hcc31 (show 2 ≤ 2 from by decide) (x' := (⟨(rd_T41 x0_2 (ji22)).f0, (rd_T41 x0_2 (ji22)).f1⟩ : S41)) (k41_mkM _ _ _ (⟨(rd_T41 x0_2 (ji22)).f0, (rd_T41 x0_2 (ji22)).f1⟩ : S41) ) (fun _ hk => hk)).1
            rw [← Ny132.out] at HP31
            have HQ31 := Aside0.mk HP31; clear hcl31 hcc31 hfr31 hM31 HP31
            have p28 : 0 ≤ ((ji22) : Int) := od_
            have q28 : ((ji22) : Int) < ((x0_2.length : Int) : Int) := od_
            obtain ⟨ce28, hcl28, hM28, hcc28, hfr28⟩ := Kd.R_elem HQ31.out z41 ((ji22) : Int) p28 q28
            obtain rfl := k41_openM hM28
            have hx28_0 : World.cell? _ ⟨go27, ((ji22) : Int).toNat * 2, none⟩ = some (.string ((rd_T41 y132 (ji22)).f0)) := hcc28 0 _ rfl
            have hx28_1 : World.cell? _ ⟨go27, ((ji22) : Int).toNat * 2 + 1, none⟩ = some (.string ((rd_T41 y132 (ji22)).f1)) := hcc28 1 _ rfl
            have hz28_0 := hx28_0
            have hz28_1 := hx28_1
            (try simp only [World.setCells, Nat.add_zero, show k41.sz = 2 from rfl] at hz28_0 hz28_1)
            (try rw [cell_set_off (by omega)] at hz28_0)
            have hf28_0 : World.frozen? _ ⟨go27, ((ji22) : Int).toNat * 2, none⟩ = false := hfr28 0
            have hf28_1 : World.frozen? _ ⟨go27, ((ji22) : Int).toNat * 2 + 1, none⟩ = false := hfr28 1
            have hq28_0 := hf28_0
            have hq28_1 := hf28_1
            (try simp only [World.setCells, World.frozen?_setCell, Nat.add_zero, show k41.sz = 2 from rfl] at hq28_0 hq28_1)
            clear hcl28 hcc28 hfr28 hM28; replace p28 := eq_true p28; replace q28 := eq_true q28
            obtain ⟨ce32, hcl32, hM32, hcc32, hfr32⟩ := Kd.R_elem HQ31.out z41 ((ji22) : Int) (od_) (by have h_ : ((ji22) : Int) < ((x0_2.length : Int) : Int) := od_; first | exact h_ | (have e_ := (Kd.R_reads' HO_0.out).1; omega) | simpa using h_)
            obtain rfl := k41_openM hM32
            have HP32 := (Kd.R_seg HQ31.out ((ji22) : Int) (od_) (by have h_ : ((ji22) : Int) < ((x0_2.length : Int) : Int) := od_; first | exact h_ | (have e_ := (Kd.R_reads' HO_0.out).1; omega) | simpa using h_) (seg := [.string ((rd_T41 x0_2 x13_2).f0), .string ((rd_T41 x0_2 x13_2).f1)]) (j := 0) hcl32 hcc32 (show 2 ≤ 2 from by decide) (x' := (⟨(rd_T41 x0_2 x13_2).f0, (rd_T41 x0_2 x13_2).f1⟩ : S41)) (k41_mkM _ _ _ (⟨(rd_T41 x0_2 x13_2).f0, (rd_T41 x0_2 x13_2).f1⟩ : S41) ) (fun _ hk => hk)).1
            rw [← Ny133.out] at HP32
            have HQ32 := Aside0.mk HP32; clear hcl32 hcc32 hfr32 hM32 HP32
            refine start_ (n := 18) (S := fun w' => w'.cell? ((⟨go27, ((ji22)).toNat * 2, none⟩ : Addr)) = some (.string ((rd_T41 x0_2 (ji22)).f0)) ∧ w'.cell? ⟨((⟨go27, ((ji22)).toNat * 2, none⟩ : Addr)).block, ((⟨go27, ((ji22)).toNat * 2, none⟩ : Addr)).off + 1, none⟩ = some (.string ((rd_T41 x0_2 (ji22)).f1)) ∧ w'.cell? ⟨go27, ((x13_2).toNat * 2), none⟩ = some (.string ((rd_T41 x0_2 x13_2).f0)) ∧ w'.cell? ⟨go27, ((x13_2).toNat * 2) + 1, none⟩ = some (.string ((rd_T41 x0_2 x13_2).f1))) (ds := [15, 17]) (fst_ 18 0) (by kernel_rfl) rfl rfl ⟨hx130_0, hx130_1, hx131_0, hx131_1⟩ (fun hHeld => ?_); refine with_tabW api_Span_81.tab11 api_Span_81.bits11 (fun HT_ HW_ => ?_)
            generalize wr.drew = w29 at HO_0 HK HB GG27 HQ31 HQ32 hf27_0 hf27_1 hf28_0 hf28_1 hx130_0 hx130_1 hx131_0 hx131_1 hx27_0 hx27_1 hx28_0 hx28_1 hz27_0 hz27_1 hq27_0 hq27_1 hz28_0 hz28_1 hq28_0 hq28_1 hHeld ⊢
            iterate 9 (refine pk_ (v := ?_) (a' := ?_) HT_.out rfl rfl (by kernel_rfl) (fun _ _ _ h => h) (Or.inl ⟨by rfl, ?_⟩) ?_ ?_; rotate_left; (· intro w'; go_simp; with_reducible rfl); rotate_left; (· simp only [Act.put, List.setIfInBounds_toArray, List.set_cons_zero, List.set_cons_succ, i64_w, i32_w]; rfl))
            refine pure_ (i := 10) (N := some 71) (v := ?_) (a' := ?_) #[true, true, true, true, true, true, true, true, true, false, true, false, false, false, false, false, false, false] rfl rfl (any_of HT_.out (by kernel_rfl)) (fun _ _ _ h => h) (Or.inl ⟨by rfl, ?_⟩) ?_ ?_
            rotate_left
            ·intro w'
             go_simp
             with_reducible rfl
            rotate_left
            ·simp only [Act.put, List.setIfInBounds_toArray, List.set_cons_zero, List.set_cons_succ, i64_w, i32_w]
             rfl
            refine pure_ (i := 11) (N := some 72) (v := ?_) (a' := ?_) #[true, true, true, true, true, true, true, true, true, false, true, true, false, false, false, false, false, false] rfl rfl (any_of HT_.out (by kernel_rfl)) (fun _ _ _ h => h) (Or.inl ⟨by rfl, ?_⟩) ?_ ?_
            rotate_left
            ·intro w'
             go_simp
             with_reducible rfl
            rotate_left
            ·simp only [Act.put, List.setIfInBounds_toArray, List.set_cons_zero, List.set_cons_succ, i64_w, i32_w]
             rfl
            refine pure_ (i := 12) (N := some 73) (v := ?_) (a' := ?_) #[true, true, true, true, true, true, true, true, true, false, true, true, true, false, false, false, false, false] rfl rfl (any_of HT_.out (by kernel_rfl)) (fun _ _ _ h => h) (Or.inl ⟨by rfl, ?_⟩) ?_ ?_
            rotate_left
            ·intro w'
             go_simp
             with_reducible rfl
            rotate_left
            ·simp only [Act.put, List.setIfInBounds_toArray, List.set_cons_zero, List.set_cons_succ, i64_w, i32_w]
             rfl
            refine take_ (i := 9) (N := some 70) (v := ?_) (a' := ?_) (fst_ 18 13) rfl rfl (take_ofW HT_.out HW_.out (by kernel_rfl)) (fun _ _ _ h => h) (Or.inl ⟨by rfl, ?_⟩) hHeld ?_ ?_
            rotate_left
            ·rintro w' ⟨s0, s1, s2, s3⟩
             go_simp
             with_reducible rfl
            rotate_left
            ·simp only [Act.put, List.setIfInBounds_toArray, List.set_cons_zero, List.set_cons_succ, i64_w, i32_w]
             rfl
            refine tk_ (v := ?_) (a' := ?_) HT_.out HW_.out rfl rfl (by kernel_rfl) (fun _ _ _ h => h) (Or.inl ⟨by rfl, ?_⟩) hHeld ?_ ?_
            rotate_left
            ·rintro w' ⟨s0, s1, s2, s3⟩
             go_simp
             with_reducible rfl
            rotate_left
            ·simp only [Act.put, List.setIfInBounds_toArray, List.set_cons_zero, List.set_cons_succ, i64_w, i32_w]
             rfl
            (refine pk_ (v := ?_) (a' := ?_) HT_.out rfl rfl (by kernel_rfl) (fun _ _ _ h => h) (Or.inl ⟨by rfl, ?_⟩) ?_ ?_; rotate_left; (· intro w'; go_simp; with_reducible rfl); rotate_left; (· simp only [Act.put, List.setIfInBounds_toArray, List.set_cons_zero, List.set_cons_succ, i64_w, i32_w]; rfl))
            refine last_ (i := 15) (N := none) (fst_ 18 16) rfl rfl (one_of HT_.out (by kernel_rfl)) (by decide) (fun K hK => ?_)
            refine skip_ (w1 := ?_) (by rfl) rfl ?_ ?_
            rotate_left
            ·go_simp
             rfl
            refine hK.out _ _ ?_
            clear hK K
            (refine pk_ (v := ?_) (a' := ?_) HT_.out rfl rfl (by kernel_rfl) (fun _ _ _ h => h) (Or.inl ⟨by rfl, ?_⟩) ?_ ?_; rotate_left; (· intro w'; go_simp; with_reducible rfl); rotate_left; (· simp only [Act.put, List.setIfInBounds_toArray, List.set_cons_zero, List.set_cons_succ, i64_w, i32_w]; rfl))
            refine last_ (i := 17) (N := none) (fst_ 18 18) rfl rfl (one_of HT_.out (by kernel_rfl)) (by decide) (fun K hK => ?_)
            refine skip_ (w1 := ?_) (by rfl) rfl ?_ ?_
            rotate_left
            ·go_simp
             rfl
            refine hK.out _ _ ?_
            clear hK K
            refine done_ (done_of HT_.out (by kernel_rfl)) ?_
            try go_wp2
            go_roundg k2
            case measure => have := HK1.out; have := HK2.out; omega
            case rel => exact ⟨(y133), (ji22), (by first | rfl | (simp; done) | (simp only [← hji22] <;> (first | rfl | simp)) | (simp [*]; done)), H', ⟨by have := HK1.out; have := HK2.out; omega⟩, ⟨by exact HQ32.out⟩, ⟨by repeat (first | (with_reducible first | exact HK.out | apply Kept.alloc | apply Kept.drewN | apply Kept.drew | refine Kept.setCell ?_ HMgo27.out _ | refine Kept.setCell ?_ HMgo27.out _ | refine Kept.setCell ?_ HMgo27.out _ | refine Kept.setCell ?_ HMgo27.out _) | exact HK.out)⟩, ⟨bl_⟩⟩
           ·rw [if_neg c26] at H
            exact absurd H (by simp)
          ·rw [if_neg c25] at H
           exact absurd H (by simp)
         ·rw [if_neg c24] at H
          exact absurd H (by simp)
        ·rw [if_neg c23] at H
         exact absurd H (by simp)
       ·rw [if_neg c21] at H
        have c21b0 : decide (x13_2 < (wrap64 (x10_1 - 1))) = false := decide_eq_false c21
        clear c21; obtain rfl := Option.some.inj H
        go_wp2
        first | go_end0 | ((try simp only [Exit.inBlock, Exit.then]); refine bodyPost_ret (results_none rfl _ _ _) rfl ?_)
        exact ⟨by first | rfl | (simp [errW_none, errW_some] <;> rfl) | (simp [*, errW_none, errW_some] <;> rfl), by exact HO_0.out, bl_, by repeat (first | (with_reducible first | exact HK.out | apply Kept.alloc | apply Kept.drewN | apply Kept.drew) | exact HK.out)⟩
 ·exact absurd hS_.out c6
set_option maxHeartbeats 8000000 in
set_option maxRecDepth 100000 in
theorem api_Span_81.callsB (k : Nat) (ih : ∀ m_ : Nat, m_ < k → ∀ (P0_ : Nat → Prop) (u9000_ : Value) (l0 : List (S41)) (a1 : Int) (a2 : Int) (a3 : Int)  (r : List (S41)) (w0 w : World) (hB : Below w0.heap.size w0 w) (ho0 : Kd.R k41 41 w w0.heap.size P0_ u9000_ l0) (h : api_Span_81.f m_ l0 a1 a2 a3 = some r),
  Calls Try.prog 81 #[u9000_, .int .i64 a1, .int .i64 a2, .int .i64 a3, .func (.func 62) #[] #[]] w fun e w' => e = .returned (.tuple #[]) ∧ Kd.R k41 41 w' w0.heap.size (fun k_ => (P0_ k_ ∨ w.heap.size ≤ k_)) u9000_ r ∧ Below w0.heap.size w0 w' ∧ Kept w w' (fun k_ => P0_ k_)) : ∀ (P0_ : Nat → Prop) (u9000_ : Value) (l0 : List (S41)) (a1 : Int) (a2 : Int) (a3 : Int)  (r : List (S41)) (w0 w : World) (hB : Below w0.heap.size w0 w) (ho0 : Kd.R k41 41 w w0.heap.size P0_ u9000_ l0) (h : api_Span_81.f k l0 a1 a2 a3 = some r) (hS_ : Aside0 (¬ ((wrap64 (a2 - a1)) = 1))) (hT_ : Aside0 ((wrap64 (a3 - a2)) = 1)),
  Calls Try.prog 81 #[u9000_, .int .i64 a1, .int .i64 a2, .int .i64 a3, .func (.func 62) #[] #[]] w fun e w' => e = .returned (.tuple #[]) ∧ Kd.R k41 41 w' w0.heap.size (fun k_ => (P0_ k_ ∨ w.heap.size ≤ k_)) u9000_ r ∧ Below w0.heap.size w0 w' ∧ Kept w w' (fun k_ => P0_ k_) := by
 intro P0_ u9000_ l0 a1 a2 a3 r w0 w hB ho0 h hS_ hT_
 cases k with
 | zero => exact absurd h (by simp [api_Span_81.f])
 | succ k =>
 simp only [api_Span_81.f] at h
 have hu41 := Try.underlying41
 have HO0 := Aside0.mk (show Kd.R k41 41 w w0.heap.size (fun k_ => (P0_ k_ ∨ w.heap.size ≤ k_)) u9000_ l0 from Kd.R_mono ho0 (fun k_ hk => (.inl hk)))
 have HK := Aside0.mk (Kept.refl w (fun k_ => P0_ k_))
 have HW0 := Aside0.mk hB.size
 have HB := Aside0.mk hB; clear hB
 have H : (if (wrap64 (a2 - a1)) = 1 then (api_Span_81.l0 k l0 a1 a2 a3) else (if (wrap64 (a3 - a2)) = 1 then (api_Span_81.l2 k l0 a2 a1 a2) else (if a2 > (wrap64 ((IntKind.u64.wrap (wrap64 (a1 + a3))) / 2)) then (api_Span_81.j4 k l0 a1 a2 a3 (wrap64 ((IntKind.u64.wrap (wrap64 (a1 + a3))) / 2)) (wrap64 ((wrap64 ((IntKind.u64.wrap (wrap64 (a1 + a3))) / 2)) + a2)) (wrap64 ((wrap64 ((wrap64 ((IntKind.u64.wrap (wrap64 (a1 + a3))) / 2)) + a2)) - a3)) (wrap64 ((IntKind.u64.wrap (wrap64 (a1 + a3))) / 2))) else (api_Span_81.j4 k l0 a1 a2 a3 (wrap64 ((IntKind.u64.wrap (wrap64 (a1 + a3))) / 2)) (wrap64 ((wrap64 ((IntKind.u64.wrap (wrap64 (a1 + a3))) / 2)) + a2)) a1 a2)))) = some r := h
 clear h
 by_cases c6 : (wrap64 (a2 - a1)) = 1
 ·exact absurd c6 hS_.out
 ·rw [if_neg c6] at H
  have c6b0 : ((wrap64 (a2 - a1)) == 1) = false := beq_eq_false_iff_ne.mpr c6
  have c6b1 : ((wrap64 (a2 - a1)) != 1) = true := bne_iff_ne.mpr c6
  by_cases c33 : (wrap64 (a3 - a2)) = 1
  ·rw [if_pos c33] at H
   have c33b0 : ((wrap64 (a3 - a2)) == 1) = true := beq_iff_eq.mpr c33
   have c33b1 : ((wrap64 (a3 - a2)) != 1) = false := bne_eq_false_iff_eq.mpr c33
   clear c33; have H' := Aside0.mk H; clear H
   go_enter Try.func81, Try.ntmps81
   go_wp2
   go_loopg [14, 15] k (fun kq v14 v15 w' => ∃ (x14_1 : Int) (x15_1 : Int), v14 = .int .i64 x14_1 ∧ v15 = .int .i64 x15_1 ∧ Aside0 (api_Span_81.l2 kq l0 a2 x14_1 x15_1 = some r) ∧ Aside0 (kq ≤ k) ∧ Aside0 (Kd.R k41 41 w' w0.heap.size (fun k_ => (P0_ k_ ∨ w.heap.size ≤ k_)) u9000_ l0) ∧ Aside0 (Kept w w' (fun k_ => P0_ k_)) ∧ Aside0 (Below w0.heap.size w0 w'))
   case atStart => exact ⟨(a1), (a2), (by first | rfl | (simp; done) | (simp [*]; done)), (by first | rfl | (simp; done) | (simp [*]; done)), H', ⟨Nat.le_refl _⟩, ⟨by exact HO0.out⟩, ⟨by repeat (first | (with_reducible first | exact HK.out | apply Kept.alloc | apply Kept.drewN | apply Kept.drew) | exact HK.out)⟩, ⟨bl_⟩⟩
   case round =>
    clear H'; obtain ⟨x14_1, x15_1, rfl, rfl, HA, HK1, HO_0, HK, HB⟩ := hrel
    cases gk with
    | zero => exact absurd HA.out (by simp [api_Span_81.l2])
    | succ k1 =>
     have H := HA.out
     clear HA
     simp only [api_Span_81.l2] at H
     by_cases c34 : x14_1 < x15_1
     ·rw [if_pos c34] at H
      have c34b0 : decide (x14_1 < x15_1) = true := decide_eq_true c34
      clear c34
      obtain ⟨ji35, hji35⟩ : ∃ j_ : Int, (wrap64 ((IntKind.u64.wrap (wrap64 (x14_1 + x15_1))) / 2)) = j_ := ⟨_, rfl⟩
      replace H : (if 0 ≤ a2 then (if a2 < (l0.length : Int) then (if 0 ≤ (ji35) then (if (ji35) < (l0.length : Int) then ((span_Join_2.f ((rd_T41 l0 a2).f0) ((rd_T41 l0 a2).f1) ((rd_T41 l0 (ji35)).f0) ((rd_T41 l0 (ji35)).f1)).bind fun t136 => (if t136 < 0 then (api_Span_81.l2 k1 l0 a2 x14_1 ji35) else (api_Span_81.l2 k1 l0 a2 (wrap64 ((ji35) + 1)) x15_1))) else (none)) else (none)) else (none)) else (none)) = some r := by first | (rw [hji35] at H; exact H) | (simp only [hji35] at H ⊢; exact H)
      have hji35w : (IntKind.i64.wrap ((IntKind.u64.wrap (wrap64 (x14_1 + x15_1))) / 2)) = ji35 := (i64_w _).trans hji35
      by_cases c36 : 0 ≤ a2
      ·rw [if_pos c36] at H
       have c36b0 : decide (0 ≤ a2) = true := decide_eq_true c36
       clear c36
       by_cases c37 : a2 < (l0.length : Int)
       ·rw [if_pos c37] at H
        have c37b0 : decide (a2 < (l0.length : Int)) = true := decide_eq_true c37
        clear c37
        by_cases c38 : 0 ≤ (ji35)
        ·rw [if_pos c38] at H
         have c38b0 : decide (0 ≤ (ji35)) = true := decide_eq_true c38
         clear c38
         by_cases c39 : (ji35) < (l0.length : Int)
         ·rw [if_pos c39] at H
          have c39b0 : decide ((ji35) < (l0.length : Int)) = true := decide_eq_true c39
          clear c39; replace H := Option.bind_eq_some_iff.mp H; obtain ⟨t136, A400, H⟩ := H
          replace H : (if t136 < 0 then (api_Span_81.l2 k1 l0 a2 x14_1 ji35) else (api_Span_81.l2 k1 l0 a2 (wrap64 ((ji35) + 1)) x15_1)) = some r := H
          have A40 := Aside0.mk A400; clear A400
          by_cases c41 : t136 < 0
          ·rw [if_pos c41] at H
           have c41b0 : decide (t136 < 0) = true := decide_eq_true c41
           clear c41; have H' := Aside0.mk H; clear H
           try go_wp2
           have n0_ := Aside0.mk (Kd.R_drew HO_0.out)
           have n1_ := Aside0.mk (Kept.drew HK.out)
           have n2_ := Aside0.mk (below_drew1 HB.out)
           clear HO_0; clear HK; clear HB; have HO_0 := n0_; have HK := n1_; have HB := n2_; clear n0_ n1_ n2_; obtain ⟨Ao43, co43, eo43⟩ := Kd.R_slice HO_0.out
           (first | subst eo43 | (injection eo43 with f1_ f2_ f3_; have f4_ := f1_.symm; have f5_ := f3_.symm; clear f1_ f2_ f3_; subst f4_; subst f5_))
           have p134 : 0 ≤ (a2 : Int) := od_
           have q134 : a2 < (l0.length : Int) := od_
           obtain ⟨ad134, e134, hx134_0, hx134_1⟩ := at_T41 (Kd.R_reads' HO_0.out).2.2 a2 p134 q134
           cases e134; replace p134 := eq_true p134; replace q134 := eq_true q134
           have p135 : 0 ≤ ((ji35) : Int) := od_
           have q135 : (ji35) < (l0.length : Int) := od_
           obtain ⟨ad135, e135, hx135_0, hx135_1⟩ := at_T41 (Kd.R_reads' HO_0.out).2.2 (ji35) p135 q135
           obtain rfl : ad134 = ad135 := (by injection e135)
           replace p135 := eq_true p135; replace q135 := eq_true q135
           refine start_ (n := 12) (S := fun w' => w'.cell? (ad134.add ((a2).toNat * 2)) = some (.string ((rd_T41 l0 a2).f0)) ∧ w'.cell? ⟨(ad134.add ((a2).toNat * 2)).block, (ad134.add ((a2).toNat * 2)).off + 1, none⟩ = some (.string ((rd_T41 l0 a2).f1)) ∧ w'.cell? (ad134.add (((ji35)).toNat * 2)) = some (.string ((rd_T41 l0 (ji35)).f0)) ∧ w'.cell? ⟨(ad134.add (((ji35)).toNat * 2)).block, (ad134.add (((ji35)).toNat * 2)).off + 1, none⟩ = some (.string ((rd_T41 l0 (ji35)).f1))) (ds := []) (fst_ 12 0) (by kernel_rfl) rfl rfl ⟨hx134_0, hx134_1, hx135_0, hx135_1⟩ (fun hHeld => ?_); refine with_tabW api_Span_81.tab17 api_Span_81.bits17 (fun HT_ HW_ => ?_)
           generalize wr.drew = w42 at HO_0 HK HB hx134_0 hx134_1 hx135_0 hx135_1 hHeld ⊢
           iterate 4 (refine pk_ (v := ?_) (a' := ?_) HT_.out rfl rfl (by kernel_rfl) (fun _ _ _ h => h) (Or.inl ⟨by rfl, ?_⟩) ?_ ?_; rotate_left; (· intro w'; go_simp; with_reducible rfl); rotate_left; (· simp only [Act.put, List.setIfInBounds_toArray, List.set_cons_zero, List.set_cons_succ, i64_w, i32_w]; rfl))
           refine pure_ (i := 5) (N := some 97) (v := ?_) (a' := ?_) #[true, true, true, true, false, true, false, false, false, false, false, false] rfl rfl (any_of HT_.out (by kernel_rfl)) (fun _ _ _ h => h) (Or.inl ⟨by rfl, ?_⟩) ?_ ?_
           rotate_left
           ·intro w'
            go_simp
            with_reducible rfl
           rotate_left
           ·simp only [Act.put, List.setIfInBounds_toArray, List.set_cons_zero, List.set_cons_succ, i64_w, i32_w]
            rfl
           refine pure_ (i := 6) (N := some 98) (v := ?_) (a' := ?_) #[true, true, true, true, false, true, true, false, false, false, false, false] rfl rfl (any_of HT_.out (by kernel_rfl)) (fun _ _ _ h => h) (Or.inl ⟨by rfl, ?_⟩) ?_ ?_
           rotate_left
           ·intro w'
            go_simp
            with_reducible rfl
           rotate_left
           ·simp only [Act.put, List.setIfInBounds_toArray, List.set_cons_zero, List.set_cons_succ, i64_w, i32_w]
            rfl
           refine pure_ (i := 7) (N := some 99) (v := ?_) (a' := ?_) #[true, true, true, true, false, true, true, true, false, false, false, false] rfl rfl (any_of HT_.out (by kernel_rfl)) (fun _ _ _ h => h) (Or.inl ⟨by rfl, ?_⟩) ?_ ?_
           rotate_left
           ·intro w'
            go_simp
            with_reducible rfl
           rotate_left
           ·simp only [Act.put, List.setIfInBounds_toArray, List.set_cons_zero, List.set_cons_succ, i64_w, i32_w]
            rfl
           refine take_ (i := 4) (N := some 96) (v := ?_) (a' := ?_) (fst_ 12 8) rfl rfl (take_ofW HT_.out HW_.out (by kernel_rfl)) (fun _ _ _ h => h) (Or.inl ⟨by rfl, ?_⟩) hHeld ?_ ?_
           rotate_left
           ·rintro w' ⟨s0, s1, s2, s3⟩
            go_simp
            with_reducible rfl
           rotate_left
           ·simp only [Act.put, List.setIfInBounds_toArray, List.set_cons_zero, List.set_cons_succ, i64_w, i32_w]
            rfl
           refine tk_ (v := ?_) (a' := ?_) HT_.out HW_.out rfl rfl (by kernel_rfl) (fun _ _ _ h => h) (Or.inl ⟨by rfl, ?_⟩) hHeld ?_ ?_
           rotate_left
           ·rintro w' ⟨s0, s1, s2, s3⟩
            go_simp
            with_reducible rfl
           rotate_left
           ·simp only [Act.put, List.setIfInBounds_toArray, List.set_cons_zero, List.set_cons_succ, i64_w, i32_w]
            rfl
           refine one_ (i := 9) (N := some 101) (fst_ 12 10) rfl rfl (one_of HT_.out (by kernel_rfl)) (by decide) (fun K hK => ?_)
           refine goesc_ Try.func62 (by kernel_rfl) rfl #[.agg #[.string ((rd_T41 l0 a2).f0), .string ((rd_T41 l0 a2).f1)], .agg #[.string ((rd_T41 l0 (ji35)).f0), .string ((rd_T41 l0 (ji35)).f1)]] (by rfl) rfl rfl rfl (by (try simp only [List.map_toArray, List.map_cons, List.map_nil]); first | done | (simp only [hji35]; rfl) | rfl | (simp only [List.length_drop, List.length_take]; rfl)) ?_
           with_reducible refine (span_Join_2.calls ((rd_T41 l0 a2).f0) ((rd_T41 l0 a2).f1) ((rd_T41 l0 (ji35)).f0) ((rd_T41 l0 (ji35)).f1) t136 _ A40.out).mono ?_
           rintro e w44 ⟨rfl, hb⟩
           have HS0_ := (hb.cell (World.block_lt_of_cell? _ _ (hHeld.1))).trans (hHeld.1)
           have HS1_ := (hb.cell (World.block_lt_of_cell? _ _ (hHeld.2.1))).trans (hHeld.2.1)
           have HS2_ := (hb.cell (World.block_lt_of_cell? _ _ (hHeld.2.2.1))).trans (hHeld.2.2.1)
           have HS3_ := (hb.cell (World.block_lt_of_cell? _ _ (hHeld.2.2.2))).trans (hHeld.2.2.2)
           refine ⟨_, rfl, ?_⟩
           have n0_ := Aside0.mk (Kd.R_below (by exact HO_0.out) hb)
           have n1_ := Aside0.mk (Kept.below (S := (fun k_ => P0_ k_)) (by repeat (first | (with_reducible first | exact HK.out | apply Kept.alloc | apply Kept.drewN | apply Kept.drew) | exact HK.out)) hb)
           have n2_ := Aside0.mk (below_step bl_ hb)
           clear HO_0; clear HK; clear HB; have HO_0 := n0_; have HK := n1_; have HB := n2_; clear n0_ n1_ n2_
           (try clear hb)
           (try clear hb2)
           (try clear hk)
           (try clear hi)
           refine hK.out _ _ ⟨HS0_, HS1_, HS2_, HS3_⟩ (fun hHeld => ?_)
           clear hK K; refine norm_ (a' := ?_) ?_ ?_; rotate_left
           ·show Act.put _ (some 101) _ = _
            simp only [Act.put, List.setIfInBounds_toArray, List.set_cons_zero, List.set_cons_succ, i64_w, i32_w]
            rfl
           iterate 2 (refine pk_ (v := ?_) (a' := ?_) HT_.out rfl rfl (by kernel_rfl) (fun _ _ _ h => h) (Or.inl ⟨by rfl, ?_⟩) ?_ ?_; rotate_left; (· intro w'; go_simp; with_reducible rfl); rotate_left; (· simp only [Act.put, List.setIfInBounds_toArray, List.set_cons_zero, List.set_cons_succ, i64_w, i32_w]; rfl))
           refine done_ (done_of HT_.out (by kernel_rfl)) ?_
           try go_wp2
           go_roundg k1
           case measure => have := HK1.out; omega
           case rel => exact ⟨(x14_1), (ji35), (by first | rfl | (simp; done) | (simp [*]; done)), (by first | rfl | (simp; done) | (simp only [← hji35] <;> (first | rfl | simp)) | (simp [*]; done)), H', ⟨by have := HK1.out; omega⟩, ⟨by exact HO_0.out⟩, ⟨by repeat (first | (with_reducible first | exact HK.out | apply Kept.alloc | apply Kept.drewN | apply Kept.drew) | exact HK.out)⟩, ⟨bl_⟩⟩
          ·rw [if_neg c41] at H
           have c41b0 : decide (t136 < 0) = false := decide_eq_false c41
           clear c41; have H' := Aside0.mk H; clear H
           try go_wp2
           have n0_ := Aside0.mk (Kd.R_drew HO_0.out)
           have n1_ := Aside0.mk (Kept.drew HK.out)
           have n2_ := Aside0.mk (below_drew1 HB.out)
           clear HO_0; clear HK; clear HB; have HO_0 := n0_; have HK := n1_; have HB := n2_; clear n0_ n1_ n2_; obtain ⟨Ao46, co46, eo46⟩ := Kd.R_slice HO_0.out
           (first | subst eo46 | (injection eo46 with f1_ f2_ f3_; have f4_ := f1_.symm; have f5_ := f3_.symm; clear f1_ f2_ f3_; subst f4_; subst f5_))
           have p134 : 0 ≤ (a2 : Int) := od_
           have q134 : a2 < (l0.length : Int) := od_
           obtain ⟨ad134, e134, hx134_0, hx134_1⟩ := at_T41 (Kd.R_reads' HO_0.out).2.2 a2 p134 q134
           cases e134; replace p134 := eq_true p134; replace q134 := eq_true q134
           have p135 : 0 ≤ ((ji35) : Int) := od_
           have q135 : (ji35) < (l0.length : Int) := od_
           obtain ⟨ad135, e135, hx135_0, hx135_1⟩ := at_T41 (Kd.R_reads' HO_0.out).2.2 (ji35) p135 q135
           obtain rfl : ad134 = ad135 := (by injection e135)
           replace p135 := eq_true p135; replace q135 := eq_true q135
           refine start_ (n := 12) (S := fun w' => w'.cell? (ad134.add ((a2).toNat * 2)) = some (.string ((rd_T41 l0 a2).f0)) ∧ w'.cell? ⟨(ad134.add ((a2).toNat * 2)).block, (ad134.add ((a2).toNat * 2)).off + 1, none⟩ = some (.string ((rd_T41 l0 a2).f1)) ∧ w'.cell? (ad134.add (((ji35)).toNat * 2)) = some (.string ((rd_T41 l0 (ji35)).f0)) ∧ w'.cell? ⟨(ad134.add (((ji35)).toNat * 2)).block, (ad134.add (((ji35)).toNat * 2)).off + 1, none⟩ = some (.string ((rd_T41 l0 (ji35)).f1))) (ds := []) (fst_ 12 0) (by kernel_rfl) rfl rfl ⟨hx134_0, hx134_1, hx135_0, hx135_1⟩ (fun hHeld => ?_); refine with_tabW api_Span_81.tab17 api_Span_81.bits17 (fun HT_ HW_ => ?_)
           generalize wr.drew = w45 at HO_0 HK HB hx134_0 hx134_1 hx135_0 hx135_1 hHeld ⊢
           iterate 4 (refine pk_ (v := ?_) (a' := ?_) HT_.out rfl rfl (by kernel_rfl) (fun _ _ _ h => h) (Or.inl ⟨by rfl, ?_⟩) ?_ ?_; rotate_left; (· intro w'; go_simp; with_reducible rfl); rotate_left; (· simp only [Act.put, List.setIfInBounds_toArray, List.set_cons_zero, List.set_cons_succ, i64_w, i32_w]; rfl))
           refine pure_ (i := 5) (N := some 97) (v := ?_) (a' := ?_) #[true, true, true, true, false, true, false, false, false, false, false, false] rfl rfl (any_of HT_.out (by kernel_rfl)) (fun _ _ _ h => h) (Or.inl ⟨by rfl, ?_⟩) ?_ ?_
           rotate_left
           ·intro w'
            go_simp
            with_reducible rfl
           rotate_left
           ·simp only [Act.put, List.setIfInBounds_toArray, List.set_cons_zero, List.set_cons_succ, i64_w, i32_w]
            rfl
           refine pure_ (i := 6) (N := some 98) (v := ?_) (a' := ?_) #[true, true, true, true, false, true, true, false, false, false, false, false] rfl rfl (any_of HT_.out (by kernel_rfl)) (fun _ _ _ h => h) (Or.inl ⟨by rfl, ?_⟩) ?_ ?_
           rotate_left
           ·intro w'
            go_simp
            with_reducible rfl
           rotate_left
           ·simp only [Act.put, List.setIfInBounds_toArray, List.set_cons_zero, List.set_cons_succ, i64_w, i32_w]
            rfl
           refine pure_ (i := 7) (N := some 99) (v := ?_) (a' := ?_) #[true, true, true, true, false, true, true, true, false, false, false, false] rfl rfl (any_of HT_.out (by kernel_rfl)) (fun _ _ _ h => h) (Or.inl ⟨by rfl, ?_⟩) ?_ ?_
           rotate_left
           ·intro w'
            go_simp
            with_reducible rfl
           rotate_left
           ·simp only [Act.put, List.setIfInBounds_toArray, List.set_cons_zero, List.set_cons_succ, i64_w, i32_w]
            rfl
           refine take_ (i := 4) (N := some 96) (v := ?_) (a' := ?_) (fst_ 12 8) rfl rfl (take_ofW HT_.out HW_.out (by kernel_rfl)) (fun _ _ _ h => h) (Or.inl ⟨by rfl, ?_⟩) hHeld ?_ ?_
           rotate_left
           ·rintro w' ⟨s0, s1, s2, s3⟩
            go_simp
            with_reducible rfl
           rotate_left
           ·simp only [Act.put, List.setIfInBounds_toArray, List.set_cons_zero, List.set_cons_succ, i64_w, i32_w]
            rfl
           refine tk_ (v := ?_) (a' := ?_) HT_.out HW_.out rfl rfl (by kernel_rfl) (fun _ _ _ h => h) (Or.inl ⟨by rfl, ?_⟩) hHeld ?_ ?_
           rotate_left
           ·rintro w' ⟨s0, s1, s2, s3⟩
            go_simp
            with_reducible rfl
           rotate_left
           ·simp only [Act.put, List.setIfInBounds_toArray, List.set_cons_zero, List.set_cons_succ, i64_w, i32_w]
            rfl
           refine one_ (i := 9) (N := some 101) (fst_ 12 10) rfl rfl (one_of HT_.out (by kernel_rfl)) (by decide) (fun K hK => ?_)
           refine goesc_ Try.func62 (by kernel_rfl) rfl #[.agg #[.string ((rd_T41 l0 a2).f0), .string ((rd_T41 l0 a2).f1)], .agg #[.string ((rd_T41 l0 (ji35)).f0), .string ((rd_T41 l0 (ji35)).f1)]] (by rfl) rfl rfl rfl (by (try simp only [List.map_toArray, List.map_cons, List.map_nil]); first | done | (simp only [hji35]; rfl) | rfl | (simp only [List.length_drop, List.length_take]; rfl)) ?_
           with_reducible refine (span_Join_2.calls ((rd_T41 l0 a2).f0) ((rd_T41 l0 a2).f1) ((rd_T41 l0 (ji35)).f0) ((rd_T41 l0 (ji35)).f1) t136 _ A40.out).mono ?_
           rintro e w47 ⟨rfl, hb⟩
           have HS0_ := (hb.cell (World.block_lt_of_cell? _ _ (hHeld.1))).trans (hHeld.1)
           have HS1_ := (hb.cell (World.block_lt_of_cell? _ _ (hHeld.2.1))).trans (hHeld.2.1)
           have HS2_ := (hb.cell (World.block_lt_of_cell? _ _ (hHeld.2.2.1))).trans (hHeld.2.2.1)
           have HS3_ := (hb.cell (World.block_lt_of_cell? _ _ (hHeld.2.2.2))).trans (hHeld.2.2.2)
           refine ⟨_, rfl, ?_⟩
           have n0_ := Aside0.mk (Kd.R_below (by exact HO_0.out) hb)
           have n1_ := Aside0.mk (Kept.below (S := (fun k_ => P0_ k_)) (by repeat (first | (with_reducible first | exact HK.out | apply Kept.alloc | apply Kept.drewN | apply Kept.drew) | exact HK.out)) hb)
           have n2_ := Aside0.mk (below_step bl_ hb)
           clear HO_0; clear HK; clear HB; have HO_0 := n0_; have HK := n1_; have HB := n2_; clear n0_ n1_ n2_
           (try clear hb)
           (try clear hb2)
           (try clear hk)
           (try clear hi)
           refine hK.out _ _ ⟨HS0_, HS1_, HS2_, HS3_⟩ (fun hHeld => ?_)
           clear hK K; refine norm_ (a' := ?_) ?_ ?_; rotate_left
           ·show Act.put _ (some 101) _ = _
            simp only [Act.put, List.setIfInBounds_toArray, List.set_cons_zero, List.set_cons_succ, i64_w, i32_w]
            rfl
           iterate 2 (refine pk_ (v := ?_) (a' := ?_) HT_.out rfl rfl (by kernel_rfl) (fun _ _ _ h => h) (Or.inl ⟨by rfl, ?_⟩) ?_ ?_; rotate_left; (· intro w'; go_simp; with_reducible rfl); rotate_left; (· simp only [Act.put, List.setIfInBounds_toArray, List.set_cons_zero, List.set_cons_succ, i64_w, i32_w]; rfl))
           refine done_ (done_of HT_.out (by kernel_rfl)) ?_
           try go_wp2
           go_roundg k1
           case measure => have := HK1.out; omega
           case rel => exact ⟨(wrap64 ((ji35) + 1)), (x15_1), (by first | rfl | (simp; done) | (simp only [← hji35] <;> (first | rfl | simp)) | (simp [*]; done)), (by first | rfl | (simp; done) | (simp [*]; done)), H', ⟨by have := HK1.out; omega⟩, ⟨by exact HO_0.out⟩, ⟨by repeat (first | (with_reducible first | exact HK.out | apply Kept.alloc | apply Kept.drewN | apply Kept.drew) | exact HK.out)⟩, ⟨bl_⟩⟩
         ·rw [if_neg c39] at H
          exact absurd H (by simp)
        ·rw [if_neg c38] at H
         exact absurd H (by simp)
       ·rw [if_neg c37] at H
        exact absurd H (by simp)
      ·rw [if_neg c36] at H
       exact absurd H (by simp)
     ·rw [if_neg c34] at H
      have c34b0 : decide (x14_1 < x15_1) = false := decide_eq_false c34
      clear c34; have H' := Aside0.mk H; clear H
      go_wp2
      go_loopg [17] k1 (fun kq v17 w' => ∃ (x0_2 : List (S41)) (x17_2 : Int), v17 = .int .i64 x17_2 ∧ Aside0 (api_Span_81.l3 kq x0_2 x14_1 x17_2 = some r) ∧ Aside0 (kq ≤ k1) ∧ Aside0 (Kd.R k41 41 w' w0.heap.size (fun k_ => (P0_ k_ ∨ w.heap.size ≤ k_)) u9000_ x0_2) ∧ Aside0 (Kept w w' (fun k_ => P0_ k_)) ∧ Aside0 (Below w0.heap.size w0 w'))
      case atStart => exact ⟨(l0), (a2), (by first | rfl | (simp; done) | (simp [*]; done)), H', ⟨Nat.le_refl _⟩, ⟨by exact HO_0.out⟩, ⟨by repeat (first | (with_reducible first | exact HK.out | apply Kept.alloc | apply Kept.drewN | apply Kept.drew) | exact HK.out)⟩, ⟨bl_⟩⟩
      case round =>
       clear H'; obtain ⟨x0_2, x17_2, rfl, HA, HK2, HO_0, HK, HB⟩ := hrel
       cases gk with
       | zero => exact absurd HA.out (by simp [api_Span_81.l3])
       | succ k2 =>
        have H := HA.out
        clear HA
        simp only [api_Span_81.l3] at H
        by_cases c48 : x17_2 > x14_1
        ·rw [if_pos c48] at H
         have c48b0 : decide (x14_1 < x17_2) = true := decide_eq_true c48
         clear c48
         obtain ⟨ji49, hji49⟩ : ∃ j_ : Int, (wrap64 (x17_2 - 1)) = j_ := ⟨_, rfl⟩
         replace H : (if 0 ≤ (ji49) then (if (ji49) < (x0_2.length : Int) then (if 0 ≤ x17_2 then (if x17_2 < (x0_2.length : Int) then (api_Span_81.l3 k2 ((x0_2.set (x17_2 : Int).toNat (⟨(rd_T41 x0_2 (ji49)).f0, (rd_T41 x0_2 (ji49)).f1⟩ : S41)).set ((ji49) : Int).toNat (⟨(rd_T41 x0_2 x17_2).f0, (rd_T41 x0_2 x17_2).f1⟩ : S41)) x14_1 ji49) else (none)) else (none)) else (none)) else (none)) = some r := by first | (rw [hji49] at H; exact H) | (simp only [hji49] at H ⊢; exact H)
         have hji49w : (IntKind.i64.wrap (x17_2 - 1)) = ji49 := (i64_w _).trans hji49
         by_cases c50 : 0 ≤ (ji49)
         ·rw [if_pos c50] at H
          have c50b0 : decide (0 ≤ (ji49)) = true := decide_eq_true c50
          clear c50
          by_cases c51 : (ji49) < (x0_2.length : Int)
          ·rw [if_pos c51] at H
           have c51b0 : decide ((ji49) < (x0_2.length : Int)) = true := decide_eq_true c51
           clear c51
           by_cases c52 : 0 ≤ x17_2
           ·rw [if_pos c52] at H
            have c52b0 : decide (0 ≤ x17_2) = true := decide_eq_true c52
            clear c52
            by_cases c53 : x17_2 < (x0_2.length : Int)
            ·rw [if_pos c53] at H
             have c53b0 : decide (x17_2 < (x0_2.length : Int)) = true := decide_eq_true c53
             clear c53
             obtain ⟨y139, hy139⟩ : ∃ y_ : List (S41), y_ = (x0_2.set (x17_2 : Int).toNat (⟨(rd_T41 x0_2 (ji49)).f0, (rd_T41 x0_2 (ji49)).f1⟩ : S41)) := ⟨_, rfl⟩
             replace H : (api_Span_81.l3 k2 (y139.set ((ji49) : Int).toNat (⟨(rd_T41 x0_2 x17_2).f0, (rd_T41 x0_2 x17_2).f1⟩ : S41)) x14_1 ji49) = some r := by first | (rw [hy139]; with_reducible exact H) | (have H2_ := (Option.bind_some _ _).symm.trans H; rw [hy139]; with_reducible exact H2_) | (have H2_ := (Option.bind_some _ _).symm.trans H; with_reducible exact H2_) | with_reducible exact H | (rw [hy139]; exact H) | exact H
             have Ny139 := Aside0.mk hy139; clear hy139
             obtain ⟨y140, hy140⟩ : ∃ y_ : List (S41), y_ = (y139.set ((ji49) : Int).toNat (⟨(rd_T41 x0_2 x17_2).f0, (rd_T41 x0_2 x17_2).f1⟩ : S41)) := ⟨_, rfl⟩
             replace H : (api_Span_81.l3 k2 y140 x14_1 ji49) = some r := by first | (rw [hy140]; with_reducible exact H) | (have H2_ := (Option.bind_some _ _).symm.trans H; rw [hy140]; with_reducible exact H2_) | (have H2_ := (Option.bind_some _ _).symm.trans H; with_reducible exact H2_) | with_reducible exact H | (rw [hy140]; exact H) | exact H
             have Ny140 := Aside0.mk hy140; clear hy140; have H' := Aside0.mk H; clear H
             try go_wp2
             have n0_ := Aside0.mk (Kd.R_drew HO_0.out)
             have n1_ := Aside0.mk (Kept.drew HK.out)
             have n2_ := Aside0.mk (below_drew1 HB.out)
             clear HO_0; clear HK; clear HB; have HO_0 := n0_; have HK := n1_; have HB := n2_; clear n0_ n1_ n2_; obtain ⟨Ao57, co57, eo57⟩ := Kd.R_slice HO_0.out
             (first | subst eo57 | (injection eo57 with f1_ f2_ f3_; have f4_ := f1_.symm; have f5_ := f3_.symm; clear f1_ f2_ f3_; subst f4_; subst f5_))
             have p137 : 0 ≤ ((ji49) : Int) := od_
             have q137 : (ji49) < (x0_2.length : Int) := od_
             obtain ⟨ad137, e137, hx137_0, hx137_1⟩ := at_T41 (Kd.R_reads' HO_0.out).2.2 (ji49) p137 q137
             cases e137; replace p137 := eq_true p137; replace q137 := eq_true q137
             have p138 : 0 ≤ (x17_2 : Int) := od_
             have q138 : x17_2 < (x0_2.length : Int) := od_
             obtain ⟨ad138, e138, hx138_0, hx138_1⟩ := at_T41 (Kd.R_reads' HO_0.out).2.2 x17_2 p138 q138
             obtain rfl : ad137 = ad138 := (by injection e138)
             replace p138 := eq_true p138; replace q138 := eq_true q138
             have p54 : 0 ≤ (x17_2 : Int) := od_
             have q54 : (x17_2 : Int) < ((x0_2.length : Int) : Int) := od_
             obtain ⟨go54, co54, eo54, gb54, gl54, cl54, HG54⟩ := Kd.R_form HO_0.out (by omega)
             (first | cases eo54 | (injection eo54 with ea_ en_ ec_; (first | subst ea_ | (injection ea_ with ea_; subst ea_)); subst ec_; clear en_))
             have GB54 := Aside0.mk gb54; have GG54 := Aside0.mk HG54; clear gb54 gl54 HG54
             have HMgo54 := Aside0.mk (show (P0_ go54 ∨ w.heap.size ≤ go54) from (HO_0.out.1 _ rfl))
             (first | simp only [add_plain] at hx137_0 | skip)
             (first | simp only [add_plain] at hx137_1 | skip)
             (first | simp only [add_plain] at hx138_0 | skip)
             (first | simp only [add_plain] at hx138_1 | skip)
             obtain ⟨ce54, hcl54, hM54, hcc54, hfr54⟩ := Kd.R_elem HO_0.out z41 (x17_2 : Int) p54 q54
             obtain rfl := k41_openM hM54
             have hx54_0 : World.cell? _ ⟨go54, (x17_2 : Int).toNat * 2, none⟩ = some (.string ((rd_T41 x0_2 x17_2).f0)) := hcc54 0 _ rfl
             have hx54_1 : World.cell? _ ⟨go54, (x17_2 : Int).toNat * 2 + 1, none⟩ = some (.string ((rd_T41 x0_2 x17_2).f1)) := hcc54 1 _ rfl
             have hz54_0 := hx54_0
             have hz54_1 := hx54_1
             (try simp only [World.setCells, Nat.add_zero, show k41.sz = 2 from rfl] at hz54_0 hz54_1)
             (try rw [cell_set_off (by omega)] at hz54_0)
             have hf54_0 : World.frozen? _ ⟨go54, (x17_2 : Int).toNat * 2, none⟩ = false := hfr54 0
             have hf54_1 : World.frozen? _ ⟨go54, (x17_2 : Int).toNat * 2 + 1, none⟩ = false := hfr54 1
             have hq54_0 := hf54_0
             have hq54_1 := hf54_1
             (try simp only [World.setCells, World.frozen?_setCell, Nat.add_zero, show k41.sz = 2 from rfl] at hq54_0 hq54_1)
             clear hcl54 hcc54 hfr54 hM54; replace p54 := eq_true p54; replace q54 := eq_true q54
             obtain ⟨ce58, hcl58, hM58, hcc58, hfr58⟩ := Kd.R_elem HO_0.out z41 (x17_2 : Int) (od_) (by have h_ : (x17_2 : Int) < ((x0_2.length : Int) : Int) := od_; first | exact h_ | (have e_ := (Kd.R_reads' HO_0.out).1; omega) | simpa using h_)
             obtain rfl := k41_openM hM58
             have HP58 := (Kd.R_seg HO_0.out (x17_2 : Int) (od_) (by have h_ : (x17_2 : Int) < ((x0_2.length : Int) : Int) := od_; first | exact h_ | (have e_ := (Kd.R_reads' HO_0.out).1; omega) | simpa using h_) (seg := [.string ((rd_T41 x0_2 (ji49)).f0), .string ((rd_T41 x0_2 (ji49)).f1)]) (j := 0) hcl58 hcc58 (show 2 ≤ 2 from by decide) (x' := (⟨(rd_T41 x0_2 (ji49)).f0, (rd_T41 x0_2 (ji49)).f1⟩ : S41)) (k41_mkM _ _ _ (⟨(rd_T41 x0_2 (ji49)).f0, (rd_T41 x0_2 (ji49)).f1⟩ : S41) ) (fun _ hk => hk)).1
             rw [← Ny139.out] at HP58
             have HQ58 := Aside0.mk HP58; clear hcl58 hcc58 hfr58 hM58 HP58
             have p55 : 0 ≤ ((ji49) : Int) := od_
             have q55 : ((ji49) : Int) < ((x0_2.length : Int) : Int) := od_
             obtain ⟨ce55, hcl55, hM55, hcc55, hfr55⟩ := Kd.R_elem HQ58.out z41 ((ji49) : Int) p55 q55
             obtain rfl := k41_openM hM55
             have hx55_0 : World.cell? _ ⟨go54, ((ji49) : Int).toNat * 2, none⟩ = some (.string ((rd_T41 y139 (ji49)).f0)) := hcc55 0 _ rfl
             have hx55_1 : World.cell? _ ⟨go54, ((ji49) : Int).toNat * 2 + 1, none⟩ = some (.string ((rd_T41 y139 (ji49)).f1)) := hcc55 1 _ rfl
             have hz55_0 := hx55_0
             have hz55_1 := hx55_1
             (try simp only [World.setCells, Nat.add_zero, show k41.sz = 2 from rfl] at hz55_0 hz55_1)
             (try rw [cell_set_off (by omega)] at hz55_0)
             have hf55_0 : World.frozen? _ ⟨go54, ((ji49) : Int).toNat * 2, none⟩ = false := hfr55 0
             have hf55_1 : World.frozen? _ ⟨go54, ((ji49) : Int).toNat * 2 + 1, none⟩ = false := hfr55 1
             have hq55_0 := hf55_0
             have hq55_1 := hf55_1
             (try simp only [World.setCells, World.frozen?_setCell, Nat.add_zero, show k41.sz = 2 from rfl] at hq55_0 hq55_1)
             clear hcl55 hcc55 hfr55 hM55; replace p55 := eq_true p55; replace q55 := eq_true q55
             obtain ⟨ce59, hcl59, hM59, hcc59, hfr59⟩ := Kd.R_elem HQ58.out z41 ((ji49) : Int) (od_) (by have h_ : ((ji49) : Int) < ((x0_2.length : Int) : Int) := od_; first | exact h_ | (have e_ := (Kd.R_reads' HO_0.out).1; omega) | simpa using h_)
             obtain rfl := k41_openM hM59
             have HP59 := (Kd.R_seg HQ58.out ((ji49) : Int) (od_) (by have h_ : ((ji49) : Int) < ((x0_2.length : Int) : Int) := od_; first | exact h_ | (have e_ := (Kd.R_reads' HO_0.out).1; omega) | simpa using h_) (seg := [.string ((rd_T41 x0_2 x17_2).f0), .string ((rd_T41 x0_2 x17_2).f1)]) (j := 0) hcl59 hcc59 (show 2 ≤ 2 from by decide) (x' := (⟨(rd_T41 x0_2 x17_2).f0, (rd_T41 x0_2 x17_2).f1⟩ : S41)) (k41_mkM _ _ _ (⟨(rd_T41 x0_2 x17_2).f0, (rd_T41 x0_2 x17_2).f1⟩ : S41) ) (fun _ hk => hk)).1
             rw [← Ny140.out] at HP59
             have HQ59 := Aside0.mk HP59; clear hcl59 hcc59 hfr59 hM59 HP59
             refine start_ (n := 18) (S := fun w' => w'.cell? ((⟨go54, ((ji49)).toNat * 2, none⟩ : Addr)) = some (.string ((rd_T41 x0_2 (ji49)).f0)) ∧ w'.cell? ⟨((⟨go54, ((ji49)).toNat * 2, none⟩ : Addr)).block, ((⟨go54, ((ji49)).toNat * 2, none⟩ : Addr)).off + 1, none⟩ = some (.string ((rd_T41 x0_2 (ji49)).f1)) ∧ w'.cell? ⟨go54, ((x17_2).toNat * 2), none⟩ = some (.string ((rd_T41 x0_2 x17_2).f0)) ∧ w'.cell? ⟨go54, ((x17_2).toNat * 2) + 1, none⟩ = some (.string ((rd_T41 x0_2 x17_2).f1))) (ds := [15, 17]) (fst_ 18 0) (by kernel_rfl) rfl rfl ⟨hx137_0, hx137_1, hx138_0, hx138_1⟩ (fun hHeld => ?_); refine with_tabW api_Span_81.tab23 api_Span_81.bits23 (fun HT_ HW_ => ?_)
             generalize wr.drew = w56 at HO_0 HK HB GG54 HQ58 HQ59 hf54_0 hf54_1 hf55_0 hf55_1 hx137_0 hx137_1 hx138_0 hx138_1 hx54_0 hx54_1 hx55_0 hx55_1 hz54_0 hz54_1 hq54_0 hq54_1 hz55_0 hz55_1 hq55_0 hq55_1 hHeld ⊢
             iterate 9 (refine pk_ (v := ?_) (a' := ?_) HT_.out rfl rfl (by kernel_rfl) (fun _ _ _ h => h) (Or.inl ⟨by rfl, ?_⟩) ?_ ?_; rotate_left; (· intro w'; go_simp; with_reducible rfl); rotate_left; (· simp only [Act.put, List.setIfInBounds_toArray, List.set_cons_zero, List.set_cons_succ, i64_w, i32_w]; rfl))
             refine pure_ (i := 10) (N := some 123) (v := ?_) (a' := ?_) #[true, true, true, true, true, true, true, true, true, false, true, false, false, false, false, false, false, false] rfl rfl (any_of HT_.out (by kernel_rfl)) (fun _ _ _ h => h) (Or.inl ⟨by rfl, ?_⟩) ?_ ?_
             rotate_left
             ·intro w'
              go_simp
              with_reducible rfl
             rotate_left
             ·simp only [Act.put, List.setIfInBounds_toArray, List.set_cons_zero, List.set_cons_succ, i64_w, i32_w]
              rfl
             refine pure_ (i := 11) (N := some 124) (v := ?_) (a' := ?_) #[true, true, true, true, true, true, true, true, true, false, true, true, false, false, false, false, false, false] rfl rfl (any_of HT_.out (by kernel_rfl)) (fun _ _ _ h => h) (Or.inl ⟨by rfl, ?_⟩) ?_ ?_
             rotate_left
             ·intro w'
              go_simp
              with_reducible rfl
             rotate_left
             ·simp only [Act.put, List.setIfInBounds_toArray, List.set_cons_zero, List.set_cons_succ, i64_w, i32_w]
              rfl
             refine pure_ (i := 12) (N := some 125) (v := ?_) (a' := ?_) #[true, true, true, true, true, true, true, true, true, false, true, true, true, false, false, false, false, false] rfl rfl (any_of HT_.out (by kernel_rfl)) (fun _ _ _ h => h) (Or.inl ⟨by rfl, ?_⟩) ?_ ?_
             rotate_left
             ·intro w'
              go_simp
              with_reducible rfl
             rotate_left
             ·simp only [Act.put, List.setIfInBounds_toArray, List.set_cons_zero, List.set_cons_succ, i64_w, i32_w]
              rfl
             refine take_ (i := 9) (N := some 122) (v := ?_) (a' := ?_) (fst_ 18 13) rfl rfl (take_ofW HT_.out HW_.out (by kernel_rfl)) (fun _ _ _ h => h) (Or.inl ⟨by rfl, ?_⟩) hHeld ?_ ?_
             rotate_left
             ·rintro w' ⟨s0, s1, s2, s3⟩
              go_simp
              with_reducible rfl
             rotate_left
             ·simp only [Act.put, List.setIfInBounds_toArray, List.set_cons_zero, List.set_cons_succ, i64_w, i32_w]
              rfl
             refine tk_ (v := ?_) (a' := ?_) HT_.out HW_.out rfl rfl (by kernel_rfl) (fun _ _ _ h => h) (Or.inl ⟨by rfl, ?_⟩) hHeld ?_ ?_
             rotate_left
             ·rintro w' ⟨s0, s1, s2, s3⟩
              go_simp
              with_reducible rfl
             rotate_left
             ·simp only [Act.put, List.setIfInBounds_toArray, List.set_cons_zero, List.set_cons_succ, i64_w, i32_w]
              rfl
             (refine pk_ (v := ?_) (a' := ?_) HT_.out rfl rfl (by kernel_rfl) (fun _ _ _ h => h) (Or.inl ⟨by rfl, ?_⟩) ?_ ?_; rotate_left; (· intro w'; go_simp; with_reducible rfl); rotate_left; (· simp only [Act.put, List.setIfInBounds_toArray, List.set_cons_zero, List.set_cons_succ, i64_w, i32_w]; rfl))
             refine last_ (i := 15) (N := none) (fst_ 18 16) rfl rfl (one_of HT_.out (by kernel_rfl)) (by decide) (fun K hK => ?_)
             refine skip_ (w1 := ?_) (by rfl) rfl ?_ ?_
             rotate_left
             ·go_simp
              rfl
             refine hK.out _ _ ?_
             clear hK K
             (refine pk_ (v := ?_) (a' := ?_) HT_.out rfl rfl (by kernel_rfl) (fun _ _ _ h => h) (Or.inl ⟨by rfl, ?_⟩) ?_ ?_; rotate_left; (· intro w'; go_simp; with_reducible rfl); rotate_left; (· simp only [Act.put, List.setIfInBounds_toArray, List.set_cons_zero, List.set_cons_succ, i64_w, i32_w]; rfl))
             refine last_ (i := 17) (N := none) (fst_ 18 18) rfl rfl (one_of HT_.out (by kernel_rfl)) (by decide) (fun K hK => ?_)
             refine skip_ (w1 := ?_) (by rfl) rfl ?_ ?_
             rotate_left
             ·go_simp
              rfl
             refine hK.out _ _ ?_
             clear hK K
             refine done_ (done_of HT_.out (by kernel_rfl)) ?_
             try go_wp2
             go_roundg k2
             case measure => have := HK1.out; have := HK2.out; omega
             case rel => exact ⟨(y140), (ji49), (by first | rfl | (simp; done) | (simp only [← hji49] <;> (first | rfl | simp)) | (simp [*]; done)), H', ⟨by have := HK1.out; have := HK2.out; omega⟩, ⟨by exact HQ59.out⟩, ⟨by repeat (first | (with_reducible first | exact HK.out | apply Kept.alloc | apply Kept.drewN | apply Kept.drew | refine Kept.setCell ?_ HMgo54.out _ | refine Kept.setCell ?_ HMgo54.out _ | refine Kept.setCell ?_ HMgo54.out _ | refine Kept.setCell ?_ HMgo54.out _) | exact HK.out)⟩, ⟨bl_⟩⟩
            ·rw [if_neg c53] at H
             exact absurd H (by simp)
           ·rw [if_neg c52] at H
            exact absurd H (by simp)
          ·rw [if_neg c51] at H
           exact absurd H (by simp)
         ·rw [if_neg c50] at H
          exact absurd H (by simp)
        ·rw [if_neg c48] at H
         have c48b0 : decide (x14_1 < x17_2) = false := decide_eq_false c48
         clear c48; obtain rfl := Option.some.inj H
         go_wp2
         first | go_end0 | ((try simp only [Exit.inBlock, Exit.then]); refine bodyPost_ret (results_none rfl _ _ _) rfl ?_)
         exact ⟨by first | rfl | (simp [errW_none, errW_some] <;> rfl) | (simp [*, errW_none, errW_some] <;> rfl), by exact HO_0.out, bl_, by repeat (first | (with_reducible first | exact HK.out | apply Kept.alloc | apply Kept.drewN | apply Kept.drew) | exact HK.out)⟩
  ·exact absurd hT_.out c33
set_option maxHeartbeats 8000000 in
set_option maxRecDepth 100000 in
theorem api_Span_81.callsC (k : Nat) (ih : ∀ m_ : Nat, m_ < k → ∀ (P0_ : Nat → Prop) (u9000_ : Value) (l0 : List (S41)) (a1 : Int) (a2 : Int) (a3 : Int)  (r : List (S41)) (w0 w : World) (hB : Below w0.heap.size w0 w) (ho0 : Kd.R k41 41 w w0.heap.size P0_ u9000_ l0) (h : api_Span_81.f m_ l0 a1 a2 a3 = some r),
  Calls Try.prog 81 #[u9000_, .int .i64 a1, .int .i64 a2, .int .i64 a3, .func (.func 62) #[] #[]] w fun e w' => e = .returned (.tuple #[]) ∧ Kd.R k41 41 w' w0.heap.size (fun k_ => (P0_ k_ ∨ w.heap.size ≤ k_)) u9000_ r ∧ Below w0.heap.size w0 w' ∧ Kept w w' (fun k_ => P0_ k_)) : ∀ (P0_ : Nat → Prop) (u9000_ : Value) (l0 : List (S41)) (a1 : Int) (a2 : Int) (a3 : Int)  (r : List (S41)) (w0 w : World) (hB : Below w0.heap.size w0 w) (ho0 : Kd.R k41 41 w w0.heap.size P0_ u9000_ l0) (h : api_Span_81.f k l0 a1 a2 a3 = some r) (hS_ : Aside0 (¬ ((wrap64 (a2 - a1)) = 1))) (hT_ : Aside0 (¬ ((wrap64 (a3 - a2)) = 1))),
  Calls Try.prog 81 #[u9000_, .int .i64 a1, .int .i64 a2, .int .i64 a3, .func (.func 62) #[] #[]] w fun e w' => e = .returned (.tuple #[]) ∧ Kd.R k41 41 w' w0.heap.size (fun k_ => (P0_ k_ ∨ w.heap.size ≤ k_)) u9000_ r ∧ Below w0.heap.size w0 w' ∧ Kept w w' (fun k_ => P0_ k_) := by
 intro P0_ u9000_ l0 a1 a2 a3 r w0 w hB ho0 h hS_ hT_
 cases k with
 | zero => exact absurd h (by simp [api_Span_81.f])
 | succ k =>
 simp only [api_Span_81.f] at h
 have hu41 := Try.underlying41
 have HO0 := Aside0.mk (show Kd.R k41 41 w w0.heap.size (fun k_ => (P0_ k_ ∨ w.heap.size ≤ k_)) u9000_ l0 from Kd.R_mono ho0 (fun k_ hk => (.inl hk)))
 have HK := Aside0.mk (Kept.refl w (fun k_ => P0_ k_))
 have HW0 := Aside0.mk hB.size
 have HB := Aside0.mk hB; clear hB
 have H : (if (wrap64 (a2 - a1)) = 1 then (api_Span_81.l0 k l0 a1 a2 a3) else (if (wrap64 (a3 - a2)) = 1 then (api_Span_81.l2 k l0 a2 a1 a2) else (if a2 > (wrap64 ((IntKind.u64.wrap (wrap64 (a1 + a3))) / 2)) then (api_Span_81.j4 k l0 a1 a2 a3 (wrap64 ((IntKind.u64.wrap (wrap64 (a1 + a3))) / 2)) (wrap64 ((wrap64 ((IntKind.u64.wrap (wrap64 (a1 + a3))) / 2)) + a2)) (wrap64 ((wrap64 ((wrap64 ((IntKind.u64.wrap (wrap64 (a1 + a3))) / 2)) + a2)) - a3)) (wrap64 ((IntKind.u64.wrap (wrap64 (a1 + a3))) / 2))) else (api_Span_81.j4 k l0 a1 a2 a3 (wrap64 ((IntKind.u64.wrap (wrap64 (a1 + a3))) / 2)) (wrap64 ((wrap64 ((IntKind.u64.wrap (wrap64 (a1 + a3))) / 2)) + a2)) a1 a2)))) = some r := h
 clear h
 by_cases c6 : (wrap64 (a2 - a1)) = 1
 ·exact absurd c6 hS_.out
 ·rw [if_neg c6] at H
  have c6b0 : ((wrap64 (a2 - a1)) == 1) = false := beq_eq_false_iff_ne.mpr c6
  have c6b1 : ((wrap64 (a2 - a1)) != 1) = true := bne_iff_ne.mpr c6
  by_cases c33 : (wrap64 (a3 - a2)) = 1
  ·exact absurd c33 hT_.out
  ·rw [if_neg c33] at H
   have c33b0 : ((wrap64 (a3 - a2)) == 1) = false := beq_eq_false_iff_ne.mpr c33
   have c33b1 : ((wrap64 (a3 - a2)) != 1) = true := bne_iff_ne.mpr c33
   obtain ⟨ji60, hji60⟩ : ∃ j_ : Int, (wrap64 ((IntKind.u64.wrap (wrap64 (a1 + a3))) / 2)) = j_ := ⟨_, rfl⟩
   replace H : (if a2 > (ji60) then (api_Span_81.j4 k l0 a1 a2 a3 ji60 (wrap64 ((ji60) + a2)) (wrap64 ((wrap64 ((ji60) + a2)) - a3)) ji60) else (api_Span_81.j4 k l0 a1 a2 a3 ji60 (wrap64 ((ji60) + a2)) a1 a2)) = some r := by first | (rw [hji60] at H; exact H) | (simp only [hji60] at H ⊢; exact H)
   have hji60w : (IntKind.i64.wrap ((IntKind.u64.wrap (wrap64 (a1 + a3))) / 2)) = ji60 := (i64_w _).trans hji60
   have HC61 := Aside0.mk H; clear H
   go_enter Try.func81, Try.ntmps81
   go_upto_if 140 with (fail)
   go_cut [20, 21] (fun v20 v21 wc => ∃ (kq : Nat) (x20_60 : Int) (x21_60 : Int), v20 = .int .i64 x20_60 ∧ v21 = .int .i64 x21_60 ∧ Aside0 (api_Span_81.j4 kq l0 a1 a2 a3 ji60 (wrap64 ((ji60) + a2)) x20_60 x21_60 = some r) ∧ Aside0 (kq ≤ k) ∧ Aside0 (Kd.R k41 41 wc w0.heap.size (fun k_ => (P0_ k_ ∨ w.heap.size ≤ k_)) u9000_ l0) ∧ Aside0 (Kept w wc (fun k_ => P0_ k_)) ∧ Aside0 (Below w0.heap.size w0 wc))
   case first =>
    have H := HC61.out
    clear HC61
    by_cases c62 : a2 > (ji60)
    ·rw [if_pos c62] at H
     have c62b0 : decide ((ji60) < a2) = true := decide_eq_true c62
     clear c62
     (first | rw [c62b0] | (simp only [i64_w, i32_w]; rw [c62b0]) | skip)
     have H' := Aside0.mk H; clear H
     go_wp2
     go_meet
     case rel => exact ⟨_, (wrap64 ((wrap64 ((ji60) + a2)) - a3)), (ji60), (by first | rfl | (simp; done) | (simp only [← hji60] <;> (first | rfl | simp)) | (simp [*]; done)), (by first | rfl | (simp; done) | (simp only [← hji60] <;> (first | rfl | simp)) | (simp [*]; done)), H', ⟨by first | omega | exact Nat.le_refl _⟩, ⟨by exact HO0.out⟩, ⟨by repeat (first | (with_reducible first | exact HK.out | apply Kept.alloc | apply Kept.drewN | apply Kept.drew) | exact HK.out)⟩, ⟨bl_⟩⟩
    ·rw [if_neg c62] at H
     have c62b0 : decide ((ji60) < a2) = false := decide_eq_false c62
     clear c62
     (first | rw [c62b0] | (simp only [i64_w, i32_w]; rw [c62b0]) | skip)
     have H' := Aside0.mk H; clear H
     go_wp2
     go_meet
     case rel => exact ⟨_, (a1), (a2), (by first | rfl | (simp; done) | (simp [*]; done)), (by first | rfl | (simp; done) | (simp [*]; done)), H', ⟨by first | omega | exact Nat.le_refl _⟩, ⟨by exact HO0.out⟩, ⟨by repeat (first | (with_reducible first | exact HK.out | apply Kept.alloc | apply Kept.drewN | apply Kept.drew) | exact HK.out)⟩, ⟨bl_⟩⟩
   case rest =>
    clear HC61; obtain ⟨kq, x20_60, x21_60, rfl, rfl, HA, HJ60, HO_0, HK, HB⟩ := hcut
    cases kq with
    | zero => exact absurd HA.out (by simp [api_Span_81.j4])
    | succ kj60 =>
     have H := HA.out
     clear HA
     simp only [api_Span_81.j4] at H
     have H' := Aside0.mk H; clear H
     go_wp2
     go_loopg [20, 21] kj60 (fun kq v20 v21 w' => ∃ (x20_2 : Int) (x21_2 : Int), v20 = .int .i64 x20_2 ∧ v21 = .int .i64 x21_2 ∧ Aside0 (api_Span_81.l4 kq l0 a1 a2 a3 ji60 (wrap64 ((ji60) + a2)) x20_2 x21_2 (wrap64 ((wrap64 ((ji60) + a2)) - 1)) = some r) ∧ Aside0 (kq ≤ kj60) ∧ Aside0 (Kd.R k41 41 w' w0.heap.size (fun k_ => (P0_ k_ ∨ w.heap.size ≤ k_)) u9000_ l0) ∧ Aside0 (Kept w w' (fun k_ => P0_ k_)) ∧ Aside0 (Below w0.heap.size w0 w'))
     case atStart => exact ⟨(x20_60), (x21_60), (by first | rfl | (simp; done) | (simp [*]; done)), (by first | rfl | (simp; done) | (simp [*]; done)), H', ⟨Nat.le_refl _⟩, ⟨by exact HO_0.out⟩, ⟨by repeat (first | (with_reducible first | exact HK.out | apply Kept.alloc | apply Kept.drewN | apply Kept.drew) | exact HK.out)⟩, ⟨bl_⟩⟩
     case round =>
      clear H'; obtain ⟨x20_2, x21_2, rfl, rfl, HA, HK2, HO_0, HK, HB⟩ := hrel
      cases gk with
      | zero => exact absurd HA.out (by simp [api_Span_81.l4])
      | succ k2 =>
       have H := HA.out
       clear HA
       simp only [api_Span_81.l4] at H
       by_cases c63 : x20_2 < x21_2
       ·rw [if_pos c63] at H
        have c63b0 : decide (x20_2 < x21_2) = true := decide_eq_true c63
        clear c63
        obtain ⟨ji64, hji64⟩ : ∃ j_ : Int, (wrap64 ((IntKind.u64.wrap (wrap64 (x20_2 + x21_2))) / 2)) = j_ := ⟨_, rfl⟩
        replace H : (if 0 ≤ (wrap64 ((wrap64 ((wrap64 ((ji60) + a2)) - 1)) - (ji64))) then (if (wrap64 ((wrap64 ((wrap64 ((ji60) + a2)) - 1)) - (ji64))) < (l0.length : Int) then (if 0 ≤ (ji64) then (if (ji64) < (l0.length : Int) then ((span_Join_2.f ((rd_T41 l0 (wrap64 ((wrap64 ((wrap64 ((ji60) + a2)) - 1)) - (ji64)))).f0) ((rd_T41 l0 (wrap64 ((wrap64 ((wrap64 ((ji60) + a2)) - 1)) - (ji64)))).f1) ((rd_T41 l0 (ji64)).f0) ((rd_T41 l0 (ji64)).f1)).bind fun t143 => (if t143 < 0 then (api_Span_81.l4 k2 l0 a1 a2 a3 ji60 (wrap64 ((ji60) + a2)) x20_2 ji64 (wrap64 ((wrap64 ((ji60) + a2)) - 1))) else (api_Span_81.l4 k2 l0 a1 a2 a3 ji60 (wrap64 ((ji60) + a2)) (wrap64 ((ji64) + 1)) x21_2 (wrap64 ((wrap64 ((ji60) + a2)) - 1))))) else (none)) else (none)) else (none)) else (none)) = some r := by first | (rw [hji64] at H; exact H) | (simp only [hji64] at H ⊢; exact H)
        have hji64w : (IntKind.i64.wrap ((IntKind.u64.wrap (wrap64 (x20_2 + x21_2))) / 2)) = ji64 := (i64_w _).trans hji64
        obtain ⟨ji65, hji65⟩ : ∃ j_ : Int, (wrap64 ((wrap64 ((wrap64 ((ji60) + a2)) - 1)) - (ji64))) = j_ := ⟨_, rfl⟩
        replace H : (if 0 ≤ (ji65) then (if (ji65) < (l0.length : Int) then (if 0 ≤ (ji64) then (if (ji64) < (l0.length : Int) then ((span_Join_2.f ((rd_T41 l0 (ji65)).f0) ((rd_T41 l0 (ji65)).f1) ((rd_T41 l0 (ji64)).f0) ((rd_T41 l0 (ji64)).f1)).bind fun t143 => (if t143 < 0 then (api_Span_81.l4 k2 l0 a1 a2 a3 ji60 (wrap64 ((ji60) + a2)) x20_2 ji64 (wrap64 ((wrap64 ((ji60) + a2)) - 1))) else (api_Span_81.l4 k2 l0 a1 a2 a3 ji60 (wrap64 ((ji60) + a2)) (wrap64 ((ji64) + 1)) x21_2 (wrap64 ((wrap64 ((ji60) + a2)) - 1))))) else (none)) else (none)) else (none)) else (none)) = some r := by first | (rw [hji65] at H; exact H) | (simp only [hji65] at H ⊢; exact H)
        have hji65w : (IntKind.i64.wrap ((wrap64 ((wrap64 ((ji60) + a2)) - 1)) - (ji64))) = ji65 := (i64_w _).trans hji65
        by_cases c66 : 0 ≤ (ji65)
        ·rw [if_pos c66] at H
         have c66b0 : decide (0 ≤ (ji65)) = true := decide_eq_true c66
         clear c66
         by_cases c67 : (ji65) < (l0.length : Int)
         ·rw [if_pos c67] at H
          have c67b0 : decide ((ji65) < (l0.length : Int)) = true := decide_eq_true c67
          clear c67
          by_cases c68 : 0 ≤ (ji64)
          ·rw [if_pos c68] at H
           have c68b0 : decide (0 ≤ (ji64)) = true := decide_eq_true c68
           clear c68
           by_cases c69 : (ji64) < (l0.length : Int)
           ·rw [if_pos c69] at H
            have c69b0 : decide ((ji64) < (l0.length : Int)) = true := decide_eq_true c69
            clear c69; replace H := Option.bind_eq_some_iff.mp H; obtain ⟨t143, A700, H⟩ := H
            replace H : (if t143 < 0 then (api_Span_81.l4 k2 l0 a1 a2 a3 ji60 (wrap64 ((ji60) + a2)) x20_2 ji64 (wrap64 ((wrap64 ((ji60) + a2)) - 1))) else (api_Span_81.l4 k2 l0 a1 a2 a3 ji60 (wrap64 ((ji60) + a2)) (wrap64 ((ji64) + 1)) x21_2 (wrap64 ((wrap64 ((ji60) + a2)) - 1)))) = some r := H
            have A70 := Aside0.mk A700; clear A700
            by_cases c71 : t143 < 0
            ·rw [if_pos c71] at H
             have c71b0 : decide (t143 < 0) = true := decide_eq_true c71
             clear c71; have H' := Aside0.mk H; clear H
             try go_wp2
             have n0_ := Aside0.mk (Kd.R_drew HO_0.out)
             have n1_ := Aside0.mk (Kept.drew HK.out)
             have n2_ := Aside0.mk (below_drew1 HB.out)
             clear HO_0; clear HK; clear HB; have HO_0 := n0_; have HK := n1_; have HB := n2_; clear n0_ n1_ n2_; obtain ⟨Ao73, co73, eo73⟩ := Kd.R_slice HO_0.out
             (first | subst eo73 | (injection eo73 with f1_ f2_ f3_; have f4_ := f1_.symm; have f5_ := f3_.symm; clear f1_ f2_ f3_; subst f4_; subst f5_))
             have p141 : 0 ≤ ((ji65) : Int) := od_
             have q141 : (ji65) < (l0.length : Int) := od_
             obtain ⟨ad141, e141, hx141_0, hx141_1⟩ := at_T41 (Kd.R_reads' HO_0.out).2.2 (ji65) p141 q141
             cases e141; replace p141 := eq_true p141; replace q141 := eq_true q141
             have p142 : 0 ≤ ((ji64) : Int) := od_
             have q142 : (ji64) < (l0.length : Int) := od_
             obtain ⟨ad142, e142, hx142_0, hx142_1⟩ := at_T41 (Kd.R_reads' HO_0.out).2.2 (ji64) p142 q142
             obtain rfl : ad141 = ad142 := (by injection e142)
             replace p142 := eq_true p142; replace q142 := eq_true q142
             refine start_ (n := 14) (S := fun w' => w'.cell? (ad141.add (((ji65)).toNat * 2)) = some (.string ((rd_T41 l0 (ji65)).f0)) ∧ w'.cell? ⟨(ad141.add (((ji65)).toNat * 2)).block, (ad141.add (((ji65)).toNat * 2)).off + 1, none⟩ = some (.string ((rd_T41 l0 (ji65)).f1)) ∧ w'.cell? (ad141.add (((ji64)).toNat * 2)) = some (.string ((rd_T41 l0 (ji64)).f0)) ∧ w'.cell? ⟨(ad141.add (((ji64)).toNat * 2)).block, (ad141.add (((ji64)).toNat * 2)).off + 1, none⟩ = some (.string ((rd_T41 l0 (ji64)).f1))) (ds := []) (fst_ 14 0) (by kernel_rfl) rfl rfl ⟨hx141_0, hx141_1, hx142_0, hx142_1⟩ (fun hHeld => ?_); refine with_tabW api_Span_81.tab35 api_Span_81.bits35 (fun HT_ HW_ => ?_)
             generalize wr.drew = w72 at HO_0 HK HB hx141_0 hx141_1 hx142_0 hx142_1 hHeld ⊢
             iterate 6 (refine pk_ (v := ?_) (a' := ?_) HT_.out rfl rfl (by kernel_rfl) (fun _ _ _ h => h) (Or.inl ⟨by rfl, ?_⟩) ?_ ?_; rotate_left; (· intro w'; go_simp; with_reducible rfl); rotate_left; (· simp only [Act.put, List.setIfInBounds_toArray, List.set_cons_zero, List.set_cons_succ, i64_w, i32_w]; rfl))
             refine pure_ (i := 7) (N := some 165) (v := ?_) (a' := ?_) #[true, true, true, true, true, true, false, true, false, false, false, false, false, false] rfl rfl (any_of HT_.out (by kernel_rfl)) (fun _ _ _ h => h) (Or.inl ⟨by rfl, ?_⟩) ?_ ?_
             rotate_left
             ·intro w'
              go_simp
              with_reducible rfl
             rotate_left
             ·simp only [Act.put, List.setIfInBounds_toArray, List.set_cons_zero, List.set_cons_succ, i64_w, i32_w]
              rfl
             refine pure_ (i := 8) (N := some 166) (v := ?_) (a' := ?_) #[true, true, true, true, true, true, false, true, true, false, false, false, false, false] rfl rfl (any_of HT_.out (by kernel_rfl)) (fun _ _ _ h => h) (Or.inl ⟨by rfl, ?_⟩) ?_ ?_
             rotate_left
             ·intro w'
              go_simp
              with_reducible rfl
             rotate_left
             ·simp only [Act.put, List.setIfInBounds_toArray, List.set_cons_zero, List.set_cons_succ, i64_w, i32_w]
              rfl
             refine pure_ (i := 9) (N := some 167) (v := ?_) (a' := ?_) #[true, true, true, true, true, true, false, true, true, true, false, false, false, false] rfl rfl (any_of HT_.out (by kernel_rfl)) (fun _ _ _ h => h) (Or.inl ⟨by rfl, ?_⟩) ?_ ?_
             rotate_left
             ·intro w'
              go_simp
              with_reducible rfl
             rotate_left
             ·simp only [Act.put, List.setIfInBounds_toArray, List.set_cons_zero, List.set_cons_succ, i64_w, i32_w]
              rfl
             refine take_ (i := 6) (N := some 164) (v := ?_) (a' := ?_) (fst_ 14 10) rfl rfl (take_ofW HT_.out HW_.out (by kernel_rfl)) (fun _ _ _ h => h) (Or.inl ⟨by rfl, ?_⟩) hHeld ?_ ?_
             rotate_left
             ·rintro w' ⟨s0, s1, s2, s3⟩
              go_simp
              with_reducible rfl
             rotate_left
             ·simp only [Act.put, List.setIfInBounds_toArray, List.set_cons_zero, List.set_cons_succ, i64_w, i32_w]
              rfl
             refine tk_ (v := ?_) (a' := ?_) HT_.out HW_.out rfl rfl (by kernel_rfl) (fun _ _ _ h => h) (Or.inl ⟨by rfl, ?_⟩) hHeld ?_ ?_
             rotate_left
             ·rintro w' ⟨s0, s1, s2, s3⟩
              go_simp
              with_reducible rfl
             rotate_left
             ·simp only [Act.put, List.setIfInBounds_toArray, List.set_cons_zero, List.set_cons_succ, i64_w, i32_w]
              rfl
             refine one_ (i := 11) (N := some 169) (fst_ 14 12) rfl rfl (one_of HT_.out (by kernel_rfl)) (by decide) (fun K hK => ?_)
             refine goesc_ Try.func62 (by kernel_rfl) rfl #[.agg #[.string ((rd_T41 l0 (ji65)).f0), .string ((rd_T41 l0 (ji65)).f1)], .agg #[.string ((rd_T41 l0 (ji64)).f0), .string ((rd_T41 l0 (ji64)).f1)]] (by rfl) rfl rfl rfl (by (try simp only [List.map_toArray, List.map_cons, List.map_nil]); first | done | (simp only [hji64, hji65]; rfl) | rfl | (simp only [List.length_drop, List.length_take]; rfl)) ?_
             with_reducible refine (span_Join_2.calls ((rd_T41 l0 (ji65)).f0) ((rd_T41 l0 (ji65)).f1) ((rd_T41 l0 (ji64)).f0) ((rd_T41 l0 (ji64)).f1) t143 _ A70.out).mono ?_
             rintro e w74 ⟨rfl, hb⟩
             have HS0_ := (hb.cell (World.block_lt_of_cell? _ _ (hHeld.1))).trans (hHeld.1)
             have HS1_ := (hb.cell (World.block_lt_of_cell? _ _ (hHeld.2.1))).trans (hHeld.2.1)
             have HS2_ := (hb.cell (World.block_lt_of_cell? _ _ (hHeld.2.2.1))).trans (hHeld.2.2.1)
             have HS3_ := (hb.cell (World.block_lt_of_cell? _ _ (hHeld.2.2.2))).trans (hHeld.2.2.2)
             refine ⟨_, rfl, ?_⟩
             have n0_ := Aside0.mk (Kd.R_below (by exact HO_0.out) hb)
             have n1_ := Aside0.mk (Kept.below (S := (fun k_ => P0_ k_)) (by repeat (first | (with_reducible first | exact HK.out | apply Kept.alloc | apply Kept.drewN | apply Kept.drew) | exact HK.out)) hb)
             have n2_ := Aside0.mk (below_step bl_ hb)
             clear HO_0; clear HK; clear HB; have HO_0 := n0_; have HK := n1_; have HB := n2_; clear n0_ n1_ n2_
             (try clear hb)
             (try clear hb2)
             (try clear hk)
             (try clear hi)
             refine hK.out _ _ ⟨HS0_, HS1_, HS2_, HS3_⟩ (fun hHeld => ?_)
             clear hK K; refine norm_ (a' := ?_) ?_ ?_; rotate_left
             ·show Act.put _ (some 169) _ = _
              simp only [Act.put, List.setIfInBounds_toArray, List.set_cons_zero, List.set_cons_succ, i64_w, i32_w]
              rfl
             iterate 2 (refine pk_ (v := ?_) (a' := ?_) HT_.out rfl rfl (by kernel_rfl) (fun _ _ _ h => h) (Or.inl ⟨by rfl, ?_⟩) ?_ ?_; rotate_left; (· intro w'; go_simp; with_reducible rfl); rotate_left; (· simp only [Act.put, List.setIfInBounds_toArray, List.set_cons_zero, List.set_cons_succ, i64_w, i32_w]; rfl))
             refine done_ (done_of HT_.out (by kernel_rfl)) ?_
             try go_wp2
             go_roundg k2
             case measure => have := HJ60.out; have := HK2.out; omega
             case rel => exact ⟨(x20_2), (ji64), (by first | rfl | (simp; done) | (simp [*]; done)), (by first | rfl | (simp; done) | (simp only [← hji64] <;> (first | rfl | simp)) | (simp [*]; done)), H', ⟨by have := HJ60.out; have := HK2.out; omega⟩, ⟨by exact HO_0.out⟩, ⟨by repeat (first | (with_reducible first | exact HK.out | apply Kept.alloc | apply Kept.drewN | apply Kept.drew) | exact HK.out)⟩, ⟨bl_⟩⟩
            ·rw [if_neg c71] at H
             have c71b0 : decide (t143 < 0) = false := decide_eq_false c71
             clear c71; have H' := Aside0.mk H; clear H
             try go_wp2
             have n0_ := Aside0.mk (Kd.R_drew HO_0.out)
             have n1_ := Aside0.mk (Kept.drew HK.out)
             have n2_ := Aside0.mk (below_drew1 HB.out)
             clear HO_0; clear HK; clear HB; have HO_0 := n0_; have HK := n1_; have HB := n2_; clear n0_ n1_ n2_; obtain ⟨Ao76, co76, eo76⟩ := Kd.R_slice HO_0.out
             (first | subst eo76 | (injection eo76 with f1_ f2_ f3_; have f4_ := f1_.symm; have f5_ := f3_.symm; clear f1_ f2_ f3_; subst f4_; subst f5_))
             have p141 : 0 ≤ ((ji65) : Int) := od_
             have q141 : (ji65) < (l0.length : Int) := od_
             obtain ⟨ad141, e141, hx141_0, hx141_1⟩ := at_T41 (Kd.R_reads' HO_0.out).2.2 (ji65) p141 q141
             cases e141; replace p141 := eq_true p141; replace q141 := eq_true q141
             have p142 : 0 ≤ ((ji64) : Int) := od_
             have q142 : (ji64) < (l0.length : Int) := od_
             obtain ⟨ad142, e142, hx142_0, hx142_1⟩ := at_T41 (Kd.R_reads' HO_0.out).2.2 (ji64) p142 q142
             obtain rfl : ad141 = ad142 := (by injection e142)
             replace p142 := eq_true p142; replace q142 := eq_true q142
             refine start_ (n := 14) (S := fun w' => w'.cell? (ad141.add (((ji65)).toNat * 2)) = some (.string ((rd_T41 l0 (ji65)).f0)) ∧ w'.cell? ⟨(ad141.add (((ji65)).toNat * 2)).block, (ad141.add (((ji65)).toNat * 2)).off + 1, none⟩ = some (.string ((rd_T41 l0 (ji65)).f1)) ∧ w'.cell? (ad141.add (((ji64)).toNat * 2)) = some (.string ((rd_T41 l0 (ji64)).f0)) ∧ w'.cell? ⟨(ad141.add (((ji64)).toNat * 2)).block, (ad141.add (((ji64)).toNat * 2)).off + 1, none⟩ = some (.string ((rd_T41 l0 (ji64)).f1))) (ds := []) (fst_ 14 0) (by kernel_rfl) rfl rfl ⟨hx141_0, hx141_1, hx142_0, hx142_1⟩ (fun hHeld => ?_); refine with_tabW api_Span_81.tab35 api_Span_81.bits35 (fun HT_ HW_ => ?_)
             generalize wr.drew = w75 at HO_0 HK HB hx141_0 hx141_1 hx142_0 hx142_1 hHeld ⊢
             iterate 6 (refine pk_ (v := ?_) (a' := ?_) HT_.out rfl rfl (by kernel_rfl) (fun _ _ _ h => h) (Or.inl ⟨by rfl, ?_⟩) ?_ ?_; rotate_left; (· intro w'; go_simp; with_reducible rfl); rotate_left; (· simp only [Act.put, List.setIfInBounds_toArray, List.set_cons_zero, List.set_cons_succ, i64_w, i32_w]; rfl))
             refine pure_ (i := 7) (N := some 165) (v := ?_) (a' := ?_) #[true, true, true, true, true, true, false, true, false, false, false, false, false, false] rfl rfl (any_of HT_.out (by kernel_rfl)) (fun _ _ _ h => h) (Or.inl ⟨by rfl, ?_⟩) ?_ ?_
             rotate_left
             ·intro w'
              go_simp
              with_reducible rfl
             rotate_left
             ·simp only [Act.put, List.setIfInBounds_toArray, List.set_cons_zero, List.set_cons_succ, i64_w, i32_w]
              rfl
             refine pure_ (i := 8) (N := some 166) (v := ?_) (a' := ?_) #[true, true, true, true, true, true, false, true, true, false, false, false, false, false] rfl rfl (any_of HT_.out (by kernel_rfl)) (fun _ _ _ h => h) (Or.inl ⟨by rfl, ?_⟩) ?_ ?_
             rotate_left
             ·intro w'
              go_simp
              with_reducible rfl
             rotate_left
             ·simp only [Act.put, List.setIfInBounds_toArray, List.set_cons_zero, List.set_cons_succ, i64_w, i32_w]
              rfl
             refine pure_ (i := 9) (N := some 167) (v := ?_) (a' := ?_) #[true, true, true, true, true, true, false, true, true, true, false, false, false, false] rfl rfl (any_of HT_.out (by kernel_rfl)) (fun _ _ _ h => h) (Or.inl ⟨by rfl, ?_⟩) ?_ ?_
             rotate_left
             ·intro w'
              go_simp
              with_reducible rfl
             rotate_left
             ·simp only [Act.put, List.setIfInBounds_toArray, List.set_cons_zero, List.set_cons_succ, i64_w, i32_w]
              rfl
             refine take_ (i := 6) (N := some 164) (v := ?_) (a' := ?_) (fst_ 14 10) rfl rfl (take_ofW HT_.out HW_.out (by kernel_rfl)) (fun _ _ _ h => h) (Or.inl ⟨by rfl, ?_⟩) hHeld ?_ ?_
             rotate_left
             ·rintro w' ⟨s0, s1, s2, s3⟩
              go_simp
              with_reducible rfl
             rotate_left
             ·simp only [Act.put, List.setIfInBounds_toArray, List.set_cons_zero, List.set_cons_succ, i64_w, i32_w]
              rfl
             refine tk_ (v := ?_) (a' := ?_) HT_.out HW_.out rfl rfl (by kernel_rfl) (fun _ _ _ h => h) (Or.inl ⟨by rfl, ?_⟩) hHeld ?_ ?_
             rotate_left
             ·rintro w' ⟨s0, s1, s2, s3⟩
              go_simp
              with_reducible rfl
             rotate_left
             ·simp only [Act.put, List.setIfInBounds_toArray, List.set_cons_zero, List.set_cons_succ, i64_w, i32_w]
              rfl
             refine one_ (i := 11) (N := some 169) (fst_ 14 12) rfl rfl (one_of HT_.out (by kernel_rfl)) (by decide) (fun K hK => ?_)
             refine goesc_ Try.func62 (by kernel_rfl) rfl #[.agg #[.string ((rd_T41 l0 (ji65)).f0), .string ((rd_T41 l0 (ji65)).f1)], .agg #[.string ((rd_T41 l0 (ji64)).f0), .string ((rd_T41 l0 (ji64)).f1)]] (by rfl) rfl rfl rfl (by (try simp only [List.map_toArray, List.map_cons, List.map_nil]); first | done | (simp only [hji64, hji65]; rfl) | rfl | (simp only [List.length_drop, List.length_take]; rfl)) ?_
             with_reducible refine (span_Join_2.calls ((rd_T41 l0 (ji65)).f0) ((rd_T41 l0 (ji65)).f1) ((rd_T41 l0 (ji64)).f0) ((rd_T41 l0 (ji64)).f1) t143 _ A70.out).mono ?_
             rintro e w77 ⟨rfl, hb⟩
             have HS0_ := (hb.cell (World.block_lt_of_cell? _ _ (hHeld.1))).trans (hHeld.1)
             have HS1_ := (hb.cell (World.block_lt_of_cell? _ _ (hHeld.2.1))).trans (hHeld.2.1)
             have HS2_ := (hb.cell (World.block_lt_of_cell? _ _ (hHeld.2.2.1))).trans (hHeld.2.2.1)
             have HS3_ := (hb.cell (World.block_lt_of_cell? _ _ (hHeld.2.2.2))).trans (hHeld.2.2.2)
             refine ⟨_, rfl, ?_⟩
             have n0_ := Aside0.mk (Kd.R_below (by exact HO_0.out) hb)
             have n1_ := Aside0.mk (Kept.below (S := (fun k_ => P0_ k_)) (by repeat (first | (with_reducible first | exact HK.out | apply Kept.alloc | apply Kept.drewN | apply Kept.drew) | exact HK.out)) hb)
             have n2_ := Aside0.mk (below_step bl_ hb)
             clear HO_0; clear HK; clear HB; have HO_0 := n0_; have HK := n1_; have HB := n2_; clear n0_ n1_ n2_
             (try clear hb)
             (try clear hb2)
             (try clear hk)
             (try clear hi)
             refine hK.out _ _ ⟨HS0_, HS1_, HS2_, HS3_⟩ (fun hHeld => ?_)
             clear hK K; refine norm_ (a' := ?_) ?_ ?_; rotate_left
             ·show Act.put _ (some 169) _ = _
              simp only [Act.put, List.setIfInBounds_toArray, List.set_cons_zero, List.set_cons_succ, i64_w, i32_w]
              rfl
             iterate 2 (refine pk_ (v := ?_) (a' := ?_) HT_.out rfl rfl (by kernel_rfl) (fun _ _ _ h => h) (Or.inl ⟨by rfl, ?_⟩) ?_ ?_; rotate_left; (· intro w'; go_simp; with_reducible rfl); rotate_left; (· simp only [Act.put, List.setIfInBounds_toArray, List.set_cons_zero, List.set_cons_succ, i64_w, i32_w]; rfl))
             refine done_ (done_of HT_.out (by kernel_rfl)) ?_
             try go_wp2
             go_roundg k2
             case measure => have := HJ60.out; have := HK2.out; omega
             case rel => exact ⟨(wrap64 ((ji64) + 1)), (x21_2), (by first | rfl | (simp; done) | (simp only [← hji64] <;> (first | rfl | simp)) | (simp [*]; done)), (by first | rfl | (simp; done) | (simp [*]; done)), H', ⟨by have := HJ60.out; have := HK2.out; omega⟩, ⟨by exact HO_0.out⟩, ⟨by repeat (first | (with_reducible first | exact HK.out | apply Kept.alloc | apply Kept.drewN | apply Kept.drew) | exact HK.out)⟩, ⟨bl_⟩⟩
           ·rw [if_neg c69] at H
            exact absurd H (by simp)
          ·rw [if_neg c68] at H
           exact absurd H (by simp)
         ·rw [if_neg c67] at H
          exact absurd H (by simp)
        ·rw [if_neg c66] at H
         exact absurd H (by simp)
       ·rw [if_neg c63] at H
        have c63b0 : decide (x20_2 < x21_2) = false := decide_eq_false c63
        clear c63; have HC78 := Aside0.mk H; clear H
        go_upto_region 39 with (fail)
        go_cut [185] (fun v185 wc => ∃ (kq : Nat) (x185_77 : Bool), v185 = .bool x185_77 ∧ Aside0 (api_Span_81.j6 kq l0 a1 a2 a3 ji60 x20_2 (wrap64 ((wrap64 ((ji60) + a2)) - x20_2)) x185_77 = some r) ∧ Aside0 (kq ≤ k2) ∧ Aside0 (Kd.R k41 41 wc w0.heap.size (fun k_ => (P0_ k_ ∨ w.heap.size ≤ k_)) u9000_ l0) ∧ Aside0 (Kept w wc (fun k_ => P0_ k_)) ∧ Aside0 (Below w0.heap.size w0 wc))
        case first =>
         have H := HC78.out
         clear HC78
         by_cases c79 : x20_2 < a2
         ·rw [if_pos c79] at H
          have c79b0 : decide (x20_2 < a2) = true := decide_eq_true c79
          clear c79
          (first | rw [c79b0] | (simp only [i64_w, i32_w]; rw [c79b0]) | skip)
          have H' := Aside0.mk H; clear H
          go_wp2
          go_meet
          case rel => exact ⟨_, (decide (a2 < (wrap64 ((wrap64 ((ji60) + a2)) - x20_2)))), (by first | rfl | (simp; done) | (simp only [← hji60] <;> (first | rfl | simp)) | (simp [*]; done)), H', ⟨by have := HJ60.out; have := HK2.out; first | omega | exact Nat.le_refl _⟩, ⟨by exact HO_0.out⟩, ⟨by repeat (first | (with_reducible first | exact HK.out | apply Kept.alloc | apply Kept.drewN | apply Kept.drew) | exact HK.out)⟩, ⟨bl_⟩⟩
         ·rw [if_neg c79] at H
          have c79b0 : decide (x20_2 < a2) = false := decide_eq_false c79
          clear c79
          (first | rw [c79b0] | (simp only [i64_w, i32_w]; rw [c79b0]) | skip)
          have H' := Aside0.mk H; clear H
          go_wp2
          go_meet
          case rel => exact ⟨_, (false), (by first | rfl | (simp; done) | (simp [*]; done)), H', ⟨by have := HJ60.out; have := HK2.out; first | omega | exact Nat.le_refl _⟩, ⟨by exact HO_0.out⟩, ⟨by repeat (first | (with_reducible first | exact HK.out | apply Kept.alloc | apply Kept.drewN | apply Kept.drew) | exact HK.out)⟩, ⟨bl_⟩⟩
        case rest =>
         clear HC78; obtain ⟨kq, x185_77, rfl, HA, HJ77, HO_0, HK, HB⟩ := hcut
         cases kq with
         | zero => exact absurd HA.out (by simp [api_Span_81.j6])
         | succ kj77 =>
          have H := HA.out
          clear HA
          simp only [api_Span_81.j6] at H
          have HC80 := Aside0.mk H; clear H
          go_upto_if 185 with (fail)
          go_cut [] (fun wc => ∃ (kq : Nat) (x0_79 : List (S41)), Aside0 (api_Span_81.j7 kq x0_79 a1 a3 ji60 x20_2 (wrap64 ((wrap64 ((ji60) + a2)) - x20_2)) = some r) ∧ Aside0 (kq ≤ kj77) ∧ Aside0 (Kd.R k41 41 wc w0.heap.size (fun k_ => (P0_ k_ ∨ w.heap.size ≤ k_)) u9000_ x0_79) ∧ Aside0 (Kept w wc (fun k_ => P0_ k_)) ∧ Aside0 (Below w0.heap.size w0 wc))
          case first =>
           have H := HC80.out
           clear HC80
           by_cases c81 : x185_77 = true
           ·subst c81
            have H1 : ((api_Span_83.f kj77 l0 x20_2 a2 (wrap64 ((wrap64 ((ji60) + a2)) - x20_2))).bind fun t144 => (api_Span_81.j7 kj77 t144 a1 a3 ji60 x20_2 (wrap64 ((wrap64 ((ji60) + a2)) - x20_2)))) = some r := by rw [if_pos rfl] at H; exact H
            clear H; have H := H1; clear H1; replace H := Option.bind_eq_some_iff.mp H; obtain ⟨t144, A820, H⟩ := H
            replace H : (api_Span_81.j7 kj77 t144 a1 a3 ji60 x20_2 (wrap64 ((wrap64 ((ji60) + a2)) - x20_2))) = some r := H
            have A82 := Aside0.mk A820; clear A820; have H' := Aside0.mk H; clear H; obtain ⟨Ao83, co83, eo83⟩ := Kd.R_slice HO_0.out; subst eo83
            go_wp2_with (first | ((with_reducible refine gate_callee (f := 83) rfl ?_); refine goesL_ (some 191) rfl rfl Try.func83 (by kernel_rfl) rfl #[.slice Ao83 l0.length co83, .int .i64 x20_2, .int .i64 a2, .int .i64 (wrap64 ((wrap64 ((ji60) + a2)) - x20_2)), .func (.func 62) #[] #[]] rfl (by (try simp only [List.map_toArray, List.map_cons, List.map_nil]); first | done | (simp only [hji60]; rfl) | rfl | (simp only [List.length_drop, List.length_take]; rfl)) ?_; (with_reducible refine (api_Span_83.calls kj77 (fun k_ => some k_ = (.slice Ao83 l0.length co83 : Value).ownBlock) (.slice Ao83 l0.length co83) l0 x20_2 a2 (wrap64 ((wrap64 ((ji60) + a2)) - x20_2))  t144 w0 _ ?side1 ?side2 A82.out).mono ?_); (case side1 => repeat (first | (with_reducible first | exact HB.out | apply below_alloc | apply pw_below_drewN | apply below_drew1) | exact HB.out)); (case side2 => exact Kd.R_tight rfl HO_0.out); rintro e w84 ⟨rfl, hy0, hb, hkp⟩; refine ⟨_, rfl, ?_⟩; have n0_ := Aside0.mk (Kd.R_reok rfl hy0 (fun k_ e_ => HO_0.out.1 k_ e_)); have n1_ := Aside0.mk (Kept.then_ (S := (fun k_ => P0_ k_)) (by repeat (first | (with_reducible first | exact HK.out | apply Kept.alloc | apply Kept.drewN | apply Kept.drew) | exact HK.out)) hkp (fun k_ hs_ => (fun e_ => (HO_0.out.1 k_ e_.symm)) hs_)); have n2_ := Aside0.mk (hb); clear HO_0; clear HK; clear HB; have HO_0 := n0_; have HK := n1_; have HB := n2_; clear n0_ n1_ n2_; (try clear hb); (try clear hkp); (try clear hy0)))
            go_meet
            case rel => exact ⟨_, (t144), H', ⟨by have := HJ60.out; have := HK2.out; have := HJ77.out; first | omega | exact Nat.le_refl _⟩, ⟨by exact HO_0.out⟩, ⟨by repeat (first | (with_reducible first | exact HK.out | apply Kept.alloc | apply Kept.drewN | apply Kept.drew) | exact HK.out)⟩, ⟨bl_⟩⟩
           ·replace c81 := Bool.eq_false_iff.mpr c81
            subst c81
            have H1 : (api_Span_81.j7 kj77 l0 a1 a3 ji60 x20_2 (wrap64 ((wrap64 ((ji60) + a2)) - x20_2))) = some r := by rw [if_neg (show ¬ (false = true) by decide)] at H; exact H
            clear H; have H := H1; clear H1; have H' := Aside0.mk H; clear H
            go_wp2
            go_meet
            case rel => exact ⟨_, (l0), H', ⟨by have := HJ60.out; have := HK2.out; have := HJ77.out; first | omega | exact Nat.le_refl _⟩, ⟨by exact HO_0.out⟩, ⟨by repeat (first | (with_reducible first | exact HK.out | apply Kept.alloc | apply Kept.drewN | apply Kept.drew) | exact HK.out)⟩, ⟨bl_⟩⟩
          case rest =>
           clear HC80; obtain ⟨kq, x0_79, HA, HJ79, HO_0, HK, HB⟩ := hcut
           cases kq with
           | zero => exact absurd HA.out (by simp [api_Span_81.j7])
           | succ kj79 =>
            have H := HA.out
            clear HA
            simp only [api_Span_81.j7] at H
            have HC85 := Aside0.mk H; clear H
            go_upto_region 41 with (fail)
            go_cut [199] (fun v199 wc => ∃ (kq : Nat) (x199_84 : Bool), v199 = .bool x199_84 ∧ Aside0 (api_Span_81.j8 kq x0_79 a1 a3 ji60 x20_2 (wrap64 ((wrap64 ((ji60) + a2)) - x20_2)) x199_84 = some r) ∧ Aside0 (kq ≤ kj79) ∧ Aside0 (Kd.R k41 41 wc w0.heap.size (fun k_ => (P0_ k_ ∨ w.heap.size ≤ k_)) u9000_ x0_79) ∧ Aside0 (Kept w wc (fun k_ => P0_ k_)) ∧ Aside0 (Below w0.heap.size w0 wc))
            case first =>
             have H := HC85.out
             clear HC85
             by_cases c86 : a1 < x20_2
             ·rw [if_pos c86] at H
              have c86b0 : decide (a1 < x20_2) = true := decide_eq_true c86
              clear c86
              (first | rw [c86b0] | (simp only [i64_w, i32_w]; rw [c86b0]) | skip)
              have H' := Aside0.mk H; clear H
              go_wp2
              go_meet
              case rel => exact ⟨_, (decide (x20_2 < ji60)), (by first | rfl | (simp; done) | (simp only [← hji60] <;> (first | rfl | simp)) | (simp [*]; done)), H', ⟨by have := HJ60.out; have := HK2.out; have := HJ77.out; have := HJ79.out; first | omega | exact Nat.le_refl _⟩, ⟨by exact HO_0.out⟩, ⟨by repeat (first | (with_reducible first | exact HK.out | apply Kept.alloc | apply Kept.drewN | apply Kept.drew) | exact HK.out)⟩, ⟨bl_⟩⟩
             ·rw [if_neg c86] at H
              have c86b0 : decide (a1 < x20_2) = false := decide_eq_false c86
              clear c86
              (first | rw [c86b0] | (simp only [i64_w, i32_w]; rw [c86b0]) | skip)
              have H' := Aside0.mk H; clear H
              go_wp2
              go_meet
              case rel => exact ⟨_, (false), (by first | rfl | (simp; done) | (simp [*]; done)), H', ⟨by have := HJ60.out; have := HK2.out; have := HJ77.out; have := HJ79.out; first | omega | exact Nat.le_refl _⟩, ⟨by exact HO_0.out⟩, ⟨by repeat (first | (with_reducible first | exact HK.out | apply Kept.alloc | apply Kept.drewN | apply Kept.drew) | exact HK.out)⟩, ⟨bl_⟩⟩
            case rest =>
             clear HC85; obtain ⟨kq, x199_84, rfl, HA, HJ84, HO_0, HK, HB⟩ := hcut
             cases kq with
             | zero => exact absurd HA.out (by simp [api_Span_81.j8])
             | succ kj84 =>
              have H := HA.out
              clear HA
              simp only [api_Span_81.j8] at H
              by_cases c87 : x199_84 = true
              ·subst c87
               have H1 : ((api_Span_81.f kj84 x0_79 a1 x20_2 ji60).bind fun t145 => (if ji60 < (wrap64 ((wrap64 ((ji60) + a2)) - x20_2)) then (if (wrap64 ((wrap64 ((ji60) + a2)) - x20_2)) < a3 then ((api_Span_81.f kj84 t145 ji60 (wrap64 ((wrap64 ((ji60) + a2)) - x20_2)) a3).bind fun t146 => (some t146)) else (some t145)) else (some t145))) = some r := by rw [if_pos rfl] at H; exact H
               clear H; have H := H1; clear H1; replace H := Option.bind_eq_some_iff.mp H; obtain ⟨t145, A880, H⟩ := H
               replace H : (if ji60 < (wrap64 ((wrap64 ((ji60) + a2)) - x20_2)) then (if (wrap64 ((wrap64 ((ji60) + a2)) - x20_2)) < a3 then ((api_Span_81.f kj84 t145 ji60 (wrap64 ((wrap64 ((ji60) + a2)) - x20_2)) a3).bind fun t146 => (some t146)) else (some t145)) else (some t145)) = some r := H
               have A88 := Aside0.mk A880; clear A880
               by_cases c89 : ji60 < (wrap64 ((wrap64 ((ji60) + a2)) - x20_2))
               ·rw [if_pos c89] at H
                have c89b0 : decide (ji60 < (wrap64 ((wrap64 ((ji60) + a2)) - x20_2))) = true := decide_eq_true c89
                clear c89
                by_cases c90 : (wrap64 ((wrap64 ((ji60) + a2)) - x20_2)) < a3
                ·rw [if_pos c90] at H
                 have c90b0 : decide ((wrap64 ((wrap64 ((ji60) + a2)) - x20_2)) < a3) = true := decide_eq_true c90
                 clear c90; replace H := Option.bind_eq_some_iff.mp H; obtain ⟨t146, A910, H⟩ := H
                 replace H : (some t146) = some r := H
                 have A91 := Aside0.mk A910; clear A910; obtain rfl := Option.some.inj H; obtain ⟨Ao92, co92, eo92⟩ := Kd.R_slice HO_0.out; subst eo92
                 go_wp2_with (first | ((with_reducible refine gate_callee (f := 81) rfl ?_); refine goesL_ (some 205) rfl rfl Try.func81 (by kernel_rfl) rfl #[.slice Ao92 x0_79.length co92, .int .i64 a1, .int .i64 x20_2, .int .i64 ji60, .func (.func 62) #[] #[]] rfl (by (try simp only [List.map_toArray, List.map_cons, List.map_nil]); first | done | (simp only [hji60]; rfl) | rfl | (simp only [List.length_drop, List.length_take]; rfl)) ?_; (with_reducible refine (ih kj84 (by have := HJ60.out; have := HK2.out; have := HJ77.out; have := HJ79.out; have := HJ84.out; omega) (fun k_ => some k_ = (.slice Ao92 x0_79.length co92 : Value).ownBlock) (.slice Ao92 x0_79.length co92) x0_79 a1 x20_2 ji60  t145 w0 _ ?side1 ?side2 A88.out).mono ?_); (case side1 => repeat (first | (with_reducible first | exact HB.out | apply below_alloc | apply pw_below_drewN | apply below_drew1) | exact HB.out)); (case side2 => exact Kd.R_tight rfl HO_0.out); rintro e w93 ⟨rfl, hy0, hb, hkp⟩; refine ⟨_, rfl, ?_⟩; have n0_ := Aside0.mk (Kd.R_reok rfl hy0 (fun k_ e_ => HO_0.out.1 k_ e_)); have n1_ := Aside0.mk (Kept.then_ (S := (fun k_ => P0_ k_)) (by repeat (first | (with_reducible first | exact HK.out | apply Kept.alloc | apply Kept.drewN | apply Kept.drew) | exact HK.out)) hkp (fun k_ hs_ => (fun e_ => (HO_0.out.1 k_ e_.symm)) hs_)); have n2_ := Aside0.mk (hb); clear HO_0; clear HK; clear HB; have HO_0 := n0_; have HK := n1_; have HB := n2_; clear n0_ n1_ n2_; (try clear hb); (try clear hkp); (try clear hy0)) | ((with_reducible refine gate_callee (f := 81) rfl ?_); refine goesL_ (some 219) rfl rfl Try.func81 (by kernel_rfl) rfl #[.slice Ao92 x0_79.length co92, .int .i64 ji60, .int .i64 (wrap64 ((wrap64 ((ji60) + a2)) - x20_2)), .int .i64 a3, .func (.func 62) #[] #[]] rfl (by (try simp only [List.map_toArray, List.map_cons, List.map_nil]); first | done | (simp only [hji60]; rfl) | rfl | (simp only [List.length_drop, List.length_take]; rfl)) ?_; (with_reducible refine (ih kj84 (by have := HJ60.out; have := HK2.out; have := HJ77.out; have := HJ79.out; have := HJ84.out; omega) (fun k_ => some k_ = (.slice Ao92 x0_79.length co92 : Value).ownBlock) (.slice Ao92 x0_79.length co92) t145 ji60 (wrap64 ((wrap64 ((ji60) + a2)) - x20_2)) a3  t146 w0 _ ?side1 ?side2 A91.out).mono ?_); (case side1 => repeat (first | (with_reducible first | exact HB.out | apply below_alloc | apply pw_below_drewN | apply below_drew1) | exact HB.out)); (case side2 => exact Kd.R_tight rfl HO_0.out); rintro e w94 ⟨rfl, hy0, hb, hkp⟩; refine ⟨_, rfl, ?_⟩; have n0_ := Aside0.mk (Kd.R_reok rfl hy0 (fun k_ e_ => HO_0.out.1 k_ e_)); have n1_ := Aside0.mk (Kept.then_ (S := (fun k_ => P0_ k_)) (by repeat (first | (with_reducible first | exact HK.out | apply Kept.alloc | apply Kept.drewN | apply Kept.drew) | exact HK.out)) hkp (fun k_ hs_ => (fun e_ => (HO_0.out.1 k_ e_.symm)) hs_)); have n2_ := Aside0.mk (hb); clear HO_0; clear HK; clear HB; have HO_0 := n0_; have HK := n1_; have HB := n2_; clear n0_ n1_ n2_; (try clear hb); (try clear hkp); (try clear hy0)))
                 first | go_end0 | ((try simp only [Exit.inBlock, Exit.then]); refine bodyPost_ret (results_none rfl _ _ _) rfl ?_)
                 exact ⟨by first | rfl | (simp [errW_none, errW_some] <;> rfl) | (simp only [← hji60]; first | rfl | (simp [errW_none, errW_some] <;> rfl)) | (simp [*, errW_none, errW_some] <;> rfl), by exact HO_0.out, bl_, by repeat (first | (with_reducible first | exact HK.out | apply Kept.alloc | apply Kept.drewN | apply Kept.drew) | exact HK.out)⟩
                ·rw [if_neg c90] at H
                 have c90b0 : decide ((wrap64 ((wrap64 ((ji60) + a2)) - x20_2)) < a3) = false := decide_eq_false c90
                 clear c90; obtain rfl := Option.some.inj H; obtain ⟨Ao95, co95, eo95⟩ := Kd.R_slice HO_0.out; subst eo95
                 go_wp2_with (first | ((with_reducible refine gate_callee (f := 81) rfl ?_); refine goesL_ (some 205) rfl rfl Try.func81 (by kernel_rfl) rfl #[.slice Ao95 x0_79.length co95, .int .i64 a1, .int .i64 x20_2, .int .i64 ji60, .func (.func 62) #[] #[]] rfl (by (try simp only [List.map_toArray, List.map_cons, List.map_nil]); first | done | (simp only [hji60]; rfl) | rfl | (simp only [List.length_drop, List.length_take]; rfl)) ?_; (with_reducible refine (ih kj84 (by have := HJ60.out; have := HK2.out; have := HJ77.out; have := HJ79.out; have := HJ84.out; omega) (fun k_ => some k_ = (.slice Ao95 x0_79.length co95 : Value).ownBlock) (.slice Ao95 x0_79.length co95) x0_79 a1 x20_2 ji60  t145 w0 _ ?side1 ?side2 A88.out).mono ?_); (case side1 => repeat (first | (with_reducible first | exact HB.out | apply below_alloc | apply pw_below_drewN | apply below_drew1) | exact HB.out)); (case side2 => exact Kd.R_tight rfl HO_0.out); rintro e w96 ⟨rfl, hy0, hb, hkp⟩; refine ⟨_, rfl, ?_⟩; have n0_ := Aside0.mk (Kd.R_reok rfl hy0 (fun k_ e_ => HO_0.out.1 k_ e_)); have n1_ := Aside0.mk (Kept.then_ (S := (fun k_ => P0_ k_)) (by repeat (first | (with_reducible first | exact HK.out | apply Kept.alloc | apply Kept.drewN | apply Kept.drew) | exact HK.out)) hkp (fun k_ hs_ => (fun e_ => (HO_0.out.1 k_ e_.symm)) hs_)); have n2_ := Aside0.mk (hb); clear HO_0; clear HK; clear HB; have HO_0 := n0_; have HK := n1_; have HB := n2_; clear n0_ n1_ n2_; (try clear hb); (try clear hkp); (try clear hy0)))
                 first | go_end0 | ((try simp only [Exit.inBlock, Exit.then]); refine bodyPost_ret (results_none rfl _ _ _) rfl ?_)
                 exact ⟨by first | rfl | (simp [errW_none, errW_some] <;> rfl) | (simp only [← hji60]; first | rfl | (simp [errW_none, errW_some] <;> rfl)) | (simp [*, errW_none, errW_some] <;> rfl), by exact HO_0.out, bl_, by repeat (first | (with_reducible first | exact HK.out | apply Kept.alloc | apply Kept.drewN | apply Kept.drew) | exact HK.out)⟩
               ·rw [if_neg c89] at H
                have c89b0 : decide (ji60 < (wrap64 ((wrap64 ((ji60) + a2)) - x20_2))) = false := decide_eq_false c89
                clear c89; obtain rfl := Option.some.inj H; obtain ⟨Ao97, co97, eo97⟩ := Kd.R_slice HO_0.out; subst eo97
                go_wp2_with (first | ((with_reducible refine gate_callee (f := 81) rfl ?_); refine goesL_ (some 205) rfl rfl Try.func81 (by kernel_rfl) rfl #[.slice Ao97 x0_79.length co97, .int .i64 a1, .int .i64 x20_2, .int .i64 ji60, .func (.func 62) #[] #[]] rfl (by (try simp only [List.map_toArray, List.map_cons, List.map_nil]); first | done | (simp only [hji60]; rfl) | rfl | (simp only [List.length_drop, List.length_take]; rfl)) ?_; (with_reducible refine (ih kj84 (by have := HJ60.out; have := HK2.out; have := HJ77.out; have := HJ79.out; have := HJ84.out; omega) (fun k_ => some k_ = (.slice Ao97 x0_79.length co97 : Value).ownBlock) (.slice Ao97 x0_79.length co97) x0_79 a1 x20_2 ji60  t145 w0 _ ?side1 ?side2 A88.out).mono ?_); (case side1 => repeat (first | (with_reducible first | exact HB.out | apply below_alloc | apply pw_below_drewN | apply below_drew1) | exact HB.out)); (case side2 => exact Kd.R_tight rfl HO_0.out); rintro e w98 ⟨rfl, hy0, hb, hkp⟩; refine ⟨_, rfl, ?_⟩; have n0_ := Aside0.mk (Kd.R_reok rfl hy0 (fun k_ e_ => HO_0.out.1 k_ e_)); have n1_ := Aside0.mk (Kept.then_ (S := (fun k_ => P0_ k_)) (by repeat (first | (with_reducible first | exact HK.out | apply Kept.alloc | apply Kept.drewN | apply Kept.drew) | exact HK.out)) hkp (fun k_ hs_ => (fun e_ => (HO_0.out.1 k_ e_.symm)) hs_)); have n2_ := Aside0.mk (hb); clear HO_0; clear HK; clear HB; have HO_0 := n0_; have HK := n1_; have HB := n2_; clear n0_ n1_ n2_; (try clear hb); (try clear hkp); (try clear hy0)))
                first | go_end0 | ((try simp only [Exit.inBlock, Exit.then]); refine bodyPost_ret (results_none rfl _ _ _) rfl ?_)
                exact ⟨by first | rfl | (simp [errW_none, errW_some] <;> rfl) | (simp only [← hji60]; first | rfl | (simp [errW_none, errW_some] <;> rfl)) | (simp [*, errW_none, errW_some] <;> rfl), by exact HO_0.out, bl_, by repeat (first | (with_reducible first | exact HK.out | apply Kept.alloc | apply Kept.drewN | apply Kept.drew) | exact HK.out)⟩
              ·replace c87 := Bool.eq_false_iff.mpr c87
               subst c87
               have H1 : (if ji60 < (wrap64 ((wrap64 ((ji60) + a2)) - x20_2)) then (if (wrap64 ((wrap64 ((ji60) + a2)) - x20_2)) < a3 then ((api_Span_81.f kj84 x0_79 ji60 (wrap64 ((wrap64 ((ji60) + a2)) - x20_2)) a3).bind fun t147 => (some t147)) else (some x0_79)) else (some x0_79)) = some r := by rw [if_neg (show ¬ (false = true) by decide)] at H; exact H
               clear H; have H := H1; clear H1
               by_cases c99 : ji60 < (wrap64 ((wrap64 ((ji60) + a2)) - x20_2))
               ·rw [if_pos c99] at H
                have c99b0 : decide (ji60 < (wrap64 ((wrap64 ((ji60) + a2)) - x20_2))) = true := decide_eq_true c99
                clear c99
                by_cases c100 : (wrap64 ((wrap64 ((ji60) + a2)) - x20_2)) < a3
                ·rw [if_pos c100] at H
                 have c100b0 : decide ((wrap64 ((wrap64 ((ji60) + a2)) - x20_2)) < a3) = true := decide_eq_true c100
                 clear c100; replace H := Option.bind_eq_some_iff.mp H; obtain ⟨t147, A1010, H⟩ := H
                 replace H : (some t147) = some r := H
                 have A101 := Aside0.mk A1010; clear A1010; obtain rfl := Option.some.inj H; obtain ⟨Ao102, co102, eo102⟩ := Kd.R_slice HO_0.out; subst eo102
                 go_wp2_with (first | ((with_reducible refine gate_callee (f := 81) rfl ?_); refine goesL_ (some 219) rfl rfl Try.func81 (by kernel_rfl) rfl #[.slice Ao102 x0_79.length co102, .int .i64 ji60, .int .i64 (wrap64 ((wrap64 ((ji60) + a2)) - x20_2)), .int .i64 a3, .func (.func 62) #[] #[]] rfl (by (try simp only [List.map_toArray, List.map_cons, List.map_nil]); first | done | (simp only [hji60]; rfl) | rfl | (simp only [List.length_drop, List.length_take]; rfl)) ?_; (with_reducible refine (ih kj84 (by have := HJ60.out; have := HK2.out; have := HJ77.out; have := HJ79.out; have := HJ84.out; omega) (fun k_ => some k_ = (.slice Ao102 x0_79.length co102 : Value).ownBlock) (.slice Ao102 x0_79.length co102) x0_79 ji60 (wrap64 ((wrap64 ((ji60) + a2)) - x20_2)) a3  t147 w0 _ ?side1 ?side2 A101.out).mono ?_); (case side1 => repeat (first | (with_reducible first | exact HB.out | apply below_alloc | apply pw_below_drewN | apply below_drew1) | exact HB.out)); (case side2 => exact Kd.R_tight rfl HO_0.out); rintro e w103 ⟨rfl, hy0, hb, hkp⟩; refine ⟨_, rfl, ?_⟩; have n0_ := Aside0.mk (Kd.R_reok rfl hy0 (fun k_ e_ => HO_0.out.1 k_ e_)); have n1_ := Aside0.mk (Kept.then_ (S := (fun k_ => P0_ k_)) (by repeat (first | (with_reducible first | exact HK.out | apply Kept.alloc | apply Kept.drewN | apply Kept.drew) | exact HK.out)) hkp (fun k_ hs_ => (fun e_ => (HO_0.out.1 k_ e_.symm)) hs_)); have n2_ := Aside0.mk (hb); clear HO_0; clear HK; clear HB; have HO_0 := n0_; have HK := n1_; have HB := n2_; clear n0_ n1_ n2_; (try clear hb); (try clear hkp); (try clear hy0)))
                 first | go_end0 | ((try simp only [Exit.inBlock, Exit.then]); refine bodyPost_ret (results_none rfl _ _ _) rfl ?_)
                 exact ⟨by first | rfl | (simp [errW_none, errW_some] <;> rfl) | (simp only [← hji60]; first | rfl | (simp [errW_none, errW_some] <;> rfl)) | (simp [*, errW_none, errW_some] <;> rfl), by exact HO_0.out, bl_, by repeat (first | (with_reducible first | exact HK.out | apply Kept.alloc | apply Kept.drewN | apply Kept.drew) | exact HK.out)⟩
                ·rw [if_neg c100] at H
                 have c100b0 : decide ((wrap64 ((wrap64 ((ji60) + a2)) - x20_2)) < a3) = false := decide_eq_false c100
                 clear c100; obtain rfl := Option.some.inj H
                 go_wp2
                 first | go_end0 | ((try simp only [Exit.inBlock, Exit.then]); refine bodyPost_ret (results_none rfl _ _ _) rfl ?_)
                 exact ⟨by first | rfl | (simp [errW_none, errW_some] <;> rfl) | (simp only [← hji60]; first | rfl | (simp [errW_none, errW_some] <;> rfl)) | (simp [*, errW_none, errW_some] <;> rfl), by exact HO_0.out, bl_, by repeat (first | (with_reducible first | exact HK.out | apply Kept.alloc | apply Kept.drewN | apply Kept.drew) | exact HK.out)⟩
               ·rw [if_neg c99] at H
                have c99b0 : decide (ji60 < (wrap64 ((wrap64 ((ji60) + a2)) - x20_2))) = false := decide_eq_false c99
                clear c99; obtain rfl := Option.some.inj H
                go_wp2
                first | go_end0 | ((try simp only [Exit.inBlock, Exit.then]); refine bodyPost_ret (results_none rfl _ _ _) rfl ?_)
                exact ⟨by first | rfl | (simp [errW_none, errW_some] <;> rfl) | (simp only [← hji60]; first | rfl | (simp [errW_none, errW_some] <;> rfl)) | (simp [*, errW_none, errW_some] <;> rfl), by exact HO_0.out, bl_, by repeat (first | (with_reducible first | exact HK.out | apply Kept.alloc | apply Kept.drewN | apply Kept.drew) | exact HK.out)⟩
theorem api_Span_81.calls (k : Nat) : ∀ (P0_ : Nat → Prop) (u9000_ : Value) (l0 : List (S41)) (a1 : Int) (a2 : Int) (a3 : Int)  (r : List (S41)) (w0 w : World) (hB : Below w0.heap.size w0 w) (ho0 : Kd.R k41 41 w w0.heap.size P0_ u9000_ l0) (h : api_Span_81.f k l0 a1 a2 a3 = some r),
  Calls Try.prog 81 #[u9000_, .int .i64 a1, .int .i64 a2, .int .i64 a3, .func (.func 62) #[] #[]] w fun e w' => e = .returned (.tuple #[]) ∧ Kd.R k41 41 w' w0.heap.size (fun k_ => (P0_ k_ ∨ w.heap.size ≤ k_)) u9000_ r ∧ Below w0.heap.size w0 w' ∧ Kept w w' (fun k_ => P0_ k_) := by
 induction k using Nat.strongRecOn with
 | _ k ih =>
 intro P0_ u9000_ l0 a1 a2 a3 r w0 w hB ho0 h
 by_cases hS_ : (wrap64 (a2 - a1)) = 1
 ·exact api_Span_81.callsA k ih P0_ u9000_ l0 a1 a2 a3 r w0 w hB ho0 h ⟨hS_⟩
 ·by_cases hT_ : (wrap64 (a3 - a2)) = 1
  ·exact api_Span_81.callsB k ih P0_ u9000_ l0 a1 a2 a3 r w0 w hB ho0 h ⟨hS_⟩ ⟨hT_⟩
  ·exact api_Span_81.callsC k ih P0_ u9000_ l0 a1 a2 a3 r w0 w hB ho0 h ⟨hS_⟩ ⟨hT_⟩
end Go.Proofs.Ytjefihcbhdennaa.S
