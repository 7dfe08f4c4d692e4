/- Texts of this session, merged for the law StoreDoes: C16, CL, C22, PA, TA. No condition. -/
import Derived.Test.YteofdgonpbmdlaaZStoreDoesd
import Derived.Test.YteofdgonpbmdlaaZStoreDoesp
import Derived.Test.YteofdgonpbmdlaaZStoreDoesq
import Derived.Test.YteofdgonpbmdlaaZStoreDoesl
import Derived.Maps.Own
import Derived.Maps.OwnOps
import Derived.WalkSpells
import Derived.StringKeys
set_option linter.unusedVariables false
set_option linter.unusedSimpArgs false
namespace Go.Proofs.Yteofdgonpbmdlaa.C
open Go.RowKit Go.Proofs.YteofdgonpbmdlaaW.PrintWords Go.Proofs.YteofdgonpbmdlaaW.PrintLast Go.Proofs.YteofdgonpbmdlaaW.PrintMore
attribute [local go_sem] max2_int min2_int max_two min_two max_three min_three max_four min_four
set_option linter.unusedVariables false
set_option linter.unusedSimpArgs false
def conductorref07_Same.l0 : Nat → List (S28) → List (S28) → Int → Int → Option (Bool)
 | 0, _, _, _, _ => none
 | k + 1, x0, x1, x12, x13 => if x13 < x12 then (if 0 ≤ x13 then (if x13 < (x0.length : Int) then (if x13 < (x1.length : Int) then ((conductorref07_SameOne.f ((rd_T28 x0 x13).f0) ((rd_T28 x0 x13).f1) ((rd_T28 x0 x13).f2) ((rd_T28 x1 x13).f0) ((rd_T28 x1 x13).f1) ((rd_T28 x1 x13).f2)).bind fun t255 => (if t255 = true then (conductorref07_Same.l0 k x0 x1 x12 (wrap64 (x13 + 1))) else (some false))) else (none)) else (none)) else (none)) else (some true)
def conductorref07_Same.f (k : Nat) (l0 : List (S28)) (l1 : List (S28)) : Option (Bool) := if (l0.length : Int) = (l1.length : Int) then (conductorref07_Same.l0 k l0 l1 (l0.length : Int) 0) else (some false)
theorem conductorref07_Same.mono_l : ∀ k, (∀ y0 y1 y2 y3, LeO (conductorref07_Same.l0 k y0 y1 y2 y3) (conductorref07_Same.l0 (k + 1) y0 y1 y2 y3))
 | 0 => fun _ _ _ _ r h => by simp [conductorref07_Same.l0] at h
 | k + 1 => by
  have ih0 := conductorref07_Same.mono_l k
  ·intro y0 y1 y2 y3
   unfold conductorref07_Same.l0
   repeat' first
   | (with_reducible exact ih0 _ _ _ _)
   | (with_reducible exact LeO.refl _)
   | (with_reducible exact LeO.none _)
   | (with_reducible refine LeO.ite ?_ ?_)
   | (with_reducible refine LeO.bind ?_ (fun _ => ?_))
   | exact ih0 _ _ _ _
   | exact LeO.none _
   | refine LeO.ite ?_ ?_
   | refine LeO.bind ?_ (fun _ => ?_)
theorem conductorref07_Same.mono : ∀ a0 a1 k, LeO (conductorref07_Same.f k a0 a1) (conductorref07_Same.f (k + 1) a0 a1) := by
 intro a0 a1 k
 have ih0 := conductorref07_Same.mono_l k
 unfold conductorref07_Same.f
 repeat' first
   | (with_reducible exact ih0 _ _ _ _)
   | (with_reducible exact LeO.refl _)
   | (with_reducible exact LeO.none _)
   | (with_reducible refine LeO.ite ?_ ?_)
   | (with_reducible refine LeO.bind ?_ (fun _ => ?_))
   | exact ih0 _ _ _ _
   | exact LeO.none _
   | refine LeO.ite ?_ ?_
   | refine LeO.bind ?_ (fun _ => ?_)
def conductorref07_Same.T6 : Bool × List (List Nat × List Nat) := (true, [([], []), ([], []), ([0, 1], [0, 1]), ([2], [2]), ([], []), ([], []), ([4, 5], [4, 5]), ([6], [6]), ([3, 7], [3, 7]), ([8], [8])])
def conductorref07_Same.B6 : List Nat := [0, 0, 3, 7, 0, 0, 48, 112, 255, 511]
theorem conductorref07_Same.tab6 : rtab .any (opsOf Try.f30 6) = conductorref07_Same.T6 := by kernel_rfl
theorem conductorref07_Same.bits6 : waitsOk conductorref07_Same.T6.2 conductorref07_Same.B6 = true := by kernel_rfl
set_option maxHeartbeats 8000000 in
set_option maxRecDepth 100000 in
theorem conductorref07_Same.calls (k : Nat) (A0 : Option Addr) (c0 : Nat) (l0 : List (S28)) (A1 : Option Addr) (c1 : Nat) (l1 : List (S28)) (r : Bool) (w : World) (hr0 : Kd.C k28 w A0 l0.length l0) (hc0 : l0.length ≤ c0) (hr1 : Kd.C k28 w A1 l1.length l1) (hc1 : l1.length ≤ c1) (h : conductorref07_Same.f k l0 l1 = some r) :
  Calls Try.prog 30 #[.slice A0 l0.length c0, .slice A1 l1.length c1] w fun e w' => e = .returned (.bool r) ∧ Below w.heap.size w w' := by
 have hu28 := Try.underlying28
 have HR0 := Aside0.mk hr0; have HC0 := Aside0.mk hc0; clear hr0 hc0; have HR1 := Aside0.mk hr1; have HC1 := Aside0.mk hc1; clear hr1 hc1
 have HB := Aside0.mk (Below.refl w.heap.size w)
 have H : (if (l0.length : Int) = (l1.length : Int) then (conductorref07_Same.l0 k l0 l1 (l0.length : Int) 0) else (some false)) = some r := h
 clear h
 by_cases c3 : (l0.length : Int) = (l1.length : Int)
 ·rw [if_pos c3] at H
  have c3b0 : ((l0.length : Int) == (l1.length : Int)) = true := beq_iff_eq.mpr c3
  have c3b1 : ((l0.length : Int) != (l1.length : Int)) = false := bne_eq_false_iff_eq.mpr c3
  have c3b2 : (l0.length == l1.length) = true := by first | simpa using c3 | (simp at c3 ⊢; omega)
  clear c3; have H' := Aside0.mk H; clear H
  go_enter Try.func30, Try.ntmps30
  go_wp2
  go_loopg [13] k (fun kq v13 w' => ∃ (x13_1 : Int), v13 = .int .i64 x13_1 ∧ Aside0 (conductorref07_Same.l0 kq l0 l1 (l0.length : Int) x13_1 = some r) ∧ Aside0 (kq ≤ k) ∧ Aside0 (Below w.heap.size w w'))
  case atStart => exact ⟨(0), (by first | rfl | (simp; done) | (simp [*]; done)), H', ⟨Nat.le_refl _⟩, ⟨bl_⟩⟩
  case round =>
   clear H'
   try clear c1
   try clear p2
   try clear c3
   try clear c3b0
   try clear c3b1
   try clear c3b2
   obtain ⟨x13_1, rfl, HA, HK1, HB⟩ := hrel
   cases gk with
   | zero => exact absurd HA.out (by simp [conductorref07_Same.l0])
   | succ k1 =>
    have H := HA.out
    clear HA
    simp only [conductorref07_Same.l0] at H
    by_cases c4 : x13_1 < (l0.length : Int)
    ·rw [if_pos c4] at H
     have c4b0 : decide (x13_1 < (l0.length : Int)) = true := decide_eq_true c4
     clear c4
     by_cases c5 : 0 ≤ x13_1
     ·rw [if_pos c5] at H
      have c5b0 : decide (0 ≤ x13_1) = true := decide_eq_true c5
      clear c5
      by_cases c6 : x13_1 < (l0.length : Int)
      ·rw [if_pos c6] at H
       have c6b0 : decide (x13_1 < (l0.length : Int)) = true := decide_eq_true c6
       clear c6
       by_cases c7 : x13_1 < (l1.length : Int)
       ·rw [if_pos c7] at H
        have c7b0 : decide (x13_1 < (l1.length : Int)) = true := decide_eq_true c7
        clear c7; replace H := Option.bind_eq_some_iff.mp H; obtain ⟨t255, A80, H⟩ := H
        replace H : (if t255 = true then (conductorref07_Same.l0 k1 l0 l1 (l0.length : Int) (wrap64 (x13_1 + 1))) else (some false)) = some r := H
        have A8 := Aside0.mk A80; clear A80
        by_cases c9 : t255 = true
        ·subst c9
         have H1 : (conductorref07_Same.l0 k1 l0 l1 (l0.length : Int) (wrap64 (x13_1 + 1))) = some r := by rw [if_pos rfl] at H; exact H
         clear H; have H := H1; clear H1; have H' := Aside0.mk H; clear H
         try go_wp2
         have n0_ := Aside0.mk (below_drew1 HB.out)
         clear HB; have HB := n0_; clear n0_
         have p253 : 0 ≤ (x13_1 : Int) := od_
         have q253 : x13_1 < (l0.length : Int) := od_
         obtain ⟨ad253, A253_2, c253_2, e253, hx253_0, hx253_1, hx253_2, hl253_2, hi253_2⟩ := at_T28 HR0.out x13_1 p253 q253
         have hw253_2 := hx253_2
         have hw253_1 := hx253_1
         have hw253_0 := hx253_0
         cases e253
         replace hx253_0 := up_ HB.out hx253_0
         replace hx253_1 := up_ HB.out hx253_1
         replace hx253_2 := up_ HB.out hx253_2
         have HR253_2 := Aside0.mk hi253_2; have HC253_2 := Aside0.mk hl253_2; clear hi253_2 hl253_2; replace p253 := eq_true p253; replace q253 := eq_true q253
         have p254 : 0 ≤ (x13_1 : Int) := od_
         have q254 : x13_1 < (l1.length : Int) := od_
         obtain ⟨ad254, A254_2, c254_2, e254, hx254_0, hx254_1, hx254_2, hl254_2, hi254_2⟩ := at_T28 HR1.out x13_1 p254 q254
         have hw254_2 := hx254_2
         have hw254_1 := hx254_1
         have hw254_0 := hx254_0
         cases e254
         replace hx254_0 := up_ HB.out hx254_0
         replace hx254_1 := up_ HB.out hx254_1
         replace hx254_2 := up_ HB.out hx254_2
         have HR254_2 := Aside0.mk hi254_2; have HC254_2 := Aside0.mk hl254_2; clear hi254_2 hl254_2; replace p254 := eq_true p254; replace q254 := eq_true q254
         refine start_ (n := 10) (S := fun w' => w'.cell? (ad253.add ((x13_1).toNat * 3)) = some (.int .u64 ((rd_T28 l0 x13_1).f0)) ∧ w'.cell? ⟨(ad253.add ((x13_1).toNat * 3)).block, (ad253.add ((x13_1).toNat * 3)).off + 1, none⟩ = some (.bool ((rd_T28 l0 x13_1).f1)) ∧ w'.cell? ⟨(ad253.add ((x13_1).toNat * 3)).block, (ad253.add ((x13_1).toNat * 3)).off + 2, none⟩ = some (.slice A253_2 ((rd_T28 l0 x13_1).f2).length c253_2) ∧ w'.cell? (ad254.add ((x13_1).toNat * 3)) = some (.int .u64 ((rd_T28 l1 x13_1).f0)) ∧ w'.cell? ⟨(ad254.add ((x13_1).toNat * 3)).block, (ad254.add ((x13_1).toNat * 3)).off + 1, none⟩ = some (.bool ((rd_T28 l1 x13_1).f1)) ∧ w'.cell? ⟨(ad254.add ((x13_1).toNat * 3)).block, (ad254.add ((x13_1).toNat * 3)).off + 2, none⟩ = some (.slice A254_2 ((rd_T28 l1 x13_1).f2).length c254_2)) (ds := []) (fst_ 10 0) (by kernel_rfl) rfl rfl ⟨((HB.out.cell (World.block_lt_of_cell? w _ hw253_0)).trans hw253_0), ((HB.out.cell (World.block_lt_of_cell? w _ hw253_1)).trans hw253_1), ((HB.out.cell (World.block_lt_of_cell? w _ hw253_2)).trans hw253_2), ((HB.out.cell (World.block_lt_of_cell? w _ hw254_0)).trans hw254_0), ((HB.out.cell (World.block_lt_of_cell? w _ hw254_1)).trans hw254_1), ((HB.out.cell (World.block_lt_of_cell? w _ hw254_2)).trans hw254_2)⟩ (fun hHeld => ?_); refine with_tabW conductorref07_Same.tab6 conductorref07_Same.bits6 (fun HT_ HW_ => ?_)
         generalize wr.drew = w10 at HB HR253_2 HR254_2 hx253_0 hx253_1 hx253_2 hx254_0 hx254_1 hx254_2 hHeld ⊢
         iterate 3 (refine pk_ (v := ?_) (a' := ?_) HT_.out rfl rfl (by kernel_rfl) (fun _ _ _ h => h) (Or.inl ⟨by rfl, ?_⟩) ?_ ?_; rotate_left; (· intro w'; go_simp; with_reducible rfl); rotate_left; (· simp only [Act.put, List.setIfInBounds_toArray, List.set_cons_zero, List.set_cons_succ, i64_w, i32_w]; rfl))
         refine pure_ (i := 4) (N := some 20) (v := ?_) (a' := ?_) #[true, true, true, false, true, false, false, false, false, false] rfl rfl (any_of HT_.out (by kernel_rfl)) (fun _ _ _ h => h) (Or.inl ⟨by rfl, ?_⟩) ?_ ?_
         rotate_left
         ·intro w'
          go_simp
          with_reducible rfl
         rotate_left
         ·simp only [Act.put, List.setIfInBounds_toArray, List.set_cons_zero, List.set_cons_succ, i64_w, i32_w]
          rfl
         refine pure_ (i := 5) (N := some 21) (v := ?_) (a' := ?_) #[true, true, true, false, true, true, false, false, false, false] rfl rfl (any_of HT_.out (by kernel_rfl)) (fun _ _ _ h => h) (Or.inl ⟨by rfl, ?_⟩) ?_ ?_
         rotate_left
         ·intro w'
          go_simp
          with_reducible rfl
         rotate_left
         ·simp only [Act.put, List.setIfInBounds_toArray, List.set_cons_zero, List.set_cons_succ, i64_w, i32_w]
          rfl
         refine pure_ (i := 6) (N := some 22) (v := ?_) (a' := ?_) #[true, true, true, false, true, true, true, false, false, false] rfl rfl (any_of HT_.out (by kernel_rfl)) (fun _ _ _ h => h) (Or.inl ⟨by rfl, ?_⟩) ?_ ?_
         rotate_left
         ·intro w'
          go_simp
          with_reducible rfl
         rotate_left
         ·simp only [Act.put, List.setIfInBounds_toArray, List.set_cons_zero, List.set_cons_succ, i64_w, i32_w]
          rfl
         refine take_ (i := 3) (N := some 19) (v := ?_) (a' := ?_) (fst_ 10 7) rfl rfl (take_ofW HT_.out HW_.out (by kernel_rfl)) (fun _ _ _ h => h) (Or.inl ⟨by rfl, ?_⟩) hHeld ?_ ?_
         rotate_left
         ·rintro w' ⟨s0, s1, s2, s3, s4, s5⟩
          go_simp
          with_reducible rfl
         rotate_left
         ·simp only [Act.put, List.setIfInBounds_toArray, List.set_cons_zero, List.set_cons_succ, i64_w, i32_w]
          rfl
         refine tk_ (v := ?_) (a' := ?_) HT_.out HW_.out rfl rfl (by kernel_rfl) (fun _ _ _ h => h) (Or.inl ⟨by rfl, ?_⟩) hHeld ?_ ?_
         rotate_left
         ·rintro w' ⟨s0, s1, s2, s3, s4, s5⟩
          go_simp
          with_reducible rfl
         rotate_left
         ·simp only [Act.put, List.setIfInBounds_toArray, List.set_cons_zero, List.set_cons_succ, i64_w, i32_w]
          rfl
         refine one_ (i := 8) (N := some 24) (fst_ 10 9) rfl rfl (one_of HT_.out (by kernel_rfl)) (by decide) (fun K hK => ?_)
         refine goes_ Try.func24 (by kernel_rfl) rfl #[.agg #[.int .u64 ((rd_T28 l0 x13_1).f0), .bool ((rd_T28 l0 x13_1).f1), .slice A253_2 ((rd_T28 l0 x13_1).f2).length c253_2], .agg #[.int .u64 ((rd_T28 l1 x13_1).f0), .bool ((rd_T28 l1 x13_1).f1), .slice A254_2 ((rd_T28 l1 x13_1).f2).length c254_2]] (by rfl) rfl rfl sa_ ?_
         with_reducible refine (conductorref07_SameOne.calls ((rd_T28 l0 x13_1).f0) ((rd_T28 l0 x13_1).f1) _ _ ((rd_T28 l0 x13_1).f2) ((rd_T28 l1 x13_1).f0) ((rd_T28 l1 x13_1).f1) _ _ ((rd_T28 l1 x13_1).f2) true _ ?side1 ?side2 ?side3 ?side4 A8.out).mono ?_
         (case side1 => exact (Kd.C_below HR253_2.out HB.out))
         (case side2 => exact HC253_2.out)
         (case side3 => exact (Kd.C_below HR254_2.out HB.out))
         (case side4 => exact HC254_2.out)
         rintro e w11 ⟨rfl, hb⟩
         refine ⟨_, rfl, ?_⟩
         have n0_ := Aside0.mk (below_step bl_ hb)
         clear HB; have HB := n0_; clear n0_
         (try clear hb)
         (try clear hb2)
         (try clear hk)
         (try clear hi)
         refine hK.out _ _ ⟨((HB.out.cell (World.block_lt_of_cell? w _ hw253_0)).trans hw253_0), ((HB.out.cell (World.block_lt_of_cell? w _ hw253_1)).trans hw253_1), ((HB.out.cell (World.block_lt_of_cell? w _ hw253_2)).trans hw253_2), ((HB.out.cell (World.block_lt_of_cell? w _ hw254_0)).trans hw254_0), ((HB.out.cell (World.block_lt_of_cell? w _ hw254_1)).trans hw254_1), ((HB.out.cell (World.block_lt_of_cell? w _ hw254_2)).trans hw254_2)⟩ (fun hHeld => ?_)
         clear hK K; refine norm_ (a' := ?_) ?_ ?_; rotate_left
         ·show Act.put _ (some 24) _ = _
          simp only [Act.put, List.setIfInBounds_toArray, List.set_cons_zero, List.set_cons_succ, i64_w, i32_w]
          rfl
         (refine pk_ (v := ?_) (a' := ?_) HT_.out rfl rfl (by kernel_rfl) (fun _ _ _ h => h) (Or.inl ⟨by rfl, ?_⟩) ?_ ?_; rotate_left; (· intro w'; go_simp; with_reducible rfl); rotate_left; (· simp only [Act.put, List.setIfInBounds_toArray, List.set_cons_zero, List.set_cons_succ, i64_w, i32_w]; rfl))
         refine done_ (done_of HT_.out (by kernel_rfl)) ?_
         try go_wp2
         go_roundg k1
         case measure => have := HK1.out; omega
         case rel => exact ⟨(wrap64 (x13_1 + 1)), (by first | rfl | (simp; done) | (simp [*]; done)), H', ⟨by have := HK1.out; omega⟩, ⟨bl_⟩⟩
        ·replace c9 := Bool.eq_false_iff.mpr c9
         subst c9
         have H1 : (some false) = some r := by rw [if_neg (show ¬ (false = true) by decide)] at H; exact H
         clear H; have H := H1; clear H1; obtain rfl := Option.some.inj H
         try go_wp2
         have n0_ := Aside0.mk (below_drew1 HB.out)
         clear HB; have HB := n0_; clear n0_
         have p253 : 0 ≤ (x13_1 : Int) := od_
         have q253 : x13_1 < (l0.length : Int) := od_
         obtain ⟨ad253, A253_2, c253_2, e253, hx253_0, hx253_1, hx253_2, hl253_2, hi253_2⟩ := at_T28 HR0.out x13_1 p253 q253
         have hw253_2 := hx253_2
         have hw253_1 := hx253_1
         have hw253_0 := hx253_0
         cases e253
         replace hx253_0 := up_ HB.out hx253_0
         replace hx253_1 := up_ HB.out hx253_1
         replace hx253_2 := up_ HB.out hx253_2
         have HR253_2 := Aside0.mk hi253_2; have HC253_2 := Aside0.mk hl253_2; clear hi253_2 hl253_2; replace p253 := eq_true p253; replace q253 := eq_true q253
         have p254 : 0 ≤ (x13_1 : Int) := od_
         have q254 : x13_1 < (l1.length : Int) := od_
         obtain ⟨ad254, A254_2, c254_2, e254, hx254_0, hx254_1, hx254_2, hl254_2, hi254_2⟩ := at_T28 HR1.out x13_1 p254 q254
         have hw254_2 := hx254_2
         have hw254_1 := hx254_1
         have hw254_0 := hx254_0
         cases e254
         replace hx254_0 := up_ HB.out hx254_0
         replace hx254_1 := up_ HB.out hx254_1
         replace hx254_2 := up_ HB.out hx254_2
         have HR254_2 := Aside0.mk hi254_2; have HC254_2 := Aside0.mk hl254_2; clear hi254_2 hl254_2; replace p254 := eq_true p254; replace q254 := eq_true q254
         refine start_ (n := 10) (S := fun w' => w'.cell? (ad253.add ((x13_1).toNat * 3)) = some (.int .u64 ((rd_T28 l0 x13_1).f0)) ∧ w'.cell? ⟨(ad253.add ((x13_1).toNat * 3)).block, (ad253.add ((x13_1).toNat * 3)).off + 1, none⟩ = some (.bool ((rd_T28 l0 x13_1).f1)) ∧ w'.cell? ⟨(ad253.add ((x13_1).toNat * 3)).block, (ad253.add ((x13_1).toNat * 3)).off + 2, none⟩ = some (.slice A253_2 ((rd_T28 l0 x13_1).f2).length c253_2) ∧ w'.cell? (ad254.add ((x13_1).toNat * 3)) = some (.int .u64 ((rd_T28 l1 x13_1).f0)) ∧ w'.cell? ⟨(ad254.add ((x13_1).toNat * 3)).block, (ad254.add ((x13_1).toNat * 3)).off + 1, none⟩ = some (.bool ((rd_T28 l1 x13_1).f1)) ∧ w'.cell? ⟨(ad254.add ((x13_1).toNat * 3)).block, (ad254.add ((x13_1).toNat * 3)).off + 2, none⟩ = some (.slice A254_2 ((rd_T28 l1 x13_1).f2).length c254_2)) (ds := []) (fst_ 10 0) (by kernel_rfl) rfl rfl ⟨((HB.out.cell (World.block_lt_of_cell? w _ hw253_0)).trans hw253_0), ((HB.out.cell (World.block_lt_of_cell? w _ hw253_1)).trans hw253_1), ((HB.out.cell (World.block_lt_of_cell? w _ hw253_2)).trans hw253_2), ((HB.out.cell (World.block_lt_of_cell? w _ hw254_0)).trans hw254_0), ((HB.out.cell (World.block_lt_of_cell? w _ hw254_1)).trans hw254_1), ((HB.out.cell (World.block_lt_of_cell? w _ hw254_2)).trans hw254_2)⟩ (fun hHeld => ?_); refine with_tabW conductorref07_Same.tab6 conductorref07_Same.bits6 (fun HT_ HW_ => ?_)
         generalize wr.drew = w12 at HB HR253_2 HR254_2 hx253_0 hx253_1 hx253_2 hx254_0 hx254_1 hx254_2 hHeld ⊢
         iterate 3 (refine pk_ (v := ?_) (a' := ?_) HT_.out rfl rfl (by kernel_rfl) (fun _ _ _ h => h) (Or.inl ⟨by rfl, ?_⟩) ?_ ?_; rotate_left; (· intro w'; go_simp; with_reducible rfl); rotate_left; (· simp only [Act.put, List.setIfInBounds_toArray, List.set_cons_zero, List.set_cons_succ, i64_w, i32_w]; rfl))
         refine pure_ (i := 4) (N := some 20) (v := ?_) (a' := ?_) #[true, true, true, false, true, false, false, false, false, false] rfl rfl (any_of HT_.out (by kernel_rfl)) (fun _ _ _ h => h) (Or.inl ⟨by rfl, ?_⟩) ?_ ?_
         rotate_left
         ·intro w'
          go_simp
          with_reducible rfl
         rotate_left
         ·simp only [Act.put, List.setIfInBounds_toArray, List.set_cons_zero, List.set_cons_succ, i64_w, i32_w]
          rfl
         refine pure_ (i := 5) (N := some 21) (v := ?_) (a' := ?_) #[true, true, true, false, true, true, false, false, false, false] rfl rfl (any_of HT_.out (by kernel_rfl)) (fun _ _ _ h => h) (Or.inl ⟨by rfl, ?_⟩) ?_ ?_
         rotate_left
         ·intro w'
          go_simp
          with_reducible rfl
         rotate_left
         ·simp only [Act.put, List.setIfInBounds_toArray, List.set_cons_zero, List.set_cons_succ, i64_w, i32_w]
          rfl
         refine pure_ (i := 6) (N := some 22) (v := ?_) (a' := ?_) #[true, true, true, false, true, true, true, false, false, false] rfl rfl (any_of HT_.out (by kernel_rfl)) (fun _ _ _ h => h) (Or.inl ⟨by rfl, ?_⟩) ?_ ?_
         rotate_left
         ·intro w'
          go_simp
          with_reducible rfl
         rotate_left
         ·simp only [Act.put, List.setIfInBounds_toArray, List.set_cons_zero, List.set_cons_succ, i64_w, i32_w]
          rfl
         refine take_ (i := 3) (N := some 19) (v := ?_) (a' := ?_) (fst_ 10 7) rfl rfl (take_ofW HT_.out HW_.out (by kernel_rfl)) (fun _ _ _ h => h) (Or.inl ⟨by rfl, ?_⟩) hHeld ?_ ?_
         rotate_left
         ·rintro w' ⟨s0, s1, s2, s3, s4, s5⟩
          go_simp
          with_reducible rfl
         rotate_left
         ·simp only [Act.put, List.setIfInBounds_toArray, List.set_cons_zero, List.set_cons_succ, i64_w, i32_w]
          rfl
         refine tk_ (v := ?_) (a' := ?_) HT_.out HW_.out rfl rfl (by kernel_rfl) (fun _ _ _ h => h) (Or.inl ⟨by rfl, ?_⟩) hHeld ?_ ?_
         rotate_left
         ·rintro w' ⟨s0, s1, s2, s3, s4, s5⟩
          go_simp
          with_reducible rfl
         rotate_left
         ·simp only [Act.put, List.setIfInBounds_toArray, List.set_cons_zero, List.set_cons_succ, i64_w, i32_w]
          rfl
         refine one_ (i := 8) (N := some 24) (fst_ 10 9) rfl rfl (one_of HT_.out (by kernel_rfl)) (by decide) (fun K hK => ?_)
         refine goes_ Try.func24 (by kernel_rfl) rfl #[.agg #[.int .u64 ((rd_T28 l0 x13_1).f0), .bool ((rd_T28 l0 x13_1).f1), .slice A253_2 ((rd_T28 l0 x13_1).f2).length c253_2], .agg #[.int .u64 ((rd_T28 l1 x13_1).f0), .bool ((rd_T28 l1 x13_1).f1), .slice A254_2 ((rd_T28 l1 x13_1).f2).length c254_2]] (by rfl) rfl rfl sa_ ?_
         with_reducible refine (conductorref07_SameOne.calls ((rd_T28 l0 x13_1).f0) ((rd_T28 l0 x13_1).f1) _ _ ((rd_T28 l0 x13_1).f2) ((rd_T28 l1 x13_1).f0) ((rd_T28 l1 x13_1).f1) _ _ ((rd_T28 l1 x13_1).f2) false _ ?side1 ?side2 ?side3 ?side4 A8.out).mono ?_
         (case side1 => exact (Kd.C_below HR253_2.out HB.out))
         (case side2 => exact HC253_2.out)
         (case side3 => exact (Kd.C_below HR254_2.out HB.out))
         (case side4 => exact HC254_2.out)
         rintro e w13 ⟨rfl, hb⟩
         refine ⟨_, rfl, ?_⟩
         have n0_ := Aside0.mk (below_step bl_ hb)
         clear HB; have HB := n0_; clear n0_
         (try clear hb)
         (try clear hb2)
         (try clear hk)
         (try clear hi)
         refine hK.out _ _ ⟨((HB.out.cell (World.block_lt_of_cell? w _ hw253_0)).trans hw253_0), ((HB.out.cell (World.block_lt_of_cell? w _ hw253_1)).trans hw253_1), ((HB.out.cell (World.block_lt_of_cell? w _ hw253_2)).trans hw253_2), ((HB.out.cell (World.block_lt_of_cell? w _ hw254_0)).trans hw254_0), ((HB.out.cell (World.block_lt_of_cell? w _ hw254_1)).trans hw254_1), ((HB.out.cell (World.block_lt_of_cell? w _ hw254_2)).trans hw254_2)⟩ (fun hHeld => ?_)
         clear hK K; refine norm_ (a' := ?_) ?_ ?_; rotate_left
         ·show Act.put _ (some 24) _ = _
          simp only [Act.put, List.setIfInBounds_toArray, List.set_cons_zero, List.set_cons_succ, i64_w, i32_w]
          rfl
         (refine pk_ (v := ?_) (a' := ?_) HT_.out rfl rfl (by kernel_rfl) (fun _ _ _ h => h) (Or.inl ⟨by rfl, ?_⟩) ?_ ?_; rotate_left; (· intro w'; go_simp; with_reducible rfl); rotate_left; (· simp only [Act.put, List.setIfInBounds_toArray, List.set_cons_zero, List.set_cons_succ, i64_w, i32_w]; rfl))
         refine done_ (done_of HT_.out (by kernel_rfl)) ?_
         try go_wp2
         go_ret
         exact ⟨by first | rfl | (simp [errW_none, errW_some] <;> rfl) | (simp [*, errW_none, errW_some] <;> rfl), bl_⟩
       ·rw [if_neg c7] at H
        exact absurd H (by simp)
      ·rw [if_neg c6] at H
       exact absurd H (by simp)
     ·rw [if_neg c5] at H
      exact absurd H (by simp)
    ·rw [if_neg c4] at H
     have c4b0 : decide (x13_1 < (l0.length : Int)) = false := decide_eq_false c4
     clear c4; obtain rfl := Option.some.inj H
     go_wp2
     go_ret
     exact ⟨by first | rfl | (simp [errW_none, errW_some] <;> rfl) | (simp [*, errW_none, errW_some] <;> rfl), bl_⟩
 ·rw [if_neg c3] at H
  have c3b0 : ((l0.length : Int) == (l1.length : Int)) = false := beq_eq_false_iff_ne.mpr c3
  have c3b1 : ((l0.length : Int) != (l1.length : Int)) = true := bne_iff_ne.mpr c3
  have c3b2 : (l0.length == l1.length) = false := by first | simpa using c3 | (simp at c3 ⊢; omega)
  obtain rfl := Option.some.inj H
  go_enter Try.func30, Try.ntmps30
  go_wp2
  go_ret
  exact ⟨by first | rfl | (simp [errW_none, errW_some] <;> rfl) | (simp [*, errW_none, errW_some] <;> rfl), bl_⟩
end Go.Proofs.Yteofdgonpbmdlaa.C
namespace Go.Proofs.Yteofdgonpbmdlaa.Pure
open Go.RowKit Go.Proofs.YteofdgonpbmdlaaW.PrintWords Go.Proofs.Yteofdgonpbmdlaa.C
theorem w1 {i n : Nat} (h : i < n) (hn : n ≤ 9223372036854775807) : wrap64 ((i : Int) + 1) = ((i + 1 : Nat) : Int) := by unfold wrap64; omega
theorem rd_nat (l : List S28) (i : Nat) (h : i < l.length) : rd_T28 l (i : Int) = l[i] := by
  simp [rd_T28, List.getD_eq_getElem?_getD, h]
def rgt : Int → List S28 → Bool
  | _, [] => true
  | a, v :: t => if v.f0 ≤ a then false else if v.f1 = true then (if ((v.f2).length : Int) > 0 then false else rgt v.f0 t) else rgt v.f0 t
theorem cRight_loop (l : List S28) (hl : l.length ≤ 9223372036854775807) : ∀ (d i : Nat) (a : Int) (k : Nat), i + d = l.length → d < k → chain_Right.l0 k a l l.length i = some (rgt a (l.drop i)) := by
  intro d
  induction d with
  | zero =>
    intro i a k hd hk
    obtain ⟨k, rfl⟩ : ∃ m, k = m + 1 := ⟨k - 1, by omega⟩
    simp only [chain_Right.l0]
    rw [if_neg (by omega), List.drop_eq_nil_of_le (by omega)]; rfl
  | succ d ih =>
    intro i a k hd hk
    obtain ⟨k, rfl⟩ : ∃ m, k = m + 1 := ⟨k - 1, by omega⟩
    have hi : i < l.length := by omega
    simp only [chain_Right.l0]
    rw [if_pos (by omega), if_pos (by omega), if_pos (by omega), w1 hi hl, rd_nat l i hi, List.drop_eq_getElem_cons hi, ih (i + 1) _ k (by omega) (by omega)]
    simp only [rgt]
    by_cases h1 : l[i].f0 ≤ a <;> by_cases h2 : l[i].f1 = true <;> by_cases h3 : (l[i].f2.length : Int) > 0 <;> simp only [h1, h2, h3, if_true, if_false, Bool.false_eq_true]
theorem cRight_ev (l : List S28) (hl : l.length ≤ 9223372036854775807) : Ev (fun k => chain_Right.f k l) (rgt 0 l) :=
  ⟨l.length + 1, fun k hk => cRight_loop l hl l.length 0 0 k (by omega) (by omega)⟩
theorem rRight_loop (l : List S28) (hl : l.length ≤ 9223372036854775807) : ∀ (d i : Nat) (a : Int) (k : Nat), i + d = l.length → d < k → conductorref07_Right.l0 k a l l.length i = some (rgt a (l.drop i)) := by
  intro d
  induction d with
  | zero =>
    intro i a k hd hk
    obtain ⟨k, rfl⟩ : ∃ m, k = m + 1 := ⟨k - 1, by omega⟩
    simp only [conductorref07_Right.l0]
    rw [if_neg (by omega), List.drop_eq_nil_of_le (by omega)]; rfl
  | succ d ih =>
    intro i a k hd hk
    obtain ⟨k, rfl⟩ : ∃ m, k = m + 1 := ⟨k - 1, by omega⟩
    have hi : i < l.length := by omega
    simp only [conductorref07_Right.l0]
    rw [if_pos (by omega), if_pos (by omega), if_pos (by omega), w1 hi hl, rd_nat l i hi, List.drop_eq_getElem_cons hi, ih (i + 1) _ k (by omega) (by omega)]
    simp only [rgt]
    by_cases h1 : l[i].f0 ≤ a <;> by_cases h2 : l[i].f1 = true <;> by_cases h3 : (l[i].f2.length : Int) > 0 <;> simp only [h1, h2, h3, if_true, if_false, Bool.false_eq_true]
theorem rRight_ev (l : List S28) (hl : l.length ≤ 9223372036854775807) : Ev (fun k => conductorref07_Right.f k l) (rgt 0 l) :=
  ⟨l.length + 1, fun k hk => rRight_loop l hl l.length 0 0 k (by omega) (by omega)⟩
theorem rgt_iff (l : List S28) : ∀ a, rgt a l = true ↔ (∀ v ∈ l, a < v.f0 ∧ (v.f1 = true → v.f2 = [])) ∧ l.Pairwise (fun x y => x.f0 < y.f0) := by
  induction l with
  | nil => intro a; simp [rgt]
  | cons v t ih =>
    intro a
    simp only [rgt, List.mem_cons, forall_eq_or_imp, List.pairwise_cons]
    by_cases h1 : v.f0 ≤ a
    · rw [if_pos h1]; constructor
      · intro h; cases h
      · intro h; have := h.1.1.1; omega
    · rw [if_neg h1]
      by_cases h2 : v.f1 = true
      · rw [if_pos h2]
        by_cases h3 : (v.f2.length : Int) > 0
        · rw [if_pos h3]; constructor
          · intro h; cases h
          · intro h; have := h.1.1.2 h2; rw [this] at h3; simp at h3
        · rw [if_neg h3, ih]
          have h4 : v.f2 = [] := by cases hf : v.f2 with | nil => rfl | cons x y => rw [hf] at h3; simp at h3
          constructor
          · rintro ⟨ha, hb⟩; exact ⟨⟨⟨by omega, fun _ => h4⟩, fun x hx => ⟨by have := (ha x hx).1; omega, (ha x hx).2⟩⟩, fun x hx => (ha x hx).1, hb⟩
          · rintro ⟨⟨_, ha⟩, hb, hc⟩; exact ⟨fun x hx => ⟨hb x hx, (ha x hx).2⟩, hc⟩
      · rw [if_neg h2, ih]
        constructor
        · rintro ⟨ha, hb⟩; exact ⟨⟨⟨by omega, fun h => absurd h h2⟩, fun x hx => ⟨by have := (ha x hx).1; omega, (ha x hx).2⟩⟩, fun x hx => (ha x hx).1, hb⟩
        · rintro ⟨⟨_, ha⟩, hb, hc⟩; exact ⟨fun x hx => ⟨hb x hx, (ha x hx).2⟩, hc⟩
theorem rgt_drop {l : List S28} (h : rgt 0 l = true) (t : Nat) : rgt 0 (l.drop t) = true := by
  rw [rgt_iff] at h ⊢
  exact ⟨fun v hv => h.1 v (List.mem_of_mem_drop hv), h.2.sublist (List.drop_sublist _ _)⟩
def fewB (l : List S28) : Bool := decide ((l.length : Int) ≤ 100) && l.all fun v => decide ((v.f2.length : Int) ≤ 1000)
theorem few_loop (l : List S28) (hl : l.length ≤ 9223372036854775807) : ∀ (d i : Nat) (k : Nat), i + d = l.length → d < k → conductorlaw07_few.l0 k l l l.length i = some (decide ((l.length : Int) ≤ 100) && (l.drop i).all fun v => decide ((v.f2.length : Int) ≤ 1000)) := by
  intro d
  induction d with
  | zero =>
    intro i k hd hk
    obtain ⟨k, rfl⟩ : ∃ m, k = m + 1 := ⟨k - 1, by omega⟩
    simp only [conductorlaw07_few.l0]
    rw [if_neg (by omega), List.drop_eq_nil_of_le (by omega)]; simp
  | succ d ih =>
    intro i k hd hk
    obtain ⟨k, rfl⟩ : ∃ m, k = m + 1 := ⟨k - 1, by omega⟩
    have hi : i < l.length := by omega
    simp only [conductorlaw07_few.l0]
    rw [if_pos (by omega), if_pos (by omega), if_pos (by omega), w1 hi hl, rd_nat l i hi, List.drop_eq_getElem_cons hi, ih (i + 1) k (by omega) (by omega)]
    by_cases h3 : (l[i].f2.length : Int) > 1000
    · rw [if_pos h3]
      have : ¬ (l[i].f2.length : Int) ≤ 1000 := by omega
      rw [List.all_cons, decide_eq_false this, Bool.false_and, Bool.and_false]
    · rw [if_neg h3]
      have : (l[i].f2.length : Int) ≤ 1000 := by omega
      rw [List.all_cons, decide_eq_true this, Bool.true_and]
theorem few_ev (l : List S28) (hl : l.length ≤ 9223372036854775807) : Ev (fun k => conductorlaw07_few.f k l) (fewB l) :=
  ⟨l.length + 1, fun k hk => few_loop l hl l.length 0 k (by omega) (by omega)⟩
theorem fewB_spec {l : List S28} (h : fewB l = true) : l.length ≤ 100 ∧ ∀ v ∈ l, v.f2.length ≤ 1000 := by
  simp only [fewB, Bool.and_eq_true, decide_eq_true_eq, List.all_eq_true] at h
  exact ⟨by omega, fun v hv => by have := h.2 v hv; omega⟩
def Upto (l : List S28) (a : Int) (n : Nat) : Prop := n ≤ l.length ∧ (∀ j (h : j < l.length), j < n → l[j].f0 ≤ a) ∧ ∀ j (h : j < l.length), n ≤ j → a < l[j].f0
theorem pw_lt {l : List S28} (hs : l.Pairwise (fun x y => x.f0 < y.f0)) {i j : Nat} (hij : i < j) (hj : j < l.length) : l[i].f0 < l[j].f0 := List.pairwise_iff_getElem.1 hs i j (by omega) hj hij
theorem upto_spec (l : List S28) (a : Int) (hs : l.Pairwise (fun x y => x.f0 < y.f0)) : ∀ k lo hi : Nat, lo ≤ hi → hi ≤ l.length → hi - lo ≤ k →
    (∀ j (h : j < l.length), j < lo → l[j].f0 ≤ a) → (∀ j (h : j < l.length), hi ≤ j → a < l[j].f0) → ∃ n : Nat, upto_go l a k lo hi = n ∧ Upto l a n := by
  intro k
  induction k with
  | zero => intro lo hi h1 h2 h3 h4 h5; exact ⟨lo, rfl, by omega, fun j h hj => h4 j h hj, fun j h hj => h5 j h (by omega)⟩
  | succ k ih =>
    intro lo hi h1 h2 h3 h4 h5
    simp only [upto_go]
    by_cases hlt : lo < hi
    · rw [if_pos (by omega)]
      obtain ⟨m, hm, hm1, hm2⟩ : ∃ m : Nat, (lo : Int) + ((hi : Int) - lo) / 2 = m ∧ lo ≤ m ∧ m < hi := ⟨((lo : Int) + ((hi : Int) - lo) / 2).toNat, by omega, by omega, by omega⟩
      rw [hm, rd_nat l m (by omega)]
      by_cases hc : l[m].f0 ≤ a
      · rw [if_pos hc]
        exact ih (m + 1) hi (by omega) h2 (by omega) (fun j h hj => by
          by_cases he : j = m
          · subst he; exact hc
          · have := pw_lt hs (show j < m by omega) (by omega); omega) h5
      · rw [if_neg hc]
        exact ih lo m (by omega) (by omega) (by omega) h4 (fun j h hj => by
          by_cases he : j = m
          · subst he; omega
          · have := pw_lt hs (show m < j by omega) h; omega)
    · rw [if_neg (by omega)]
      exact ⟨lo, rfl, by omega, fun j h hj => h4 j h hj, fun j h hj => h5 j h (by omega)⟩
theorem upto_is (l : List S28) (a : Int) (hs : rgt 0 l = true) : ∃ n : Nat, upto_go l a l.length 0 l.length = n ∧ Upto l a n :=
  upto_spec l a ((rgt_iff l 0).1 hs).2 l.length 0 l.length (by omega) (by omega) (by omega) (fun j h hj => by omega) (fun j h hj => by omega)
theorem Upto.uniq {l : List S28} {a : Int} {n m : Nat} (h : Upto l a n) (h' : Upto l a m) : n = m := by
  rcases Nat.lt_trichotomy n m with hlt | rfl | hlt
  · have h1 := h.2.2 n (by have := h'.1; omega) (by omega); have h2 := h'.2.1 n (by have := h'.1; omega) hlt; omega
  · rfl
  · have h1 := h'.2.2 m (by have := h.1; omega) (by omega); have h2 := h.2.1 m (by have := h.1; omega) hlt; omega
theorem upto_val {l : List S28} {a : Int} (hs : rgt 0 l = true) {n : Nat} (h : Upto l a n) : upto_go l a l.length 0 l.length = n := by
  obtain ⟨m, h1, h2⟩ := upto_is l a hs
  rw [h1, h.uniq h2]
/-- What is found. -/
def fndV (l : List S28) (n : Nat) : Int × Bool × List Int × Bool := if h : 0 < n ∧ n ≤ l.length then (l[n - 1].f0, l[n - 1].f1, l[n - 1].f2, true) else (0, false, [], false)
def getV (l : List S28) (n : Nat) : List Int × Bool := if h : 0 < n ∧ n ≤ l.length then (if l[n - 1].f1 = true then ([], false) else (l[n - 1].f2, true)) else ([], false)
theorem fndV_pos {l : List S28} {n : Nat} (h : 0 < n ∧ n ≤ l.length) : fndV l n = (l[n - 1].f0, l[n - 1].f1, l[n - 1].f2, true) := dif_pos h
theorem fndV_neg {l : List S28} {n : Nat} (h : ¬ (0 < n ∧ n ≤ l.length)) : fndV l n = (0, false, [], false) := dif_neg h
theorem getV_pos {l : List S28} {n : Nat} (h : 0 < n ∧ n ≤ l.length) : getV l n = (if l[n - 1].f1 = true then ([], false) else (l[n - 1].f2, true)) := dif_pos h
theorem getV_neg {l : List S28} {n : Nat} (h : ¬ (0 < n ∧ n ≤ l.length)) : getV l n = ([], false) := dif_neg h
theorem last_eq {l : List S28} (hl : l.length ≤ 1000) : chain_Last.f l = some (if h : 0 < l.length then l[l.length - 1].f0 else 0) := by
  unfold chain_Last.f
  by_cases h0 : 0 < l.length
  · have hw : wrap64 ((l.length : Int) - 1) = ((l.length - 1 : Nat) : Int) := by unfold wrap64; omega
    rw [if_neg (by omega), hw, if_pos (by omega), if_pos (by omega), rd_nat l _ (by omega), dif_pos h0]
  · rw [if_pos (by omega), dif_neg h0]
def fnd (a : Int) : Int × Bool × List Int × Bool → List S28 → Int × Bool × List Int × Bool
  | acc, [] => acc
  | acc, v :: t => if v.f0 ≤ a then fnd a (v.f0, v.f1, v.f2, true) t else fnd a acc t
theorem rFind_loop (l : List S28) (hl : l.length ≤ 9223372036854775807) (a : Int) : ∀ (d i : Nat) (x0 : Int) (x1 : Bool) (x2 : List Int) (x3 : Bool) (k : Nat), i + d = l.length → d < k → conductorref07_Find.l0 k a x3 l l.length i x0 x1 x2 = some (fnd a (x0, x1, x2, x3) (l.drop i)) := by
  intro d
  induction d with
  | zero =>
    intro i x0 x1 x2 x3 k hd hk
    obtain ⟨k, rfl⟩ : ∃ m, k = m + 1 := ⟨k - 1, by omega⟩
    simp only [conductorref07_Find.l0]
    rw [if_neg (by omega), List.drop_eq_nil_of_le (by omega)]; rfl
  | succ d ih =>
    intro i x0 x1 x2 x3 k hd hk
    obtain ⟨k, rfl⟩ : ∃ m, k = m + 1 := ⟨k - 1, by omega⟩
    have hi : i < l.length := by omega
    simp only [conductorref07_Find.l0]
    rw [if_pos (by omega), if_pos (by omega), if_pos (by omega), w1 hi hl, rd_nat l i hi, List.drop_eq_getElem_cons hi, ih (i + 1) _ _ _ _ k (by omega) (by omega), ih (i + 1) _ _ _ _ k (by omega) (by omega)]
    simp only [fnd]
    by_cases h1 : l[i].f0 ≤ a <;> simp only [h1, if_true, if_false]
theorem fnd_app (a : Int) (l2 : List S28) : ∀ (l1 : List S28) (acc : Int × Bool × List Int × Bool), fnd a acc (l1 ++ l2) = fnd a (fnd a acc l1) l2
  | [], acc => rfl
  | v :: t, acc => by simp only [List.cons_append, fnd]; split <;> exact fnd_app a l2 t _
theorem fnd_none (a : Int) : ∀ (l : List S28) (acc : Int × Bool × List Int × Bool), (∀ v ∈ l, a < v.f0) → fnd a acc l = acc
  | [], acc, _ => rfl
  | v :: t, acc, h => by simp only [fnd]; rw [if_neg (by have := h v (List.mem_cons_self ..); omega)]; exact fnd_none a t acc (fun x hx => h x (List.mem_cons_of_mem _ hx))
theorem Upto.drop_gt {l : List S28} {a : Int} {n : Nat} (h : Upto l a n) : ∀ v ∈ l.drop n, a < v.f0 := by
  intro v hv
  obtain ⟨i, hi, rfl⟩ := List.getElem_of_mem hv
  rw [List.getElem_drop]
  exact h.2.2 _ (by rw [List.length_drop] at hi; omega) (by omega)
theorem fnd_eq {l : List S28} {a : Int} {n : Nat} (h : Upto l a n) : fnd a (0, false, [], false) l = fndV l n := by
  have hn := h.1
  cases n with
  | zero =>
    rw [fnd_none a l _ (by simpa using h.drop_gt), fndV, dif_neg (by omega)]
  | succ m =>
    have e : l = l.take m ++ (l[m] :: l.drop (m + 1)) := by rw [← List.drop_eq_getElem_cons, List.take_append_drop]
    rw [fndV, dif_pos ⟨by omega, hn⟩]
    conv => lhs; rw [e]
    rw [fnd_app]
    simp only [fnd]
    rw [if_pos (h.2.1 m (by omega) (by omega)), fnd_none a _ _ h.drop_gt]
    rfl
theorem rFind_ev (l : List S28) (hl : l.length ≤ 1000) (a : Int) {n : Nat} (h : Upto l a n) : Ev (fun k => conductorref07_Find.f k l a) (fndV l n) :=
  ⟨l.length + 1, fun k hk => by rw [← fnd_eq h]; exact rFind_loop l (by omega) a l.length 0 0 false [] false k (by omega) (by omega)⟩
theorem rGet_ev (l : List S28) (hl : l.length ≤ 1000) (a : Int) {n : Nat} (h : Upto l a n) : Ev (fun k => conductorref07_Get.f k l a) (getV l n) := by
  unfold conductorref07_Get.f
  refine Ev.bind (rFind_ev l hl a h) (Ev.congr (f := fun _ => some (getV l n)) (fun k => ?_) (Ev.now _))
  by_cases h0 : 0 < n ∧ n ≤ l.length
  · rw [fndV_pos h0, getV_pos h0]
    simp only [if_true]
    by_cases h1 : l[n - 1].f1 = true <;> simp only [h1, if_true, if_false, Bool.false_eq_true]
  · rw [fndV_neg h0, getV_neg h0]
    simp
def sameV (x y : S28) : Bool := decide (x.f0 = y.f0) && ((x.f1 == y.f1) && ((strOfNums x.f2).toList == (strOfNums y.f2).toList))
def sameL : List S28 → List S28 → Bool
  | x :: s, y :: t => if sameV x y = true then sameL s t else false
  | _, _ => true
theorem sameOne_eq (x y : S28) : conductorref07_SameOne.f x.f0 x.f1 x.f2 y.f0 y.f1 y.f2 = some (sameV x y) := by
  unfold conductorref07_SameOne.f conductorref01_Equal.f sameV
  by_cases h1 : x.f0 = y.f0
  · by_cases h2 : (x.f1 == y.f1) = true
    · rw [if_pos h1, if_pos h2]; simp [h1, h2]
    · rw [if_pos h1, if_neg h2]; simp at h2; simp [h1, h2]
  · rw [if_neg h1]; simp [h1]
theorem rSame_loop (l m : List S28) (hl : l.length ≤ 9223372036854775807) (he : l.length = m.length) : ∀ (d i k : Nat), i + d = l.length → d < k → conductorref07_Same.l0 k l m l.length i = some (sameL (l.drop i) (m.drop i)) := by
  intro d
  induction d with
  | zero =>
    intro i k hd hk
    obtain ⟨k, rfl⟩ : ∃ m, k = m + 1 := ⟨k - 1, by omega⟩
    simp only [conductorref07_Same.l0]
    rw [if_neg (by omega), List.drop_eq_nil_of_le (by omega)]; simp [sameL]
  | succ d ih =>
    intro i k hd hk
    obtain ⟨k, rfl⟩ : ∃ m, k = m + 1 := ⟨k - 1, by omega⟩
    have hi : i < l.length := by omega
    simp only [conductorref07_Same.l0]
    rw [if_pos (by omega), if_pos (by omega), if_pos (by omega), if_pos (by omega), w1 hi hl, rd_nat l i hi, rd_nat m i (by omega), List.drop_eq_getElem_cons hi, List.drop_eq_getElem_cons (show i < m.length by omega), ih (i + 1) k (by omega) (by omega), sameOne_eq]
    simp only [sameL, Option.bind_some]
    split <;> rfl
def sameB (l m : List S28) : Bool := if (l.length : Int) = m.length then sameL l m else false
theorem rSame_ev (l m : List S28) (hl : l.length ≤ 9223372036854775807) : Ev (fun k => conductorref07_Same.f k l m) (sameB l m) := by
  unfold conductorref07_Same.f sameB
  by_cases h : (l.length : Int) = m.length
  · simp only [if_pos h]
    exact ⟨l.length + 1, fun k hk => rSame_loop l m hl (by omega) l.length 0 k (by omega) (by omega)⟩
  · simp only [if_neg h]; exact Ev.now _
theorem sameV_refl (x : S28) : sameV x x = true := by simp [sameV]
theorem sameL_refl : ∀ l : List S28, sameL l l = true
  | [] => rfl
  | x :: t => by simp only [sameL, sameV_refl, if_true]; exact sameL_refl t
theorem sameB_refl (l : List S28) : sameB l l = true := by simp [sameB, sameL_refl]
theorem rSame_refl (l : List S28) (hl : l.length ≤ 9223372036854775807) : Ev (fun k => conductorref07_Same.f k l l) true := by have := rSame_ev l l hl; rwa [sameB_refl] at this
theorem eqB (l m : List Int) : conductorref01_Equal.f l m = some ((strOfNums l).toList == (strOfNums m).toList) := rfl
theorem eq_refl (l : List Int) : conductorref01_Equal.f l l = some true := by simp [eqB]
/-- Where a chain is cut. -/
def tAt (l : List S28) (n : Nat) : Nat := if h : 0 < n ∧ n ≤ l.length then (if l[n - 1].f1 = false then n - 1 else n) else n
theorem trimAt_eq {l : List S28} {a : Int} (hs : rgt 0 l = true) {n : Nat} (h : Upto l a n) : trimAt l a = tAt l n := by
  unfold trimAt tAt
  rw [upto_val hs h]
  by_cases h0 : 0 < n
  · have e : (n : Int) - 1 = ((n - 1 : Nat) : Int) := by omega
    have hn := h.1
    rw [dif_pos ⟨h0, hn⟩, e, rd_nat l (n - 1) (by omega)]
    by_cases hg : l[n - 1].f1 = false
    · rw [if_pos ⟨by omega, hg⟩, if_pos hg]
    · rw [if_neg (fun hc => hg hc.2), if_neg hg]
  · rw [if_neg (by omega), dif_neg (by omega)]
theorem tAt_le (l : List S28) (n : Nat) : tAt l n ≤ n := by
  unfold tAt
  split
  · split <;> omega
  · omega
theorem Upto.le {l : List S28} {a b : Int} {n n' : Nat} (h : Upto l a n) (h' : Upto l b n') (hab : a ≤ b) : n ≤ n' := by
  rcases Nat.lt_or_ge n' n with hlt | hge
  · have h1 := h.2.1 n' (by have := h.1; omega) hlt
    have h2 := h'.2.2 n' (by have := h.1; omega) (Nat.le_refl _)
    omega
  · exact hge
theorem Upto.drop {l : List S28} {a : Int} {n : Nat} (h : Upto l a n) (t : Nat) (ht : t ≤ n) : Upto (l.drop t) a (n - t) := by
  have hn := h.1
  refine ⟨by rw [List.length_drop]; omega, fun j hj hlt => ?_, fun j hj hge => ?_⟩
  · rw [List.getElem_drop]; exact h.2.1 _ (by rw [List.length_drop] at hj; omega) (by omega)
  · rw [List.getElem_drop]; exact h.2.2 _ (by rw [List.length_drop] at hj; omega) (by omega)
theorem get_trim {l : List S28} {a b : Int} {n n' : Nat} (h : Upto l a n) (h' : Upto l b n') (hle : n ≤ n') : getV (l.drop (tAt l n)) (n' - tAt l n) = getV l n' := by
  have hn := h.1
  have hn' := h'.1
  have ht := tAt_le l n
  by_cases h0 : tAt l n < n'
  · rw [getV_pos ⟨by omega, by rw [List.length_drop]; omega⟩, getV_pos ⟨by omega, hn'⟩]
    have e : (l.drop (tAt l n))[n' - tAt l n - 1]'(by rw [List.length_drop]; omega) = l[n' - 1] := by
      rw [List.getElem_drop]; congr 1; omega
    rw [e]
  · have e1 : n' = n := by omega
    subst e1
    have e2 : tAt l n' = n' := by omega
    rw [getV_neg (by omega)]
    by_cases h1 : 0 < n' ∧ n' ≤ l.length
    · rw [getV_pos h1]
      unfold tAt at e2
      rw [dif_pos h1] at e2
      by_cases hg : l[n' - 1].f1 = false
      · rw [if_pos hg] at e2; omega
      · rw [if_pos (by simpa using hg)]
    · rw [getV_neg h1]
end Go.Proofs.Yteofdgonpbmdlaa.Pure
namespace Go.Proofs.Yteofdgonpbmdlaa.C
open Go.RowKit Go.Proofs.YteofdgonpbmdlaaW.PrintWords Go.Proofs.YteofdgonpbmdlaaW.PrintLast Go.Proofs.YteofdgonpbmdlaaW.PrintMore
attribute [local go_sem] max2_int min2_int max_two min_two max_three min_three max_four min_four
set_option linter.unusedVariables false
set_option linter.unusedSimpArgs false
def chain_Size.l0 : Nat → Int → List (S28) → Int → Int → Option (Int)
 | 0, _, _, _, _ => none
 | k + 1, x3, x6, x7, x8 => if x8 < x7 then (if 0 ≤ x8 then (if x8 < (x6.length : Int) then (chain_Size.l0 k (wrap64 (x3 + (((rd_T28 x6 x8).f2).length : Int))) x6 x7 (wrap64 (x8 + 1))) else (none)) else (none)) else (some x3)
def chain_Size.f (k : Nat) (l0 : List (S28)) : Option (Int) := chain_Size.l0 k 0 l0 (l0.length : Int) 0
theorem chain_Size.mono_l : ∀ k, (∀ y0 y1 y2 y3, LeO (chain_Size.l0 k y0 y1 y2 y3) (chain_Size.l0 (k + 1) y0 y1 y2 y3))
 | 0 => fun _ _ _ _ r h => by simp [chain_Size.l0] at h
 | k + 1 => by
  have ih0 := chain_Size.mono_l k
  ·intro y0 y1 y2 y3
   unfold chain_Size.l0
   repeat' first
   | (with_reducible exact ih0 _ _ _ _)
   | (with_reducible exact LeO.refl _)
   | (with_reducible exact LeO.none _)
   | (with_reducible refine LeO.ite ?_ ?_)
   | (with_reducible refine LeO.bind ?_ (fun _ => ?_))
   | exact ih0 _ _ _ _
   | exact LeO.none _
   | refine LeO.ite ?_ ?_
   | refine LeO.bind ?_ (fun _ => ?_)
theorem chain_Size.mono : ∀ a0 k, LeO (chain_Size.f k a0) (chain_Size.f (k + 1) a0) := by
 intro a0 k
 have ih0 := chain_Size.mono_l k
 unfold chain_Size.f
 repeat' first
   | (with_reducible exact ih0 _ _ _ _)
   | (with_reducible exact LeO.refl _)
   | (with_reducible exact LeO.none _)
   | (with_reducible refine LeO.ite ?_ ?_)
   | (with_reducible refine LeO.bind ?_ (fun _ => ?_))
   | exact ih0 _ _ _ _
   | exact LeO.none _
   | refine LeO.ite ?_ ?_
   | refine LeO.bind ?_ (fun _ => ?_)
set_option maxHeartbeats 8000000 in
set_option maxRecDepth 100000 in
theorem chain_Size.calls (k : Nat) (A0 : Option Addr) (c0 : Nat) (l0 : List (S28)) (r : Int) (w : World) (hr0 : Kd.C k28 w A0 l0.length l0) (hc0 : l0.length ≤ c0) (h : chain_Size.f k l0 = some r) :
  Calls Try.prog 34 #[.slice A0 l0.length c0] w fun e w' => e = .returned (.int .i64 r) ∧ Below w.heap.size w w' := by
 have hu28 := Try.underlying28
 have HR0 := Aside0.mk hr0; have HC0 := Aside0.mk hc0; clear hr0 hc0
 have HB := Aside0.mk (Below.refl w.heap.size w)
 have H : (chain_Size.l0 k 0 l0 (l0.length : Int) 0) = some r := h
 clear h; have H' := Aside0.mk H; clear H
 go_enter Try.func34, Try.ntmps34
 go_wp2
 go_loopg [3, 8] k (fun kq v3 v8 w' => ∃ (x3_1 : Int) (x8_1 : Int), v3 = .int .i64 x3_1 ∧ v8 = .int .i64 x8_1 ∧ Aside0 (chain_Size.l0 kq x3_1 l0 (l0.length : Int) x8_1 = some r) ∧ Aside0 (kq ≤ k) ∧ Aside0 (Below w.heap.size w w'))
 case atStart => exact ⟨(0), (0), (by first | rfl | (simp; done) | (simp [*]; done)), (by first | rfl | (simp; done) | (simp [*]; done)), H', ⟨Nat.le_refl _⟩, ⟨bl_⟩⟩
 case round =>
  clear H'; obtain ⟨x3_1, x8_1, rfl, rfl, HA, HK1, HB⟩ := hrel
  cases gk with
  | zero => exact absurd HA.out (by simp [chain_Size.l0])
  | succ k1 =>
   have H := HA.out
   clear HA
   simp only [chain_Size.l0] at H
   by_cases c2 : x8_1 < (l0.length : Int)
   ·rw [if_pos c2] at H
    have c2b0 : decide (x8_1 < (l0.length : Int)) = true := decide_eq_true c2
    clear c2
    by_cases c3 : 0 ≤ x8_1
    ·rw [if_pos c3] at H
     have c3b0 : decide (0 ≤ x8_1) = true := decide_eq_true c3
     clear c3
     by_cases c4 : x8_1 < (l0.length : Int)
     ·rw [if_pos c4] at H
      have c4b0 : decide (x8_1 < (l0.length : Int)) = true := decide_eq_true c4
      clear c4; have H' := Aside0.mk H; clear H
      have p347 : 0 ≤ (x8_1 : Int) := od_
      have q347 : x8_1 < (l0.length : Int) := od_
      obtain ⟨ad347, A347_2, c347_2, e347, hx347_0, hx347_1, hx347_2, hl347_2, hi347_2⟩ := at_T28 HR0.out x8_1 p347 q347; cases e347
      replace hx347_0 := up_ HB.out hx347_0
      replace hx347_1 := up_ HB.out hx347_1
      replace hx347_2 := up_ HB.out hx347_2
      have HR347_2 := Aside0.mk hi347_2; have HC347_2 := Aside0.mk hl347_2; clear hi347_2 hl347_2; replace p347 := eq_true p347; replace q347 := eq_true q347
      go_wp2_with (first | ((with_reducible refine gate_dst (N := 5) rfl ?_); refine box_event ?hg (N := 5) ?hd (cs := #[.int .u64 0, .bool false, .slice none 0 0]) (t := 28) ?hr ?_; (case hd => rfl); (case hg => rfl); (case hr => first | (go_simp; done) | (go_simp; rfl)); intro gb348 hg w5 hbox hb; have n0_ := Aside0.mk (below_step bl_ hb); have n1_ := Aside0.mk (hbox); have n2_ := Aside0.mk (bsz_ hg : w.heap.size ≤ gb348); have n3_ := Aside0.mk (bsz_ hg : w.heap.size ≤ gb348); clear HB; have HB := n0_; have BK348 := n1_; have GW348 := n2_; have GE348 := n3_; clear n0_ n1_ n2_ n3_; clear hb hbox hg; obtain ⟨hcz6_0, hcz6_1, hcz6_2, hfz6_0, hfz6_1, hfz6_2⟩ := blk3_ BK348.out))
      go_roundg k1
      case measure => have := HK1.out; omega
      case rel => exact ⟨(wrap64 (x3_1 + (((rd_T28 l0 x8_1).f2).length : Int))), (wrap64 (x8_1 + 1)), (by first | rfl | (simp; done) | (simp [*]; done)), (by first | rfl | (simp; done) | (simp [*]; done)), H', ⟨by have := HK1.out; omega⟩, ⟨bl_⟩⟩
     ·rw [if_neg c4] at H
      exact absurd H (by simp)
    ·rw [if_neg c3] at H
     exact absurd H (by simp)
   ·rw [if_neg c2] at H
    have c2b0 : decide (x8_1 < (l0.length : Int)) = false := decide_eq_false c2
    clear c2; obtain rfl := Option.some.inj H
    go_wp2
    go_ret
    exact ⟨by first | rfl | (simp [errW_none, errW_some] <;> rfl) | (simp [*, errW_none, errW_some] <;> rfl), bl_⟩
end Go.Proofs.Yteofdgonpbmdlaa.C
namespace Go.Proofs.Yteofdgonpbmdlaa.St
open Go.RowKit Go.Proofs.YteofdgonpbmdlaaW.PrintWords Go.Proofs.Yteofdgonpbmdlaa.C Go.Proofs.Yteofdgonpbmdlaa.Pure
/-- How many versions are at most of a time. -/
def up (l : List S28) (a : Int) : Nat := (upto_go l a l.length 0 l.length).toNat
theorem up_spec {l : List S28} (hs : rgt 0 l = true) (a : Int) : Upto l a (up l a) := by
  obtain ⟨n, h1, h2⟩ := upto_is l a hs
  unfold up
  rw [h1]
  exact h2
theorem up_is {l : List S28} {a : Int} (hs : rgt 0 l = true) {n : Nat} (h : Upto l a n) : up l a = n := (up_spec hs a).uniq h
def getF (l : List S28) (a : Int) : List Int × Bool := getV l (up l a)
def trimF (l : List S28) (a : Int) : List S28 := l.drop (tAt l (up l a))
def lastF (l : List S28) : Int := if h : 0 < l.length then l[l.length - 1].f0 else 0
def dsz (l : List S28) : Nat := (l.map fun v => v.f2.length).sum
theorem clone5 {l : List Int} (h : l.length ≤ 5000) : bytes_Clone.f l = some l := by unfold bytes_Clone.f; rw [if_pos (by omega)]
theorem find5 {l : List S28} {a : Int} (hs : rgt 0 l = true) (hf : ∀ v ∈ l, v.f2.length ≤ 5000) (hl : l.length ≤ 1000) {n : Nat} (h : Upto l a n) : chain_Find.f l a = some (fndV l n) := by
  unfold chain_Find.f chain_upto.f
  rw [upto_val hs h]
  simp only [Option.bind_some]
  by_cases h0 : 0 < n
  · have hn := h.1
    have hw : wrap64 ((n : Int) - 1) = ((n - 1 : Nat) : Int) := by unfold wrap64; omega
    rw [if_neg (by omega), hw, if_pos (by omega), if_pos (by omega), rd_nat l (n - 1) (by omega), clone5 (hf _ (List.getElem_mem _))]
    simp only [Option.bind_some, fndV]
    rw [dif_pos ⟨h0, hn⟩]
  · rw [if_pos (by omega), fndV, dif_neg (by omega)]
theorem get5 {l : List S28} (hs : rgt 0 l = true) (hf : ∀ v ∈ l, v.f2.length ≤ 5000) (hl : l.length ≤ 1000) (a : Int) : chain_Get.f l a = some (getF l a) := by
  unfold chain_Get.f getF
  have h := up_spec hs a
  generalize up l a = n at h
  rw [find5 hs hf hl h]
  simp only [Option.bind_some]
  by_cases h0 : 0 < n ∧ n ≤ l.length
  · rw [fndV_pos h0, getV_pos h0]
    simp only [if_true]
    by_cases h1 : l[n - 1].f1 = true <;> simp only [h1, if_true, if_false, Bool.false_eq_true]
  · rw [fndV_neg h0, getV_neg h0]
    simp
theorem last5 {l : List S28} (hl : l.length ≤ 1000) : chain_Last.f l = some (lastF l) := last_eq hl
theorem owned5_loop (l : List S28) (hl : l.length ≤ 1000) (hf : ∀ v ∈ l, v.f2.length ≤ 5000) : ∀ (d i k : Nat), i + d = l.length → d < k → chain_owned.l0 k (l.take i) l l.length i = some l := by
  intro d
  induction d with
  | zero =>
    intro i k hd hk
    obtain ⟨k, rfl⟩ : ∃ m, k = m + 1 := ⟨k - 1, by omega⟩
    simp only [chain_owned.l0]
    rw [if_neg (by omega), List.take_of_length_le (by omega)]
  | succ d ih =>
    intro i k hd hk
    obtain ⟨k, rfl⟩ : ∃ m, k = m + 1 := ⟨k - 1, by omega⟩
    have hi : i < l.length := by omega
    simp only [chain_owned.l0]
    rw [if_pos (by omega), if_pos (by omega), if_pos (by omega), w1 hi (by omega), rd_nat l i hi, clone5 (hf _ (List.getElem_mem _))]
    simp only [Option.bind_some]
    rw [if_pos (by rw [List.length_take]; omega)]
    have := ih (i + 1) k (by omega) (by omega)
    rwa [List.take_succ_eq_append_getElem hi] at this
theorem owned5 (l : List S28) (hl : l.length ≤ 1000) (hf : ∀ v ∈ l, v.f2.length ≤ 5000) : Ev (fun k => chain_owned.f k l) l := by
  refine ⟨l.length + 1, fun k hk => ?_⟩
  show chain_owned.f k l = some l
  have hw : wrap64 ((l.length : Int) + 1) = ((l.length + 1 : Nat) : Int) := by unfold wrap64; omega
  unfold chain_owned.f
  rw [hw, if_pos (by omega), if_pos (by omega)]
  exact owned5_loop l hl hf l.length 0 k (by omega) (by omega)
theorem trim5 {l : List S28} (hs : rgt 0 l = true) (hf : ∀ v ∈ l, v.f2.length ≤ 5000) (hl : l.length ≤ 1000) (a : Int) : Ev (fun k => chain_Trim.f k l a) (trimF l a) := by
  unfold chain_Trim.f trimF
  rw [trimAt_eq hs (up_spec hs a)]
  exact owned5 _ (by rw [List.length_drop]; omega) (fun v hv => hf v (List.mem_of_mem_drop hv))
theorem put5 {l : List S28} (hl : l.length ≤ 900) (hf : ∀ v ∈ l, v.f2.length ≤ 5000) (v : S28) (hv : v.f2.length ≤ 5000) (h1 : rgt 0 l = true) (h2 : rgt 0 [v] = true) (h3 : ¬ v.f0 ≤ lastF l) :
    Ev (fun k => chain_Put.f k l v.f0 v.f1 v.f2) (l ++ [v], 0) := by
  unfold chain_Put.f
  refine Ev.bind (cRight_ev l (by omega)) ?_
  simp only [h1, if_true]
  refine Ev.bind (cRight_ev [(⟨v.f0, v.f1, v.f2⟩ : S28)] (by simp)) ?_
  rw [show rgt 0 [(⟨v.f0, v.f1, v.f2⟩ : S28)] = true from h2]
  refine Ev.step (fun k => by simp only [chain_Put.j0, Bool.not_true, Bool.false_eq_true, if_false]; rfl) ?_
  refine Ev.bind (g := fun _ => chain_Last.f l) (Ev.congr (fun _ => last5 (by omega)) (Ev.now _)) ?_
  simp only [if_neg h3]
  refine Ev.bind (g := fun _ => bytes_Clone.f v.f2) (Ev.congr (fun _ => clone5 hv) (Ev.now _)) ?_
  refine Ev.bind (owned5 l (by omega) hf) ?_
  simp only [Option.bind_some, List.length_cons, List.length_nil]
  exact Ev.congr (fun _ => if_pos (by omega)) (Ev.now _)
theorem sum5 (l : List S28) (hf : ∀ v ∈ l, v.f2.length ≤ 5000) : ∀ x : Int, 0 ≤ x → x + 5000 * (l.length : Int) ≤ 1000000000 → l.foldl (fun x v => wrap64 (x + (v.f2.length : Int))) x = x + (dsz l : Nat) ∧ dsz l ≤ 5000 * l.length := by
  induction l with
  | nil => intro x _ _; simp [dsz]
  | cons v t ih =>
    intro x h0 hx
    have hv := hf v (List.mem_cons_self ..)
    rw [List.length_cons] at hx
    have hw : wrap64 (x + (v.f2.length : Int)) = x + (v.f2.length : Int) := by unfold wrap64; omega
    obtain ⟨h1, h2⟩ := ih (fun w hw => hf w (List.mem_cons_of_mem _ hw)) (x + (v.f2.length : Int)) (by omega) (by omega)
    unfold dsz at h1 h2 ⊢
    simp only [List.foldl_cons, hw, h1, List.map_cons, List.sum_cons, List.length_cons]
    omega
theorem size5_loop (l : List S28) (hl : l.length ≤ 9223372036854775807) : ∀ (d i : Nat) (x : Int) (k : Nat), i + d = l.length → d < k → chain_Size.l0 k x l l.length i = some ((l.drop i).foldl (fun x v => wrap64 (x + (v.f2.length : Int))) x) := by
  intro d
  induction d with
  | zero =>
    intro i x k hd hk
    obtain ⟨k, rfl⟩ : ∃ m, k = m + 1 := ⟨k - 1, by omega⟩
    simp only [chain_Size.l0]
    rw [if_neg (by omega), List.drop_eq_nil_of_le (by omega)]; rfl
  | succ d ih =>
    intro i x k hd hk
    obtain ⟨k, rfl⟩ : ∃ m, k = m + 1 := ⟨k - 1, by omega⟩
    have hi : i < l.length := by omega
    simp only [chain_Size.l0]
    rw [if_pos (by omega), if_pos (by omega), if_pos (by omega), w1 hi hl, rd_nat l i hi, List.drop_eq_getElem_cons hi, ih (i + 1) _ k (by omega) (by omega)]
    rfl
theorem size5 (l : List S28) (hl : l.length ≤ 1000) (hf : ∀ v ∈ l, v.f2.length ≤ 5000) : Ev (fun k => chain_Size.f k l) (dsz l : Nat) := by
  have h := (sum5 l hf 0 (by omega) (by omega)).1
  rw [Int.zero_add] at h
  rw [← h]
  exact ⟨l.length + 1, fun k hk => size5_loop l (by omega) l.length 0 0 k (by omega) (by omega)⟩
theorem tPos {l : List S28} {n : Nat} (h : 0 < n ∧ n ≤ l.length) : tAt l n = (if l[n - 1].f1 = false then n - 1 else n) := dif_pos h
theorem tTwice {l : List S28} {n m : Nat} (hn : n ≤ l.length) (hm : m ≤ n) : tAt l m + tAt (l.drop (tAt l m)) (n - tAt l m) = tAt l n := by
  have ht := tAt_le l m
  by_cases h0 : tAt l m < n
  · have e : ∀ h, (l.drop (tAt l m))[n - tAt l m - 1]'h = l[n - 1] := by
      intro h; rw [List.getElem_drop]; congr 1; omega
    rw [tPos (l := l.drop (tAt l m)) (n := n - tAt l m) ⟨by omega, by rw [List.length_drop]; omega⟩, e, tPos (l := l) (n := n) ⟨by omega, hn⟩]
    by_cases hg : l[n - 1].f1 = false
    · rw [if_pos hg, if_pos hg]; omega
    · rw [if_neg hg, if_neg hg]; omega
  · have e1 : n = m := by omega
    subst e1
    have e2 : tAt l n = n := by omega
    have e3 : tAt (l.drop (tAt l n)) (n - tAt l n) = 0 := by have := tAt_le (l.drop (tAt l n)) (n - tAt l n); omega
    rw [e3]; omega
theorem rgt_trim {l : List S28} (hs : rgt 0 l = true) (a : Int) : rgt 0 (trimF l a) = true := rgt_drop hs _
theorem up_trim {l : List S28} (hs : rgt 0 l = true) {a b : Int} (hab : a ≤ b) : up (trimF l a) b = up l b - tAt l (up l a) := by
  have h1 := up_spec hs a
  have h2 := up_spec hs b
  have h3 := tAt_le l (up l a)
  have h4 := h1.le h2 hab
  exact up_is (rgt_trim hs a) (h2.drop _ (by omega))
/-- From low on a trimmed chain is asked the same. -/
theorem get_trimF {l : List S28} (hs : rgt 0 l = true) {a b : Int} (hab : a ≤ b) : getF (trimF l a) b = getF l b := by
  unfold getF
  rw [up_trim hs hab]
  exact get_trim (up_spec hs a) (up_spec hs b) ((up_spec hs a).le (up_spec hs b) hab)
theorem trim_trim {l : List S28} (hs : rgt 0 l = true) {a b : Int} (hab : a ≤ b) : trimF (trimF l a) b = trimF l b := by
  have h1 := up_spec hs a
  have h2 := up_spec hs b
  have e := up_trim hs hab
  have e2 := tTwice h2.1 (h1.le h2 hab)
  unfold trimF at e ⊢
  rw [e, List.drop_drop, e2]
theorem trim_sub (l : List S28) (a : Int) : (trimF l a).Sublist l := List.drop_sublist _ _
theorem trim_len (l : List S28) (a : Int) : (trimF l a).length ≤ l.length := (trim_sub l a).length_le
theorem dsz_sub {l m : List S28} (h : l.Sublist m) : dsz l ≤ dsz m := by
  unfold dsz
  induction h with
  | slnil => exact Nat.le_refl _
  | cons a _ ih => simp only [List.map_cons, List.sum_cons]; omega
  | cons_cons a _ ih => simp only [List.map_cons, List.sum_cons]; omega
theorem lastF_le {l : List S28} {a : Int} (ha : 0 ≤ a) (h : ∀ v ∈ l, v.f0 ≤ a) : lastF l ≤ a := by
  unfold lastF
  split
  · exact h _ (List.getElem_mem _)
  · exact ha
theorem rgt_app {l : List S28} (hs : rgt 0 l = true) (v : S28) (h : ∀ x ∈ l, x.f0 < v.f0) (h0 : 0 < v.f0) (hg : v.f1 = true → v.f2 = []) : rgt 0 (l ++ [v]) = true := by
  rw [rgt_iff] at hs ⊢
  refine ⟨fun x hx => ?_, List.pairwise_append.2 ⟨hs.2, by simp, fun x hx y hy => ?_⟩⟩
  · rcases List.mem_append.1 hx with hx | hx
    · exact hs.1 x hx
    · rw [List.mem_singleton.1 hx]; exact ⟨h0, hg⟩
  · rw [List.mem_singleton.1 hy]; exact h x hx
/-- Where all is at most of a time, the last version is asked. -/
theorem get_all {l : List S28} (hs : rgt 0 l = true) {a : Int} (h : ∀ v ∈ l, v.f0 ≤ a) : getF l a = getV l l.length := by
  unfold getF
  rw [up_is hs ⟨Nat.le_refl _, fun j hj _ => h _ (List.getElem_mem hj), fun j hj hge => by omega⟩]
end Go.Proofs.Yteofdgonpbmdlaa.St
namespace Go.Proofs.Yteofdgonpbmdlaa.C
open Go.RowKit Go.Maps Go.Proofs.YteofdgonpbmdlaaW.PrintWords Go.Proofs.YteofdgonpbmdlaaW.PrintLast Go.Proofs.YteofdgonpbmdlaaW.PrintMore
attribute [local go_sem] max2_int min2_int max_two min_two max_three min_three max_four min_four
/-- A map's element that stands for itself. -/
def tok (v : Value) : Option (DataW Value × List MemPlace) := some (.held v, [])
theorem law9 : Keyed Try.prog 9 := string_keyed Try.underlying9
def noCh : Value := .slice none 0 0
theorem zero22 (w : World) : (zeroValue 22).run Try.prog w = .ok noCh w := by kernel_rfl
/-- A store, plainly: limits, time, keys, chains, sizes. -/
structure SS where
  l0 : Int
  l1 : Int
  l2 : Int
  l3 : Int
  l4 : Int
  l5 : Int
  last : Int
  now : Int
  keys : List ByteArray
  ch : ByteArray → List S28
  n0 : Int
  n1 : Int
  n2 : Int
def cellsOf (s : SS) (kv : Value) (mb : Nat) : Array Value := #[.int .i64 s.l0, .int .i64 s.l1, .int .i64 s.l2, .int .i64 s.l3, .int .i64 s.l4, .int .i64 s.l5, .int .u64 s.last, .int .u64 s.now, kv, .map (some mb), .int .i64 s.n0, .int .i64 s.n1, .int .i64 s.n2]
/-- What a key's entry in the map leads to. -/
def chAt (W : World) (B : Nat → Prop) (p mb : Nat) (kv : Value) (D : DataW Value) (ch : ByteArray → List S28) (key : ByteArray) : Prop :=
  ∃ A c, D.atKey (.string key.data.toList) (.held noCh) = .held (.slice A (ch key).length c) ∧ (ch key).length ≤ c ∧ Kd.F k28 W (fun q => B q ∧ q ≠ p ∧ q ≠ mb ∧ some q ≠ kv.ownBlock) A (ch key).length (ch key)
/-- A store's keys: a row of its own, or what [:0:0] left of one. -/
def KeysAt (W : World) (base : Nat) (ok : Nat → Prop) (kv : Value) (keys : List ByteArray) : Prop := Kd.R Kd.string 9 W base ok kv keys ∨ (keys = [] ∧ ∃ a : Addr, kv = .slice (some a) 0 0 ∧ ok a.block ∧ a.block < W.heap.size)
theorem KeysAt.row {W : World} {base : Nat} {ok : Nat → Prop} {kv : Value} {keys : List ByteArray} (h : KeysAt W base ok kv keys) : ∃ A c, kv = .slice A keys.length c ∧ keys.length ≤ c ∧ Kd.string.C W A keys.length keys := by
  rcases h with h | ⟨rfl, a, rfl, _, _⟩
  · obtain ⟨A, c, e⟩ := Kd.R_slice h
    subst e
    exact ⟨A, c, rfl, (Kd.R_reads' h).2.1, (Kd.R_reads' h).2.2⟩
  · exact ⟨some a, 0, rfl, Nat.le_refl _, Kd.F_now (Kd.F_nil Kd.string W (fun _ => True)) |> fun q => ⟨q.1, q.2.1, fun hh => absurd hh (by simp)⟩⟩
structure StoreAt (W : World) (base : Nat) (B : Nat → Prop) (p : Nat) (s : SS) (kv : Value) (mb n : Nat) (D : DataW Value) : Prop where
  cells : W.heap[p]? = some (.cells (cellsOf s kv mb) 91 (0, 0))
  keys : KeysAt W base (fun q => B q ∧ q ≠ p ∧ q ≠ mb) kv s.keys
  map : W.ownsMap Try.prog 9 tok mb n D
  bb : ∀ k, B k → base ≤ k
  bn : ∀ k, W.heap.size ≤ k → B k
  bp : B p
  bm : B mb
  pm : p ≠ mb
  chains : ∀ key : ByteArray, key.size ≤ maxLen → chAt W B p mb kv D s.ch key
theorem StoreAt.below {W W1 : World} {base p : Nat} {B : Nat → Prop} {s : SS} {kv : Value} {mb n : Nat} {D : DataW Value} (h : StoreAt W base B p s kv mb n D) (hb : Below W.heap.size W W1) : StoreAt W1 base B p s kv mb n D where
  cells := by
    have := h.cells
    rw [hb.block p (by by_cases e : p < W.heap.size; exact e; rw [Array.getElem?_eq_none (by omega)] at this; cases this)]
    exact this
  keys := h.keys.imp (fun k => Kd.R_below k hb) (fun ⟨e, a, h1, h2, h3⟩ => ⟨e, a, h1, h2, Nat.lt_of_lt_of_le h3 hb.size⟩)
  map := by
    obtain ⟨es, clock, h1, h2⟩ := h.map
    refine ⟨es, clock, ?_, h2⟩
    rw [hb.block mb (by by_cases e : mb < W.heap.size; exact e; rw [Array.getElem?_eq_none (by omega)] at h1; cases h1)]
    exact h1
  bb := h.bb
  bn := fun k hk => h.bn k (Nat.le_trans hb.size hk)
  bp := h.bp
  bm := h.bm
  pm := h.pm
  chains := fun key hk => by
    obtain ⟨A, c, h1, h2, h3⟩ := h.chains key hk
    exact ⟨A, c, h1, h2, Kd.F_below h3 hb⟩
theorem StoreAt.look {W : World} {base p : Nat} {B : Nat → Prop} {s : SS} {kv : Value} {mb n : Nat} {D : DataW Value} (h : StoreAt W base B p s kv mb n D) (key : ByteArray) (hk : key.size ≤ maxLen) :
    ∃ A c, (Instr.lookup 89 (.map (some mb)) (.string key) false).run Try.prog W = .ok (.slice A (s.ch key).length c) W ∧ (s.ch key).length ≤ c ∧ Kd.F k28 W (fun q => B q ∧ q ≠ p ∧ q ≠ mb ∧ some q ≠ kv.ownBlock) A (s.ch key).length (s.ch key) := by
  obtain ⟨A, c, h1, h2, h3⟩ := h.chains key hk
  obtain ⟨v, ps, hrun, hv⟩ := h.map.lookup (e := 22) law9 Try.underlying89 (zero22 W) (zd := .held noCh) (zp := []) rfl (key := .string key) (Go.WideMaps.keyOf_string_mk Try.underlying9 hk)
  rw [h1] at hv
  unfold tok at hv
  injection hv with hv
  injection hv with hv _
  injection hv with hv
  exact ⟨A, c, by rw [hrun, hv], h2, h3⟩
set_option maxHeartbeats 1000000 in
theorem store_is.calls {W : World} {base p : Nat} {B : Nat → Prop} {s : SS} {kv : Value} {mb n : Nat} {D : DataW Value} (h : Aside0 (StoreAt W base B p s kv mb n D)) :
    Calls Try.prog 70 #[.pointer (some ⟨p, 0, none⟩)] W fun e w' => e = .returned (.bool true) ∧ w' = W := by
  have h9 : W.cell? ⟨p, 9, none⟩ = some (.map (some mb)) := (blk_cell h.out.cells 9).trans rfl
  have hne := fun (W : World) (r : Option Nat) => run_neq_map_nil (P := Try.prog) W 89 9 22 r Try.underlying89
  clear h
  go_enter Try.func70, Try.ntmps70
  go_wp2
  go_ret
  exact ⟨rfl, rfl⟩
end Go.Proofs.Yteofdgonpbmdlaa.C
