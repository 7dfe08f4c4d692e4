/- Printed by a program of this session (pp.py) over the print of the kit: functions of the translation as plain functions, and the contracts of their calls. No condition. -/
import Derived.Test.YteofdgonpbmdlaaC0
import Derived.Test.YteofdgonpbmdlaaC1
import Derived.Test.YteofdgonpbmdlaaC5
namespace Go.Proofs.Yteofdgonpbmdlaa.C
open Go.RowKit Go.Proofs.YteofdgonpbmdlaaW.PrintWords Go.Proofs.YteofdgonpbmdlaaW.PrintLast Go.Proofs.YteofdgonpbmdlaaW.PrintMore
attribute [local go_sem] max2_int min2_int max_two min_two max_three min_three max_four min_four   -- for this text's walks alone
set_option linter.unusedVariables false
set_option linter.unusedSimpArgs false

/-! ### chain_Trim: function 31 -/
theorem upto_go_bd (l : List S28) (a : Int) : ∀ (k : Nat) (lo hi : Int), lo ≤ hi → lo ≤ upto_go l a k lo hi ∧ upto_go l a k lo hi ≤ hi := by
  intro k
  induction k with
  | zero => intro lo hi h; exact ⟨Int.le_refl _, h⟩
  | succ k ih =>
    intro lo hi h
    simp only [upto_go]
    split
    · split
      · have := ih (lo + (hi - lo) / 2 + 1) hi (by omega); omega
      · have := ih lo (lo + (hi - lo) / 2) (by omega); omega
    · exact ⟨Int.le_refl _, h⟩

/-- Where Trim cuts. -/
def trimAt (l0 : List S28) (a1 : Int) : Int :=
  if upto_go l0 a1 l0.length 0 l0.length > 0 ∧ (rd_T28 l0 (upto_go l0 a1 l0.length 0 l0.length - 1)).f1 = false then upto_go l0 a1 l0.length 0 l0.length - 1 else upto_go l0 a1 l0.length 0 l0.length
def chain_Trim.f (k : Nat) (l0 : List S28) (a1 : Int) : Option (List S28) := chain_owned.f k (l0.drop (trimAt l0 a1).toNat)
theorem chain_Trim.mono : ∀ a0 a1 k, LeO (chain_Trim.f k a0 a1) (chain_Trim.f (k + 1) a0 a1) := fun a0 a1 k => chain_owned.mono _ k

set_option maxHeartbeats 2000000 in
set_option maxRecDepth 100000 in
theorem chain_Trim.calls (k : Nat) (A0 : Option Addr) (c0 : Nat) (l0 : List (S28)) (a1 : Int) (r : List (S28)) (w : World) (hr0 : Kd.C k28 w A0 l0.length l0) (hc0 : l0.length ≤ c0) (h : chain_Trim.f k l0 a1 = some r) :
    Calls Try.prog 31 #[.slice A0 l0.length c0, .int .u64 a1] w fun e w' => ∃ v0_ : Value, e = .returned (v0_) ∧ Kd.N k28 28 w' w.heap.size (fun k_ => (w.heap.size ≤ k_)) v0_ r ∧ Below w.heap.size w w' := by
  unfold chain_Trim.f trimAt at h
  have hm : l0.length ≤ 9223372036854775807 := hr0.2.1
  obtain ⟨hb1, hb2⟩ := upto_go_bd l0 a1 l0.length 0 l0.length (by omega)
  have hu : chain_upto.f l0 a1 = some (upto_go l0 a1 l0.length 0 l0.length) := rfl
  generalize upto_go l0 a1 l0.length 0 l0.length = n at h hb1 hb2 hu
  obtain ⟨i, rfl⟩ := Int.eq_ofNat_of_zero_le hb1
  have hi : i ≤ l0.length := by omega
  have HU := Aside0.mk hu
  have HR := Aside0.mk hr0
  have HC := Aside0.mk hc0
  clear hr0 hc0 hb1 hb2 hu
  have CUT : ∀ j : Nat, j ≤ l0.length → ∃ A' : Option Addr, (∀ W : World, (Instr.slice 22 (.slice A0 l0.length c0) (some (.int .i64 (j : Int))) (some (.int .i64 (l0.length : Int))) (some (.int .i64 (l0.length : Int)))).run Try.prog W = .ok (.slice A' (l0.drop j).length (l0.length - j)) W) ∧
      (∀ w : World, Kd.C k28 w A0 l0.length l0 → Kd.C k28 w A' (l0.drop j).length (l0.drop j)) ∧ (l0.drop j).length ≤ l0.length - j := fun j hj => Kd.cut3 k28 22 28 _ _ Try.underlying22 info28 A0 c0 l0 j hj HC.out
  by_cases h0 : 0 < i
  · obtain ⟨j, e1, ej1, ej2⟩ : ∃ j : Nat, (i : Int) - 1 = j ∧ j < i ∧ i ≤ j + 1 := ⟨i - 1, by omega, by omega, by omega⟩
    have h0i : (0 : Int) < (i : Int) := by omega
    obtain ⟨ad, A2, c2, e, hx0, hx1, hx2, hl2, hi2⟩ := at_T28 HR.out (j : Int) (by omega) (by omega)
    subst e
    simp only [Int.toNat_natCast] at hx0 hx1 hx2
    have hx1' : ∀ w1, Below w.heap.size w w1 → w1.cell? ⟨(ad.add (j * 3)).block, (ad.add (j * 3)).off + 1, none⟩ = some (.bool (rd_T28 l0 (j : Int)).f1) := fun w1 hb => pw_cell_below hb hx1
    have HX := Aside0.mk hx1'
    clear hx0 hx1 hx2 hl2 hi2 hx1'
    simp only [e1] at h
    by_cases hg : (rd_T28 l0 (j : Int)).f1 = false
    · rw [if_pos ⟨by omega, hg⟩, Int.toNat_natCast] at h
      obtain ⟨A', hcut, hC', hl'⟩ := CUT j (by omega)
      generalize l0.drop j = ys at h hcut hC' hl'
      have H := Aside0.mk h
      have HC' := Aside0.mk hC'
      have HL' := Aside0.mk hl'
      clear h CUT hC' hl' h0
      have hgd : (!(rd_T28 l0 (j : Int)).f1) = true := by rw [hg]; rfl
      clear hg
      go_enter Try.func31, Try.ntmps31
      go_wp2_with (first
        | (go_at_call 64; refine (chain_upto.calls _ _ _ _ _ _ HR.out HC.out HU.out).mono ?_; rintro e w1 ⟨rfl, hb1⟩; have hx1 := HX.out _ hb1; have HB1 := Aside0.mk hb1; clear hb1)
        | (go_at_call 66; refine (chain_owned.calls k _ _ _ _ _ (HC'.out _ (Kd.C_below HR.out HB1.out)) HL'.out H.out).mono ?_; rintro e w2 ⟨v2, rfl, hn2, hb2⟩; have HN2 := Aside0.mk hn2; have HB2 := Aside0.mk hb2; clear hn2 hb2))
      go_ret
      refine ⟨_, rfl, ?_, below_step HB1.out HB2.out⟩
      exact Kd.N_lower (Kd.N_mono HN2.out (fun k_ hk => Nat.le_trans HB1.out.size hk)) HB1.out.size
    · rw [if_neg (fun hc => hg hc.2), Int.toNat_natCast] at h
      obtain ⟨A', hcut, hC', hl'⟩ := CUT i (by omega)
      generalize l0.drop i = ys at h hcut hC' hl'
      have H := Aside0.mk h
      have HC' := Aside0.mk hC'
      have HL' := Aside0.mk hl'
      clear h CUT hC' hl' h0
      have hgd : (!(rd_T28 l0 (j : Int)).f1) = false := by cases hq : (rd_T28 l0 (j : Int)).f1 <;> simp_all
      clear hg
      go_enter Try.func31, Try.ntmps31
      go_wp2_with (first
        | (go_at_call 64; refine (chain_upto.calls _ _ _ _ _ _ HR.out HC.out HU.out).mono ?_; rintro e w1 ⟨rfl, hb1⟩; have hx1 := HX.out _ hb1; have HB1 := Aside0.mk hb1; clear hb1)
        | (go_at_call 66; refine (chain_owned.calls k _ _ _ _ _ (HC'.out _ (Kd.C_below HR.out HB1.out)) HL'.out H.out).mono ?_; rintro e w2 ⟨v2, rfl, hn2, hb2⟩; have HN2 := Aside0.mk hn2; have HB2 := Aside0.mk hb2; clear hn2 hb2))
      go_ret
      refine ⟨_, rfl, ?_, below_step HB1.out HB2.out⟩
      exact Kd.N_lower (Kd.N_mono HN2.out (fun k_ hk => Nat.le_trans HB1.out.size hk)) HB1.out.size
  · have h0i : ¬ ((0 : Int) < (i : Int)) := by omega
    rw [if_neg (by omega)] at h
    rw [Int.toNat_natCast] at h
    obtain ⟨A', hcut, hC', hl'⟩ := CUT i (by omega)
    generalize l0.drop i = ys at h hcut hC' hl'
    have H := Aside0.mk h
    have HC' := Aside0.mk hC'
    have HL' := Aside0.mk hl'
    clear h h0 CUT hC' hl'
    go_enter Try.func31, Try.ntmps31
    go_wp2_with (first
      | (go_at_call 64; refine (chain_upto.calls _ _ _ _ _ _ HR.out HC.out HU.out).mono ?_; rintro e w1 ⟨rfl, hb1⟩; have HB1 := Aside0.mk hb1; clear hb1)
      | (go_at_call 66; refine (chain_owned.calls k _ _ _ _ _ (HC'.out _ (Kd.C_below HR.out HB1.out)) HL'.out H.out).mono ?_; rintro e w2 ⟨v2, rfl, hn2, hb2⟩; have HN2 := Aside0.mk hn2; have HB2 := Aside0.mk hb2; clear hn2 hb2))
    go_ret
    refine ⟨_, rfl, ?_, below_step HB1.out HB2.out⟩
    exact Kd.N_lower (Kd.N_mono HN2.out (fun k_ hk => Nat.le_trans HB1.out.size hk)) HB1.out.size

/-! ### conductorlaw07_two: function 63 -/
def conductorlaw07_two.f : Option ((List (S28))) := some (([(⟨2, false, (([120] : List Int))⟩ : S28), (⟨5, true, ([] : List Int)⟩ : S28)] : List (S28)))
set_option maxHeartbeats 1000000 in
theorem conductorlaw07_two.calls (r : List (S28)) (w : World) (h : conductorlaw07_two.f = some r) :
    Calls Try.prog 63 #[] w fun e w' => ∃ v0_ : Value, e = .returned (v0_) ∧ Kd.N k28 28 w' w.heap.size (fun k_ => (w.heap.size ≤ k_)) v0_ r ∧ Below w.heap.size w w' := by
  obtain rfl := Option.some.inj h
  clear h
  have hu28 := Try.underlying28
  have hcv : (convert 26 26 (.slice (some ⟨w.heap.size, 0, none⟩) 1 1)).run Try.prog (w.alloc (.cells #[.int .u8 120] 5)) = .ok (.slice (some ⟨w.heap.size, 0, none⟩) 1 1) (w.alloc (.cells #[.int .u8 120] 5 (1, 2))) := Lib.run_convert_bytes_const (P := Try.prog) w 26 5 #[.int .u8 120] 1 1 Try.underlying26 Try.underlying5
  have HF := Aside0.mk (Kd.F_blk (k := .u8) (W := w.alloc (.cells #[.int .u8 120] 5 (1, 2))) (ok := fun k_ => w.heap.size ≤ k_) (b := w.heap.size) (cells := #[.int .u8 120]) ([120] : List Int) (by show (w.heap.push _)[w.heap.size]? = _; rw [Array.getElem?_push, if_pos rfl]) rfl (Nat.le_refl _) (by simp))
  have HB := Aside0.mk (below_alloc (Below.refl w.heap.size w) (.cells #[.int .u8 120] 5 (1, 2)))
  go_enter Try.func63, Try.ntmps63
  go_wp2_with ((with_reducible refine gate_dst (N := 5) rfl ?_); refine Kd.N_lit k28 w.heap.size 28 ?hg (N' := 5) ?hd (xs := ([(⟨2, false, ([120] : List Int)⟩ : S28), (⟨5, true, ([] : List Int)⟩ : S28)] : List (S28))) (inner := [.int .u64 2, .bool false, .slice (some ⟨w.heap.size, 0, none⟩) 1 1, .int .u64 5, .bool true, .slice none 0 0]) (ok := (fun k_ => (w.heap.size ≤ k_))) (okp := (fun k_ => (w.heap.size ≤ k_))) ?hr ?hp (fun _ hk => hk) HB.out.size HB.out HB.out.size (by simp) ?_; (case hd => rfl); (case hg => rfl); (case hr => first | (go_simp; done) | (go_simp; rfl)); (case hp => exact (Reps.c3 (show Kd.FK k28 _ _ (⟨2, false, ([120] : List Int)⟩ : S28) [.int .u64 2, .bool false, .slice (some ⟨w.heap.size, 0, none⟩) 1 1] from (k28_mkF _ _ (⟨2, false, ([120] : List Int)⟩ : S28) (Nat.le_refl _) HF.out)) (Reps.c3 (show Kd.FK k28 _ _ (⟨5, true, ([] : List Int)⟩ : S28) [.int .u64 5, .bool true, .slice none 0 0] from (k28_mkF _ _ (⟨5, true, ([] : List Int)⟩ : S28) (Nat.le_refl _) (Kd.F_nil _ _ _))) (Reps.none _ _)))); intro v4 w4 ho4 hb4 hg_ hnew_; clear hg_ hnew_; have HO4 := Aside0.mk ho4; have HB4 := Aside0.mk hb4; clear ho4 hb4)
  go_ret
  exact ⟨_, rfl, HO4.out, HB4.out⟩

end Go.Proofs.Yteofdgonpbmdlaa.C
