/- Texts of this session, merged for the law SsiJoins: S62, S63, S54, S72. No condition. -/
import Derived.Test.YtjefihcbhdennaaZSsiJoinsd
import Derived.Test.YtjefihcbhdennaaZSsiJoinsp
import Derived.Test.YtjefihcbhdennaaZSsiJoinsy
import Derived.Test.YtjefihcbhdennaaZSsiJoinsr
import Derived.Test.YtjefihcbhdennaaZSsiJoinsv
namespace Go.Proofs.Ytjefihcbhdennaa.S
open Go.RowKit Go.Proofs.YtjefihcbhdennaaW.PrintWords Go.Proofs.YtjefihcbhdennaaW.PrintLast Go.Proofs.YtjefihcbhdennaaW.PrintMore
attribute [local go_sem] max2_int min2_int max2_str min2_str str_leq str_gtr str_geq max_two min_two max_three min_three max_four min_four
set_option linter.unusedVariables false
set_option linter.unusedSimpArgs false
def api_Record_74.l0 : Nat → List (S26) → List (S26) → Int → Int → Option (Bool)
 | 0, _, _, _, _ => none
 | k + 1, x1, x15, x16, x17 => if x17 < x16 then (if 0 ≤ x17 then (if x17 < (x15.length : Int) then (if x17 < (x1.length : Int) then ((ssi_Same_1.f k ((rd_T26 x15 x17).f0) ((rd_T26 x15 x17).f1) ((rd_T26 x15 x17).f2) ((rd_T26 x15 x17).f3) ((rd_T26 x15 x17).f4) ((rd_T26 x15 x17).f5) ((rd_T26 x1 x17).f0) ((rd_T26 x1 x17).f1) ((rd_T26 x1 x17).f2) ((rd_T26 x1 x17).f3) ((rd_T26 x1 x17).f4) ((rd_T26 x1 x17).f5)).bind fun t726 => (if t726 = true then (api_Record_74.l0 k x1 x15 x16 (wrap64 (x17 + 1))) else (some false))) else (none)) else (none)) else (none)) else (some true)
def api_Record_74.f (k : Nat) (l0 : List (S26)) (l1 : List (S26))  : Option (Bool) := if (l0.length : Int) = (l1.length : Int) then (api_Record_74.l0 k l1 l0 (l0.length : Int) 0) else (some false)
set_option maxHeartbeats 8000000 in
set_option maxRecDepth 100000 in
theorem api_Record_74.calls (k : Nat) (A0 : Option Addr) (c0 : Nat) (l0 : List (S26)) (A1 : Option Addr) (c1 : Nat) (l1 : List (S26))  (r : Bool) (w : World) (hr0 : Kd.C k26 w A0 l0.length l0) (hc0 : l0.length ≤ c0) (hr1 : Kd.C k26 w A1 l1.length l1) (hc1 : l1.length ≤ c1) (h : api_Record_74.f k l0 l1 = some r) :
  Calls Try.prog 74 #[.slice A0 l0.length c0, .slice A1 l1.length c1, .func (.func 75) #[] #[]] w fun e w' => e = .returned (.bool r) ∧ Below w.heap.size w w' := by
 have hu26 := Try.underlying26
 have HR0 := Aside0.mk hr0; have HC0 := Aside0.mk hc0; clear hr0 hc0; have HR1 := Aside0.mk hr1; have HC1 := Aside0.mk hc1; clear hr1 hc1
 have HB := Aside0.mk (Below.refl w.heap.size w)
 have H : (if (l0.length : Int) = (l1.length : Int) then (api_Record_74.l0 k l1 l0 (l0.length : Int) 0) else (some false)) = some r := h
 clear h
 by_cases c4 : (l0.length : Int) = (l1.length : Int)
 ·rw [if_pos c4] at H
  have c4b0 : ((l0.length : Int) == (l1.length : Int)) = true := beq_iff_eq.mpr c4
  have c4b1 : ((l0.length : Int) != (l1.length : Int)) = false := bne_eq_false_iff_eq.mpr c4
  have c4b2 : (l0.length == l1.length) = true := by first | simpa using c4 | (simp at c4 ⊢; omega)
  clear c4; have H' := Aside0.mk H; clear H
  go_enter Try.func74, Try.ntmps74
  go_wp2
  go_loopg [17] k (fun kq v17 w' => ∃ (x17_1 : Int), v17 = .int .i64 x17_1 ∧ Aside0 (api_Record_74.l0 kq l1 l0 (l0.length : Int) x17_1 = some r) ∧ Aside0 (kq ≤ k) ∧ Aside0 (Below w.heap.size w w'))
  case atStart => exact ⟨(0), (by first | rfl | (simp; done) | (simp [*]; done)), H', ⟨Nat.le_refl _⟩, ⟨bl_⟩⟩
  case round =>
   clear H'; obtain ⟨x17_1, rfl, HA, HK1, HB⟩ := hrel
   cases gk with
   | zero => exact absurd HA.out (by simp [api_Record_74.l0])
   | succ k1 =>
    have H := HA.out
    clear HA
    simp only [api_Record_74.l0] at H
    by_cases c5 : x17_1 < (l0.length : Int)
    ·rw [if_pos c5] at H
     have c5b0 : decide (x17_1 < (l0.length : Int)) = true := decide_eq_true c5
     clear c5
     by_cases c6 : 0 ≤ x17_1
     ·rw [if_pos c6] at H
      have c6b0 : decide (0 ≤ x17_1) = true := decide_eq_true c6
      clear c6
      by_cases c7 : x17_1 < (l0.length : Int)
      ·rw [if_pos c7] at H
       have c7b0 : decide (x17_1 < (l0.length : Int)) = true := decide_eq_true c7
       clear c7
       by_cases c8 : x17_1 < (l1.length : Int)
       ·rw [if_pos c8] at H
        have c8b0 : decide (x17_1 < (l1.length : Int)) = true := decide_eq_true c8
        clear c8; replace H := Option.bind_eq_some_iff.mp H; obtain ⟨t726, A90, H⟩ := H
        replace H : (if t726 = true then (api_Record_74.l0 k1 l1 l0 (l0.length : Int) (wrap64 (x17_1 + 1))) else (some false)) = some r := H
        have A9 := Aside0.mk A90; clear A90
        by_cases c10 : t726 = true
        ·subst c10
         have H1 : (api_Record_74.l0 k1 l1 l0 (l0.length : Int) (wrap64 (x17_1 + 1))) = some r := by rw [if_pos rfl] at H; exact H
         clear H; have H := H1; clear H1; have H' := Aside0.mk H; clear H
         have p722 : 0 ≤ (x17_1 : Int) := od_
         have q722 : x17_1 < (l0.length : Int) := od_
         obtain ⟨ad722, A722_4, c722_4, A722_5, c722_5, e722, hx722_0, hx722_1, hx722_2, hx722_3, hx722_4, hx722_5, hl722_4, hi722_4, hl722_5, hi722_5⟩ := at_T26 HR0.out x17_1 p722 q722; cases e722
         replace hx722_0 := up_ HB.out hx722_0
         replace hx722_1 := up_ HB.out hx722_1
         replace hx722_2 := up_ HB.out hx722_2
         replace hx722_3 := up_ HB.out hx722_3
         replace hx722_4 := up_ HB.out hx722_4
         replace hx722_5 := up_ HB.out hx722_5
         have HR722_4 := Aside0.mk hi722_4; have HC722_4 := Aside0.mk hl722_4; clear hi722_4 hl722_4; have HR722_5 := Aside0.mk hi722_5; have HC722_5 := Aside0.mk hl722_5; clear hi722_5 hl722_5; replace p722 := eq_true p722; replace q722 := eq_true q722
         go_wp2_with (first | ((with_reducible refine gate_dst (N := 8) rfl ?_); refine box_event ?hg (N := 8) ?hd (cs := #[.int .u64 0, .int .u64 0, .int .u64 0, .int .u64 0, .slice none 0 0, .slice none 0 0]) (t := 26) ?hr ?_; (case hd => rfl); (case hg => rfl); (case hr => first | (go_simp; done) | (go_simp; rfl)); intro gb723 hg w11 hbox hb; have n0_ := Aside0.mk (below_step bl_ hb); have n1_ := Aside0.mk (hbox); have n2_ := Aside0.mk (bsz_ hg : w.heap.size ≤ gb723); have n3_ := Aside0.mk (bsz_ hg : w.heap.size ≤ gb723); clear HB; have HB := n0_; have BK723 := n1_; have GW723 := n2_; have GE723 := n3_; clear n0_ n1_ n2_ n3_; clear hb hbox hg; obtain ⟨hcz12_0, hcz12_1, hcz12_2, hcz12_3, hcz12_4, hcz12_5, hfz12_0, hfz12_1, hfz12_2, hfz12_3, hfz12_4, hfz12_5⟩ := blk6_ BK723.out; have p724 : 0 ≤ (x17_1 : Int) := od_; have q724 : x17_1 < (l1.length : Int) := od_; obtain ⟨ad724, A724_4, c724_4, A724_5, c724_5, e724, hx724_0, hx724_1, hx724_2, hx724_3, hx724_4, hx724_5, hl724_4, hi724_4, hl724_5, hi724_5⟩ := at_T26 HR1.out x17_1 p724 q724; cases e724; have hn724_0 : ad724.block ≠ gb723 := Nat.ne_of_lt (Nat.lt_of_lt_of_le (by have := World.block_lt_of_cell? _ _ hx724_0; first | rwa [add_block] at this | exact this) GW723.out); have hn724_1 : ad724.block ≠ gb723 := Nat.ne_of_lt (Nat.lt_of_lt_of_le (by have := World.block_lt_of_cell? _ _ hx724_0; first | rwa [add_block] at this | exact this) GW723.out); have hn724_2 : ad724.block ≠ gb723 := Nat.ne_of_lt (Nat.lt_of_lt_of_le (by have := World.block_lt_of_cell? _ _ hx724_0; first | rwa [add_block] at this | exact this) GW723.out); have hn724_3 : ad724.block ≠ gb723 := Nat.ne_of_lt (Nat.lt_of_lt_of_le (by have := World.block_lt_of_cell? _ _ hx724_0; first | rwa [add_block] at this | exact this) GW723.out); have hn724_4 : ad724.block ≠ gb723 := Nat.ne_of_lt (Nat.lt_of_lt_of_le (by have := World.block_lt_of_cell? _ _ hx724_0; first | rwa [add_block] at this | exact this) GW723.out); have hn724_5 : ad724.block ≠ gb723 := Nat.ne_of_lt (Nat.lt_of_lt_of_le (by have := World.block_lt_of_cell? _ _ hx724_0; first | rwa [add_block] at this | exact this) GW723.out); replace hx724_0 := up_ HB.out hx724_0; replace hx724_1 := up_ HB.out hx724_1; replace hx724_2 := up_ HB.out hx724_2; replace hx724_3 := up_ HB.out hx724_3; replace hx724_4 := up_ HB.out hx724_4; replace hx724_5 := up_ HB.out hx724_5; have HR724_4 := Aside0.mk hi724_4; have HC724_4 := Aside0.mk hl724_4; clear hi724_4 hl724_4; have HR724_5 := Aside0.mk hi724_5; have HC724_5 := Aside0.mk hl724_5; clear hi724_5 hl724_5; replace hx724_0 := (cell_far (p := ⟨gb723, 0, none⟩) (by first | (rw [add_block]; exact hn724_0) | (show (Addr.add _ _).block ≠ _; rw [add_block]; exact hn724_0) | exact hn724_0) (.int .u64 ((rd_T26 l0 x17_1).f0))).trans hx724_0; replace hx724_1 := (cell_far (p := ⟨gb723, 0, none⟩) (by first | (rw [add_block]; exact hn724_0) | (show (Addr.add _ _).block ≠ _; rw [add_block]; exact hn724_0) | exact hn724_0) (.int .u64 ((rd_T26 l0 x17_1).f0))).trans hx724_1; replace hx724_2 := (cell_far (p := ⟨gb723, 0, none⟩) (by first | (rw [add_block]; exact hn724_0) | (show (Addr.add _ _).block ≠ _; rw [add_block]; exact hn724_0) | exact hn724_0) (.int .u64 ((rd_T26 l0 x17_1).f0))).trans hx724_2; replace hx724_3 := (cell_far (p := ⟨gb723, 0, none⟩) (by first | (rw [add_block]; exact hn724_0) | (show (Addr.add _ _).block ≠ _; rw [add_block]; exact hn724_0) | exact hn724_0) (.int .u64 ((rd_T26 l0 x17_1).f0))).trans hx724_3; replace hx724_4 := (cell_far (p := ⟨gb723, 0, none⟩) (by first | (rw [add_block]; exact hn724_0) | (show (Addr.add _ _).block ≠ _; rw [add_block]; exact hn724_0) | exact hn724_0) (.int .u64 ((rd_T26 l0 x17_1).f0))).trans hx724_4; replace hx724_5 := (cell_far (p := ⟨gb723, 0, none⟩) (by first | (rw [add_block]; exact hn724_0) | (show (Addr.add _ _).block ≠ _; rw [add_block]; exact hn724_0) | exact hn724_0) (.int .u64 ((rd_T26 l0 x17_1).f0))).trans hx724_5; replace hx724_0 := (cell_far (p := ⟨gb723, 1, none⟩) (by first | (rw [add_block]; exact hn724_1) | (show (Addr.add _ _).block ≠ _; rw [add_block]; exact hn724_1) | exact hn724_1) (.int .u64 ((rd_T26 l0 x17_1).f1))).trans hx724_0; replace hx724_1 := (cell_far (p := ⟨gb723, 1, none⟩) (by first | (rw [add_block]; exact hn724_1) | (show (Addr.add _ _).block ≠ _; rw [add_block]; exact hn724_1) | exact hn724_1) (.int .u64 ((rd_T26 l0 x17_1).f1))).trans hx724_1; replace hx724_2 := (cell_far (p := ⟨gb723, 1, none⟩) (by first | (rw [add_block]; exact hn724_1) | (show (Addr.add _ _).block ≠ _; rw [add_block]; exact hn724_1) | exact hn724_1) (.int .u64 ((rd_T26 l0 x17_1).f1))).trans hx724_2; replace hx724_3 := (cell_far (p := ⟨gb723, 1, none⟩) (by first | (rw [add_block]; exact hn724_1) | (show (Addr.add _ _).block ≠ _; rw [add_block]; exact hn724_1) | exact hn724_1) (.int .u64 ((rd_T26 l0 x17_1).f1))).trans hx724_3; replace hx724_4 := (cell_far (p := ⟨gb723, 1, none⟩) (by first | (rw [add_block]; exact hn724_1) | (show (Addr.add _ _).block ≠ _; rw [add_block]; exact hn724_1) | exact hn724_1) (.int .u64 ((rd_T26 l0 x17_1).f1))).trans hx724_4; replace hx724_5 := (cell_far (p := ⟨gb723, 1, none⟩) (by first | (rw [add_block]; exact hn724_1) | (show (Addr.add _ _).block ≠ _; rw [add_block]; exact hn724_1) | exact hn724_1) (.int .u64 ((rd_T26 l0 x17_1).f1))).trans hx724_5; replace hx724_0 := (cell_far (p := ⟨gb723, 2, none⟩) (by first | (rw [add_block]; exact hn724_2) | (show (Addr.add _ _).block ≠ _; rw [add_block]; exact hn724_2) | exact hn724_2) (.int .u64 ((rd_T26 l0 x17_1).f2))).trans hx724_0; replace hx724_1 := (cell_far (p := ⟨gb723, 2, none⟩) (by first | (rw [add_block]; exact hn724_2) | (show (Addr.add _ _).block ≠ _; rw [add_block]; exact hn724_2) | exact hn724_2) (.int .u64 ((rd_T26 l0 x17_1).f2))).trans hx724_1; replace hx724_2 := (cell_far (p := ⟨gb723, 2, none⟩) (by first | (rw [add_block]; exact hn724_2) | (show (Addr.add _ _).block ≠ _; rw [add_block]; exact hn724_2) | exact hn724_2) (.int .u64 ((rd_T26 l0 x17_1).f2))).trans hx724_2; replace hx724_3 := (cell_far (p := ⟨gb723, 2, none⟩) (by first | (rw [add_block]; exact hn724_2) | (show (Addr.add _ _).block ≠ _; rw [add_block]; exact hn724_2) | exact hn724_2) (.int .u64 ((rd_T26 l0 x17_1).f2))).trans hx724_3; replace hx724_4 := (cell_far (p := ⟨gb723, 2, none⟩) (by first | (rw [add_block]; exact hn724_2) | (show (Addr.add _ _).block ≠ _; rw [add_block]; exact hn724_2) | exact hn724_2) (.int .u64 ((rd_T26 l0 x17_1).f2))).trans hx724_4; replace hx724_5 := (cell_far (p := ⟨gb723, 2, none⟩) (by first | (rw [add_block]; exact hn724_2) | (show (Addr.add _ _).block ≠ _; rw [add_block]; exact hn724_2) | exact hn724_2) (.int .u64 ((rd_T26 l0 x17_1).f2))).trans hx724_5; replace hx724_0 := (cell_far (p := ⟨gb723, 3, none⟩) (by first | (rw [add_block]; exact hn724_3) | (show (Addr.add _ _).block ≠ _; rw [add_block]; exact hn724_3) | exact hn724_3) (.int .u64 ((rd_T26 l0 x17_1).f3))).trans hx724_0; replace hx724_1 := (cell_far (p := ⟨gb723, 3, none⟩) (by first | (rw [add_block]; exact hn724_3) | (show (Addr.add _ _).block ≠ _; rw [add_block]; exact hn724_3) | exact hn724_3) (.int .u64 ((rd_T26 l0 x17_1).f3))).trans hx724_1; replace hx724_2 := (cell_far (p := ⟨gb723, 3, none⟩) (by first | (rw [add_block]; exact hn724_3) | (show (Addr.add _ _).block ≠ _; rw [add_block]; exact hn724_3) | exact hn724_3) (.int .u64 ((rd_T26 l0 x17_1).f3))).trans hx724_2; replace hx724_3 := (cell_far (p := ⟨gb723, 3, none⟩) (by first | (rw [add_block]; exact hn724_3) | (show (Addr.add _ _).block ≠ _; rw [add_block]; exact hn724_3) | exact hn724_3) (.int .u64 ((rd_T26 l0 x17_1).f3))).trans hx724_3; replace hx724_4 := (cell_far (p := ⟨gb723, 3, none⟩) (by first | (rw [add_block]; exact hn724_3) | (show (Addr.add _ _).block ≠ _; rw [add_block]; exact hn724_3) | exact hn724_3) (.int .u64 ((rd_T26 l0 x17_1).f3))).trans hx724_4; replace hx724_5 := (cell_far (p := ⟨gb723, 3, none⟩) (by first | (rw [add_block]; exact hn724_3) | (show (Addr.add _ _).block ≠ _; rw [add_block]; exact hn724_3) | exact hn724_3) (.int .u64 ((rd_T26 l0 x17_1).f3))).trans hx724_5; replace hx724_0 := (cell_far (p := ⟨gb723, 4, none⟩) (by first | (rw [add_block]; exact hn724_4) | (show (Addr.add _ _).block ≠ _; rw [add_block]; exact hn724_4) | exact hn724_4) (.slice A722_4 ((rd_T26 l0 x17_1).f4).length c722_4)).trans hx724_0; replace hx724_1 := (cell_far (p := ⟨gb723, 4, none⟩) (by first | (rw [add_block]; exact hn724_4) | (show (Addr.add _ _).block ≠ _; rw [add_block]; exact hn724_4) | exact hn724_4) (.slice A722_4 ((rd_T26 l0 x17_1).f4).length c722_4)).trans hx724_1; replace hx724_2 := (cell_far (p := ⟨gb723, 4, none⟩) (by first | (rw [add_block]; exact hn724_4) | (show (Addr.add _ _).block ≠ _; rw [add_block]; exact hn724_4) | exact hn724_4) (.slice A722_4 ((rd_T26 l0 x17_1).f4).length c722_4)).trans hx724_2; replace hx724_3 := (cell_far (p := ⟨gb723, 4, none⟩) (by first | (rw [add_block]; exact hn724_4) | (show (Addr.add _ _).block ≠ _; rw [add_block]; exact hn724_4) | exact hn724_4) (.slice A722_4 ((rd_T26 l0 x17_1).f4).length c722_4)).trans hx724_3; replace hx724_4 := (cell_far (p := ⟨gb723, 4, none⟩) (by first | (rw [add_block]; exact hn724_4) | (show (Addr.add _ _).block ≠ _; rw [add_block]; exact hn724_4) | exact hn724_4) (.slice A722_4 ((rd_T26 l0 x17_1).f4).length c722_4)).trans hx724_4; replace hx724_5 := (cell_far (p := ⟨gb723, 4, none⟩) (by first | (rw [add_block]; exact hn724_4) | (show (Addr.add _ _).block ≠ _; rw [add_block]; exact hn724_4) | exact hn724_4) (.slice A722_4 ((rd_T26 l0 x17_1).f4).length c722_4)).trans hx724_5; replace hx724_0 := (cell_far (p := ⟨gb723, 5, none⟩) (by first | (rw [add_block]; exact hn724_5) | (show (Addr.add _ _).block ≠ _; rw [add_block]; exact hn724_5) | exact hn724_5) (.slice A722_5 ((rd_T26 l0 x17_1).f5).length c722_5)).trans hx724_0; replace hx724_1 := (cell_far (p := ⟨gb723, 5, none⟩) (by first | (rw [add_block]; exact hn724_5) | (show (Addr.add _ _).block ≠ _; rw [add_block]; exact hn724_5) | exact hn724_5) (.slice A722_5 ((rd_T26 l0 x17_1).f5).length c722_5)).trans hx724_1; replace hx724_2 := (cell_far (p := ⟨gb723, 5, none⟩) (by first | (rw [add_block]; exact hn724_5) | (show (Addr.add _ _).block ≠ _; rw [add_block]; exact hn724_5) | exact hn724_5) (.slice A722_5 ((rd_T26 l0 x17_1).f5).length c722_5)).trans hx724_2; replace hx724_3 := (cell_far (p := ⟨gb723, 5, none⟩) (by first | (rw [add_block]; exact hn724_5) | (show (Addr.add _ _).block ≠ _; rw [add_block]; exact hn724_5) | exact hn724_5) (.slice A722_5 ((rd_T26 l0 x17_1).f5).length c722_5)).trans hx724_3; replace hx724_4 := (cell_far (p := ⟨gb723, 5, none⟩) (by first | (rw [add_block]; exact hn724_5) | (show (Addr.add _ _).block ≠ _; rw [add_block]; exact hn724_5) | exact hn724_5) (.slice A722_5 ((rd_T26 l0 x17_1).f5).length c722_5)).trans hx724_4; replace hx724_5 := (cell_far (p := ⟨gb723, 5, none⟩) (by first | (rw [add_block]; exact hn724_5) | (show (Addr.add _ _).block ≠ _; rw [add_block]; exact hn724_5) | exact hn724_5) (.slice A722_5 ((rd_T26 l0 x17_1).f5).length c722_5)).trans hx724_5; clear hn724_0; clear hn724_1; clear hn724_2; clear hn724_3; clear hn724_4; clear hn724_5; replace p724 := eq_true p724; replace q724 := eq_true q724) | ((with_reducible refine gate_dst (N := 9) rfl ?_); refine box_event ?hg (N := 9) ?hd (cs := #[.int .u64 0, .int .u64 0, .int .u64 0, .int .u64 0, .slice none 0 0, .slice none 0 0]) (t := 26) ?hr ?_; (case hd => rfl); (case hg => rfl); (case hr => first | (go_simp; done) | (go_simp; rfl)); intro gb725 hg w13 hbox hb; have n0_ := Aside0.mk (blk_below (g := gb723) (o := .cells #[.int .u64 ((rd_T26 l0 x17_1).f0), .int .u64 ((rd_T26 l0 x17_1).f1), .int .u64 ((rd_T26 l0 x17_1).f2), .int .u64 ((rd_T26 l0 x17_1).f3), .slice A722_4 ((rd_T26 l0 x17_1).f4).length c722_4, .slice A722_5 ((rd_T26 l0 x17_1).f5).length c722_5] 26 (0, 0)) (by (with_reducible repeat (first | refine blk_drewN ?_ _ | refine blk_drew ?_ | refine blk_alloc ?_ _)); refine blk_put (cs := #[.int .u64 ((rd_T26 l0 x17_1).f0), .int .u64 ((rd_T26 l0 x17_1).f1), .int .u64 ((rd_T26 l0 x17_1).f2), .int .u64 ((rd_T26 l0 x17_1).f3), .slice A722_4 ((rd_T26 l0 x17_1).f4).length c722_4, .slice none 0 0]) ?_ 5 _ rfl; refine blk_put (cs := #[.int .u64 ((rd_T26 l0 x17_1).f0), .int .u64 ((rd_T26 l0 x17_1).f1), .int .u64 ((rd_T26 l0 x17_1).f2), .int .u64 ((rd_T26 l0 x17_1).f3), .slice none 0 0, .slice none 0 0]) ?_ 4 _ rfl; refine blk_put (cs := #[.int .u64 ((rd_T26 l0 x17_1).f0), .int .u64 ((rd_T26 l0 x17_1).f1), .int .u64 ((rd_T26 l0 x17_1).f2), .int .u64 0, .slice none 0 0, .slice none 0 0]) ?_ 3 _ rfl; refine blk_put (cs := #[.int .u64 ((rd_T26 l0 x17_1).f0), .int .u64 ((rd_T26 l0 x17_1).f1), .int .u64 0, .int .u64 0, .slice none 0 0, .slice none 0 0]) ?_ 2 _ rfl; refine blk_put (cs := #[.int .u64 ((rd_T26 l0 x17_1).f0), .int .u64 0, .int .u64 0, .int .u64 0, .slice none 0 0, .slice none 0 0]) ?_ 1 _ rfl; refine blk_put (cs := #[.int .u64 0, .int .u64 0, .int .u64 0, .int .u64 0, .slice none 0 0, .slice none 0 0]) ?_ 0 _ rfl; exact BK723.out) hb); have n1_ := Aside0.mk (below_step bl_ hb); have n2_ := Aside0.mk (hbox); have n3_ := Aside0.mk (bsz_ hg : w.heap.size ≤ gb725); have n4_ := Aside0.mk (bsz_ hg : w.heap.size ≤ gb725); have n5_ := Aside0.mk ((by rw [hg]; exact Nat.ne_of_lt (blk_lt (g := gb723) (o := .cells #[.int .u64 ((rd_T26 l0 x17_1).f0), .int .u64 ((rd_T26 l0 x17_1).f1), .int .u64 ((rd_T26 l0 x17_1).f2), .int .u64 ((rd_T26 l0 x17_1).f3), .slice A722_4 ((rd_T26 l0 x17_1).f4).length c722_4, .slice A722_5 ((rd_T26 l0 x17_1).f5).length c722_5] 26 (0, 0)) (by (with_reducible repeat (first | refine blk_drewN ?_ _ | refine blk_drew ?_ | refine blk_alloc ?_ _)); refine blk_put (cs := #[.int .u64 ((rd_T26 l0 x17_1).f0), .int .u64 ((rd_T26 l0 x17_1).f1), .int .u64 ((rd_T26 l0 x17_1).f2), .int .u64 ((rd_T26 l0 x17_1).f3), .slice A722_4 ((rd_T26 l0 x17_1).f4).length c722_4, .slice none 0 0]) ?_ 5 _ rfl; refine blk_put (cs := #[.int .u64 ((rd_T26 l0 x17_1).f0), .int .u64 ((rd_T26 l0 x17_1).f1), .int .u64 ((rd_T26 l0 x17_1).f2), .int .u64 ((rd_T26 l0 x17_1).f3), .slice none 0 0, .slice none 0 0]) ?_ 4 _ rfl; refine blk_put (cs := #[.int .u64 ((rd_T26 l0 x17_1).f0), .int .u64 ((rd_T26 l0 x17_1).f1), .int .u64 ((rd_T26 l0 x17_1).f2), .int .u64 0, .slice none 0 0, .slice none 0 0]) ?_ 3 _ rfl; refine blk_put (cs := #[.int .u64 ((rd_T26 l0 x17_1).f0), .int .u64 ((rd_T26 l0 x17_1).f1), .int .u64 0, .int .u64 0, .slice none 0 0, .slice none 0 0]) ?_ 2 _ rfl; refine blk_put (cs := #[.int .u64 ((rd_T26 l0 x17_1).f0), .int .u64 0, .int .u64 0, .int .u64 0, .slice none 0 0, .slice none 0 0]) ?_ 1 _ rfl; refine blk_put (cs := #[.int .u64 0, .int .u64 0, .int .u64 0, .int .u64 0, .slice none 0 0, .slice none 0 0]) ?_ 0 _ rfl; exact BK723.out)) : gb723 ≠ gb725)); have n6_ := Aside0.mk ((by rw [hg]; exact Nat.ne_of_gt (blk_lt (g := gb723) (o := .cells #[.int .u64 ((rd_T26 l0 x17_1).f0), .int .u64 ((rd_T26 l0 x17_1).f1), .int .u64 ((rd_T26 l0 x17_1).f2), .int .u64 ((rd_T26 l0 x17_1).f3), .slice A722_4 ((rd_T26 l0 x17_1).f4).length c722_4, .slice A722_5 ((rd_T26 l0 x17_1).f5).length c722_5] 26 (0, 0)) (by (with_reducible repeat (first | refine blk_drewN ?_ _ | refine blk_drew ?_ | refine blk_alloc ?_ _)); refine blk_put (cs := #[.int .u64 ((rd_T26 l0 x17_1).f0), .int .u64 ((rd_T26 l0 x17_1).f1), .int .u64 ((rd_T26 l0 x17_1).f2), .int .u64 ((rd_T26 l0 x17_1).f3), .slice A722_4 ((rd_T26 l0 x17_1).f4).length c722_4, .slice none 0 0]) ?_ 5 _ rfl; refine blk_put (cs := #[.int .u64 ((rd_T26 l0 x17_1).f0), .int .u64 ((rd_T26 l0 x17_1).f1), .int .u64 ((rd_T26 l0 x17_1).f2), .int .u64 ((rd_T26 l0 x17_1).f3), .slice none 0 0, .slice none 0 0]) ?_ 4 _ rfl; refine blk_put (cs := #[.int .u64 ((rd_T26 l0 x17_1).f0), .int .u64 ((rd_T26 l0 x17_1).f1), .int .u64 ((rd_T26 l0 x17_1).f2), .int .u64 0, .slice none 0 0, .slice none 0 0]) ?_ 3 _ rfl; refine blk_put (cs := #[.int .u64 ((rd_T26 l0 x17_1).f0), .int .u64 ((rd_T26 l0 x17_1).f1), .int .u64 0, .int .u64 0, .slice none 0 0, .slice none 0 0]) ?_ 2 _ rfl; refine blk_put (cs := #[.int .u64 ((rd_T26 l0 x17_1).f0), .int .u64 0, .int .u64 0, .int .u64 0, .slice none 0 0, .slice none 0 0]) ?_ 1 _ rfl; refine blk_put (cs := #[.int .u64 0, .int .u64 0, .int .u64 0, .int .u64 0, .slice none 0 0, .slice none 0 0]) ?_ 0 _ rfl; exact BK723.out)) : gb725 ≠ gb723)); clear BK723; clear HB; have BK723 := n0_; have HB := n1_; have BK725 := n2_; have GW725 := n3_; have GE725 := n4_; have NB723_725 := n5_; have NB725_723 := n6_; clear n0_ n1_ n2_ n3_ n4_ n5_ n6_; clear hb hbox hg; have hnb14 := NB725_723.out; have hnc14 := NB723_725.out; obtain ⟨hcz15_0, hcz15_1, hcz15_2, hcz15_3, hcz15_4, hcz15_5, hfz15_0, hfz15_1, hfz15_2, hfz15_3, hfz15_4, hfz15_5⟩ := blk6_ BK725.out; obtain ⟨hcz16_0, hcz16_1, hcz16_2, hcz16_3, hcz16_4, hcz16_5, hfz16_0, hfz16_1, hfz16_2, hfz16_3, hfz16_4, hfz16_5⟩ := blk6_ BK723.out) | (go_at_call 75; (with_reducible refine (ssi_Same_1.calls k1 ((rd_T26 l0 x17_1).f0) ((rd_T26 l0 x17_1).f1) ((rd_T26 l0 x17_1).f2) ((rd_T26 l0 x17_1).f3) _ _ ((rd_T26 l0 x17_1).f4) _ _ ((rd_T26 l0 x17_1).f5) ((rd_T26 l1 x17_1).f0) ((rd_T26 l1 x17_1).f1) ((rd_T26 l1 x17_1).f2) ((rd_T26 l1 x17_1).f3) _ _ ((rd_T26 l1 x17_1).f4) _ _ ((rd_T26 l1 x17_1).f5) true _ ?side1 ?side2 ?side3 ?side4 ?side5 ?side6 ?side7 ?side8 A9.out).mono ?_); (case side1 => exact Kd.C_below HR722_4.out bl_); (case side2 => exact HC722_4.out); (case side3 => exact Kd.C_below HR722_5.out bl_); (case side4 => exact HC722_5.out); (case side5 => exact Kd.C_below HR724_4.out bl_); (case side6 => exact HC724_4.out); (case side7 => exact Kd.C_below HR724_5.out bl_); (case side8 => exact HC724_5.out); rintro e w17 ⟨rfl, hb⟩; have n0_ := Aside0.mk (blk_below (g := gb723) (o := .cells #[.int .u64 ((rd_T26 l0 x17_1).f0), .int .u64 ((rd_T26 l0 x17_1).f1), .int .u64 ((rd_T26 l0 x17_1).f2), .int .u64 ((rd_T26 l0 x17_1).f3), .slice A722_4 ((rd_T26 l0 x17_1).f4).length c722_4, .slice A722_5 ((rd_T26 l0 x17_1).f5).length c722_5] 26 (0, 0)) (by (with_reducible repeat (first | refine blk_drewN ?_ _ | refine blk_drew ?_ | refine blk_alloc ?_ _)); refine blk_far ?_ NB723_725.out _; (with_reducible repeat (first | refine blk_drewN ?_ _ | refine blk_drew ?_ | refine blk_alloc ?_ _)); refine blk_far ?_ NB723_725.out _; (with_reducible repeat (first | refine blk_drewN ?_ _ | refine blk_drew ?_ | refine blk_alloc ?_ _)); refine blk_far ?_ NB723_725.out _; (with_reducible repeat (first | refine blk_drewN ?_ _ | refine blk_drew ?_ | refine blk_alloc ?_ _)); refine blk_far ?_ NB723_725.out _; (with_reducible repeat (first | refine blk_drewN ?_ _ | refine blk_drew ?_ | refine blk_alloc ?_ _)); refine blk_far ?_ NB723_725.out _; (with_reducible repeat (first | refine blk_drewN ?_ _ | refine blk_drew ?_ | refine blk_alloc ?_ _)); refine blk_far ?_ NB723_725.out _; (with_reducible repeat (first | refine blk_drewN ?_ _ | refine blk_drew ?_ | refine blk_alloc ?_ _)); exact BK723.out) hb); have n1_ := Aside0.mk (blk_below (g := gb725) (o := .cells #[.int .u64 ((rd_T26 l1 x17_1).f0), .int .u64 ((rd_T26 l1 x17_1).f1), .int .u64 ((rd_T26 l1 x17_1).f2), .int .u64 ((rd_T26 l1 x17_1).f3), .slice A724_4 ((rd_T26 l1 x17_1).f4).length c724_4, .slice A724_5 ((rd_T26 l1 x17_1).f5).length c724_5] 26 (0, 0)) (by (with_reducible repeat (first | refine blk_drewN ?_ _ | refine blk_drew ?_ | refine blk_alloc ?_ _)); refine blk_put (cs := #[.int .u64 ((rd_T26 l1 x17_1).f0), .int .u64 ((rd_T26 l1 x17_1).f1), .int .u64 ((rd_T26 l1 x17_1).f2), .int .u64 ((rd_T26 l1 x17_1).f3), .slice A724_4 ((rd_T26 l1 x17_1).f4).length c724_4, .slice none 0 0]) ?_ 5 _ rfl; refine blk_put (cs := #[.int .u64 ((rd_T26 l1 x17_1).f0), .int .u64 ((rd_T26 l1 x17_1).f1), .int .u64 ((rd_T26 l1 x17_1).f2), .int .u64 ((rd_T26 l1 x17_1).f3), .slice none 0 0, .slice none 0 0]) ?_ 4 _ rfl; refine blk_put (cs := #[.int .u64 ((rd_T26 l1 x17_1).f0), .int .u64 ((rd_T26 l1 x17_1).f1), .int .u64 ((rd_T26 l1 x17_1).f2), .int .u64 0, .slice none 0 0, .slice none 0 0]) ?_ 3 _ rfl; refine blk_put (cs := #[.int .u64 ((rd_T26 l1 x17_1).f0), .int .u64 ((rd_T26 l1 x17_1).f1), .int .u64 0, .int .u64 0, .slice none 0 0, .slice none 0 0]) ?_ 2 _ rfl; refine blk_put (cs := #[.int .u64 ((rd_T26 l1 x17_1).f0), .int .u64 0, .int .u64 0, .int .u64 0, .slice none 0 0, .slice none 0 0]) ?_ 1 _ rfl; refine blk_put (cs := #[.int .u64 0, .int .u64 0, .int .u64 0, .int .u64 0, .slice none 0 0, .slice none 0 0]) ?_ 0 _ rfl; exact BK725.out) hb); have n2_ := Aside0.mk (below_step bl_ hb); clear BK723; clear BK725; clear HB; have BK723 := n0_; have BK725 := n1_; have HB := n2_; clear n0_ n1_ n2_; (try clear hb); (try clear hb2); (try clear hk); (try clear hi)))
         go_roundg k1
         case measure => have := HK1.out; omega
         case rel => exact ⟨(wrap64 (x17_1 + 1)), (by first | rfl | (simp; done) | (simp [*]; done)), H', ⟨by have := HK1.out; omega⟩, ⟨bl_⟩⟩
        ·replace c10 := Bool.eq_false_iff.mpr c10
         subst c10
         have H1 : (some false) = some r := by rw [if_neg (show ¬ (false = true) by decide)] at H; exact H
         clear H; have H := H1; clear H1; obtain rfl := Option.some.inj H
         have p722 : 0 ≤ (x17_1 : Int) := od_
         have q722 : x17_1 < (l0.length : Int) := od_
         obtain ⟨ad722, A722_4, c722_4, A722_5, c722_5, e722, hx722_0, hx722_1, hx722_2, hx722_3, hx722_4, hx722_5, hl722_4, hi722_4, hl722_5, hi722_5⟩ := at_T26 HR0.out x17_1 p722 q722; cases e722
         replace hx722_0 := up_ HB.out hx722_0
         replace hx722_1 := up_ HB.out hx722_1
         replace hx722_2 := up_ HB.out hx722_2
         replace hx722_3 := up_ HB.out hx722_3
         replace hx722_4 := up_ HB.out hx722_4
         replace hx722_5 := up_ HB.out hx722_5
         have HR722_4 := Aside0.mk hi722_4; have HC722_4 := Aside0.mk hl722_4; clear hi722_4 hl722_4; have HR722_5 := Aside0.mk hi722_5; have HC722_5 := Aside0.mk hl722_5; clear hi722_5 hl722_5; replace p722 := eq_true p722; replace q722 := eq_true q722
         go_wp2_with (first | ((with_reducible refine gate_dst (N := 8) rfl ?_); refine box_event ?hg (N := 8) ?hd (cs := #[.int .u64 0, .int .u64 0, .int .u64 0, .int .u64 0, .slice none 0 0, .slice none 0 0]) (t := 26) ?hr ?_; (case hd => rfl); (case hg => rfl); (case hr => first | (go_simp; done) | (go_simp; rfl)); intro gb723 hg w18 hbox hb; have n0_ := Aside0.mk (below_step bl_ hb); have n1_ := Aside0.mk (hbox); have n2_ := Aside0.mk (bsz_ hg : w.heap.size ≤ gb723); have n3_ := Aside0.mk (bsz_ hg : w.heap.size ≤ gb723); clear HB; have HB := n0_; have BK723 := n1_; have GW723 := n2_; have GE723 := n3_; clear n0_ n1_ n2_ n3_; clear hb hbox hg; obtain ⟨hcz19_0, hcz19_1, hcz19_2, hcz19_3, hcz19_4, hcz19_5, hfz19_0, hfz19_1, hfz19_2, hfz19_3, hfz19_4, hfz19_5⟩ := blk6_ BK723.out; have p724 : 0 ≤ (x17_1 : Int) := od_; have q724 : x17_1 < (l1.length : Int) := od_; obtain ⟨ad724, A724_4, c724_4, A724_5, c724_5, e724, hx724_0, hx724_1, hx724_2, hx724_3, hx724_4, hx724_5, hl724_4, hi724_4, hl724_5, hi724_5⟩ := at_T26 HR1.out x17_1 p724 q724; cases e724; have hn724_0 : ad724.block ≠ gb723 := Nat.ne_of_lt (Nat.lt_of_lt_of_le (by have := World.block_lt_of_cell? _ _ hx724_0; first | rwa [add_block] at this | exact this) GW723.out); have hn724_1 : ad724.block ≠ gb723 := Nat.ne_of_lt (Nat.lt_of_lt_of_le (by have := World.block_lt_of_cell? _ _ hx724_0; first | rwa [add_block] at this | exact this) GW723.out); have hn724_2 : ad724.block ≠ gb723 := Nat.ne_of_lt (Nat.lt_of_lt_of_le (by have := World.block_lt_of_cell? _ _ hx724_0; first | rwa [add_block] at this | exact this) GW723.out); have hn724_3 : ad724.block ≠ gb723 := Nat.ne_of_lt (Nat.lt_of_lt_of_le (by have := World.block_lt_of_cell? _ _ hx724_0; first | rwa [add_block] at this | exact this) GW723.out); have hn724_4 : ad724.block ≠ gb723 := Nat.ne_of_lt (Nat.lt_of_lt_of_le (by have := World.block_lt_of_cell? _ _ hx724_0; first | rwa [add_block] at this | exact this) GW723.out); have hn724_5 : ad724.block ≠ gb723 := Nat.ne_of_lt (Nat.lt_of_lt_of_le (by have := World.block_lt_of_cell? _ _ hx724_0; first | rwa [add_block] at this | exact this) GW723.out); replace hx724_0 := up_ HB.out hx724_0; replace hx724_1 := up_ HB.out hx724_1; replace hx724_2 := up_ HB.out hx724_2; replace hx724_3 := up_ HB.out hx724_3; replace hx724_4 := up_ HB.out hx724_4; replace hx724_5 := up_ HB.out hx724_5; have HR724_4 := Aside0.mk hi724_4; have HC724_4 := Aside0.mk hl724_4; clear hi724_4 hl724_4; have HR724_5 := Aside0.mk hi724_5; have HC724_5 := Aside0.mk hl724_5; clear hi724_5 hl724_5; replace hx724_0 := (cell_far (p := ⟨gb723, 0, none⟩) (by first | (rw [add_block]; exact hn724_0) | (show (Addr.add _ _).block ≠ _; rw [add_block]; exact hn724_0) | exact hn724_0) (.int .u64 ((rd_T26 l0 x17_1).f0))).trans hx724_0; replace hx724_1 := (cell_far (p := ⟨gb723, 0, none⟩) (by first | (rw [add_block]; exact hn724_0) | (show (Addr.add _ _).block ≠ _; rw [add_block]; exact hn724_0) | exact hn724_0) (.int .u64 ((rd_T26 l0 x17_1).f0))).trans hx724_1; replace hx724_2 := (cell_far (p := ⟨gb723, 0, none⟩) (by first | (rw [add_block]; exact hn724_0) | (show (Addr.add _ _).block ≠ _; rw [add_block]; exact hn724_0) | exact hn724_0) (.int .u64 ((rd_T26 l0 x17_1).f0))).trans hx724_2; replace hx724_3 := (cell_far (p := ⟨gb723, 0, none⟩) (by first | (rw [add_block]; exact hn724_0) | (show (Addr.add _ _).block ≠ _; rw [add_block]; exact hn724_0) | exact hn724_0) (.int .u64 ((rd_T26 l0 x17_1).f0))).trans hx724_3; replace hx724_4 := (cell_far (p := ⟨gb723, 0, none⟩) (by first | (rw [add_block]; exact hn724_0) | (show (Addr.add _ _).block ≠ _; rw [add_block]; exact hn724_0) | exact hn724_0) (.int .u64 ((rd_T26 l0 x17_1).f0))).trans hx724_4; replace hx724_5 := (cell_far (p := ⟨gb723, 0, none⟩) (by first | (rw [add_block]; exact hn724_0) | (show (Addr.add _ _).block ≠ _; rw [add_block]; exact hn724_0) | exact hn724_0) (.int .u64 ((rd_T26 l0 x17_1).f0))).trans hx724_5; replace hx724_0 := (cell_far (p := ⟨gb723, 1, none⟩) (by first | (rw [add_block]; exact hn724_1) | (show (Addr.add _ _).block ≠ _; rw [add_block]; exact hn724_1) | exact hn724_1) (.int .u64 ((rd_T26 l0 x17_1).f1))).trans hx724_0; replace hx724_1 := (cell_far (p := ⟨gb723, 1, none⟩) (by first | (rw [add_block]; exact hn724_1) | (show (Addr.add _ _).block ≠ _; rw [add_block]; exact hn724_1) | exact hn724_1) (.int .u64 ((rd_T26 l0 x17_1).f1))).trans hx724_1; replace hx724_2 := (cell_far (p := ⟨gb723, 1, none⟩) (by first | (rw [add_block]; exact hn724_1) | (show (Addr.add _ _).block ≠ _; rw [add_block]; exact hn724_1) | exact hn724_1) (.int .u64 ((rd_T26 l0 x17_1).f1))).trans hx724_2; replace hx724_3 := (cell_far (p := ⟨gb723, 1, none⟩) (by first | (rw [add_block]; exact hn724_1) | (show (Addr.add _ _).block ≠ _; rw [add_block]; exact hn724_1) | exact hn724_1) (.int .u64 ((rd_T26 l0 x17_1).f1))).trans hx724_3; replace hx724_4 := (cell_far (p := ⟨gb723, 1, none⟩) (by first | (rw [add_block]; exact hn724_1) | (show (Addr.add _ _).block ≠ _; rw [add_block]; exact hn724_1) | exact hn724_1) (.int .u64 ((rd_T26 l0 x17_1).f1))).trans hx724_4; replace hx724_5 := (cell_far (p := ⟨gb723, 1, none⟩) (by first | (rw [add_block]; exact hn724_1) | (show (Addr.add _ _).block ≠ _; rw [add_block]; exact hn724_1) | exact hn724_1) (.int .u64 ((rd_T26 l0 x17_1).f1))).trans hx724_5; replace hx724_0 := (cell_far (p := ⟨gb723, 2, none⟩) (by first | (rw [add_block]; exact hn724_2) | (show (Addr.add _ _).block ≠ _; rw [add_block]; exact hn724_2) | exact hn724_2) (.int .u64 ((rd_T26 l0 x17_1).f2))).trans hx724_0; replace hx724_1 := (cell_far (p := ⟨gb723, 2, none⟩) (by first | (rw [add_block]; exact hn724_2) | (show (Addr.add _ _).block ≠ _; rw [add_block]; exact hn724_2) | exact hn724_2) (.int .u64 ((rd_T26 l0 x17_1).f2))).trans hx724_1; replace hx724_2 := (cell_far (p := ⟨gb723, 2, none⟩) (by first | (rw [add_block]; exact hn724_2) | (show (Addr.add _ _).block ≠ _; rw [add_block]; exact hn724_2) | exact hn724_2) (.int .u64 ((rd_T26 l0 x17_1).f2))).trans hx724_2; replace hx724_3 := (cell_far (p := ⟨gb723, 2, none⟩) (by first | (rw [add_block]; exact hn724_2) | (show (Addr.add _ _).block ≠ _; rw [add_block]; exact hn724_2) | exact hn724_2) (.int .u64 ((rd_T26 l0 x17_1).f2))).trans hx724_3; replace hx724_4 := (cell_far (p := ⟨gb723, 2, none⟩) (by first | (rw [add_block]; exact hn724_2) | (show (Addr.add _ _).block ≠ _; rw [add_block]; exact hn724_2) | exact hn724_2) (.int .u64 ((rd_T26 l0 x17_1).f2))).trans hx724_4; replace hx724_5 := (cell_far (p := ⟨gb723, 2, none⟩) (by first | (rw [add_block]; exact hn724_2) | (show (Addr.add _ _).block ≠ _; rw [add_block]; exact hn724_2) | exact hn724_2) (.int .u64 ((rd_T26 l0 x17_1).f2))).trans hx724_5; replace hx724_0 := (cell_far (p := ⟨gb723, 3, none⟩) (by first | (rw [add_block]; exact hn724_3) | (show (Addr.add _ _).block ≠ _; rw [add_block]; exact hn724_3) | exact hn724_3) (.int .u64 ((rd_T26 l0 x17_1).f3))).trans hx724_0; replace hx724_1 := (cell_far (p := ⟨gb723, 3, none⟩) (by first | (rw [add_block]; exact hn724_3) | (show (Addr.add _ _).block ≠ _; rw [add_block]; exact hn724_3) | exact hn724_3) (.int .u64 ((rd_T26 l0 x17_1).f3))).trans hx724_1; replace hx724_2 := (cell_far (p := ⟨gb723, 3, none⟩) (by first | (rw [add_block]; exact hn724_3) | (show (Addr.add _ _).block ≠ _; rw [add_block]; exact hn724_3) | exact hn724_3) (.int .u64 ((rd_T26 l0 x17_1).f3))).trans hx724_2; replace hx724_3 := (cell_far (p := ⟨gb723, 3, none⟩) (by first | (rw [add_block]; exact hn724_3) | (show (Addr.add _ _).block ≠ _; rw [add_block]; exact hn724_3) | exact hn724_3) (.int .u64 ((rd_T26 l0 x17_1).f3))).trans hx724_3; replace hx724_4 := (cell_far (p := ⟨gb723, 3, none⟩) (by first | (rw [add_block]; exact hn724_3) | (show (Addr.add _ _).block ≠ _; rw [add_block]; exact hn724_3) | exact hn724_3) (.int .u64 ((rd_T26 l0 x17_1).f3))).trans hx724_4; replace hx724_5 := (cell_far (p := ⟨gb723, 3, none⟩) (by first | (rw [add_block]; exact hn724_3) | (show (Addr.add _ _).block ≠ _; rw [add_block]; exact hn724_3) | exact hn724_3) (.int .u64 ((rd_T26 l0 x17_1).f3))).trans hx724_5; replace hx724_0 := (cell_far (p := ⟨gb723, 4, none⟩) (by first | (rw [add_block]; exact hn724_4) | (show (Addr.add _ _).block ≠ _; rw [add_block]; exact hn724_4) | exact hn724_4) (.slice A722_4 ((rd_T26 l0 x17_1).f4).length c722_4)).trans hx724_0; replace hx724_1 := (cell_far (p := ⟨gb723, 4, none⟩) (by first | (rw [add_block]; exact hn724_4) | (show (Addr.add _ _).block ≠ _; rw [add_block]; exact hn724_4) | exact hn724_4) (.slice A722_4 ((rd_T26 l0 x17_1).f4).length c722_4)).trans hx724_1; replace hx724_2 := (cell_far (p := ⟨gb723, 4, none⟩) (by first | (rw [add_block]; exact hn724_4) | (show (Addr.add _ _).block ≠ _; rw [add_block]; exact hn724_4) | exact hn724_4) (.slice A722_4 ((rd_T26 l0 x17_1).f4).length c722_4)).trans hx724_2; replace hx724_3 := (cell_far (p := ⟨gb723, 4, none⟩) (by first | (rw [add_block]; exact hn724_4) | (show (Addr.add _ _).block ≠ _; rw [add_block]; exact hn724_4) | exact hn724_4) (.slice A722_4 ((rd_T26 l0 x17_1).f4).length c722_4)).trans hx724_3; replace hx724_4 := (cell_far (p := ⟨gb723, 4, none⟩) (by first | (rw [add_block]; exact hn724_4) | (show (Addr.add _ _).block ≠ _; rw [add_block]; exact hn724_4) | exact hn724_4) (.slice A722_4 ((rd_T26 l0 x17_1).f4).length c722_4)).trans hx724_4; replace hx724_5 := (cell_far (p := ⟨gb723, 4, none⟩) (by first | (rw [add_block]; exact hn724_4) | (show (Addr.add _ _).block ≠ _; rw [add_block]; exact hn724_4) | exact hn724_4) (.slice A722_4 ((rd_T26 l0 x17_1).f4).length c722_4)).trans hx724_5; replace hx724_0 := (cell_far (p := ⟨gb723, 5, none⟩) (by first | (rw [add_block]; exact hn724_5) | (show (Addr.add _ _).block ≠ _; rw [add_block]; exact hn724_5) | exact hn724_5) (.slice A722_5 ((rd_T26 l0 x17_1).f5).length c722_5)).trans hx724_0; replace hx724_1 := (cell_far (p := ⟨gb723, 5, none⟩) (by first | (rw [add_block]; exact hn724_5) | (show (Addr.add _ _).block ≠ _; rw [add_block]; exact hn724_5) | exact hn724_5) (.slice A722_5 ((rd_T26 l0 x17_1).f5).length c722_5)).trans hx724_1; replace hx724_2 := (cell_far (p := ⟨gb723, 5, none⟩) (by first | (rw [add_block]; exact hn724_5) | (show (Addr.add _ _).block ≠ _; rw [add_block]; exact hn724_5) | exact hn724_5) (.slice A722_5 ((rd_T26 l0 x17_1).f5).length c722_5)).trans hx724_2; replace hx724_3 := (cell_far (p := ⟨gb723, 5, none⟩) (by first | (rw [add_block]; exact hn724_5) | (show (Addr.add _ _).block ≠ _; rw [add_block]; exact hn724_5) | exact hn724_5) (.slice A722_5 ((rd_T26 l0 x17_1).f5).length c722_5)).trans hx724_3; replace hx724_4 := (cell_far (p := ⟨gb723, 5, none⟩) (by first | (rw [add_block]; exact hn724_5) | (show (Addr.add _ _).block ≠ _; rw [add_block]; exact hn724_5) | exact hn724_5) (.slice A722_5 ((rd_T26 l0 x17_1).f5).length c722_5)).trans hx724_4; replace hx724_5 := (cell_far (p := ⟨gb723, 5, none⟩) (by first | (rw [add_block]; exact hn724_5) | (show (Addr.add _ _).block ≠ _; rw [add_block]; exact hn724_5) | exact hn724_5) (.slice A722_5 ((rd_T26 l0 x17_1).f5).length c722_5)).trans hx724_5; clear hn724_0; clear hn724_1; clear hn724_2; clear hn724_3; clear hn724_4; clear hn724_5; replace p724 := eq_true p724; replace q724 := eq_true q724) | ((with_reducible refine gate_dst (N := 9) rfl ?_); refine box_event ?hg (N := 9) ?hd (cs := #[.int .u64 0, .int .u64 0, .int .u64 0, .int .u64 0, .slice none 0 0, .slice none 0 0]) (t := 26) ?hr ?_; (case hd => rfl); (case hg => rfl); (case hr => first | (go_simp; done) | (go_simp; rfl)); intro gb725 hg w20 hbox hb; have n0_ := Aside0.mk (blk_below (g := gb723) (o := .cells #[.int .u64 ((rd_T26 l0 x17_1).f0), .int .u64 ((rd_T26 l0 x17_1).f1), .int .u64 ((rd_T26 l0 x17_1).f2), .int .u64 ((rd_T26 l0 x17_1).f3), .slice A722_4 ((rd_T26 l0 x17_1).f4).length c722_4, .slice A722_5 ((rd_T26 l0 x17_1).f5).length c722_5] 26 (0, 0)) (by (with_reducible repeat (first | refine blk_drewN ?_ _ | refine blk_drew ?_ | refine blk_alloc ?_ _)); refine blk_put (cs := #[.int .u64 ((rd_T26 l0 x17_1).f0), .int .u64 ((rd_T26 l0 x17_1).f1), .int .u64 ((rd_T26 l0 x17_1).f2), .int .u64 ((rd_T26 l0 x17_1).f3), .slice A722_4 ((rd_T26 l0 x17_1).f4).length c722_4, .slice none 0 0]) ?_ 5 _ rfl; refine blk_put (cs := #[.int .u64 ((rd_T26 l0 x17_1).f0), .int .u64 ((rd_T26 l0 x17_1).f1), .int .u64 ((rd_T26 l0 x17_1).f2), .int .u64 ((rd_T26 l0 x17_1).f3), .slice none 0 0, .slice none 0 0]) ?_ 4 _ rfl; refine blk_put (cs := #[.int .u64 ((rd_T26 l0 x17_1).f0), .int .u64 ((rd_T26 l0 x17_1).f1), .int .u64 ((rd_T26 l0 x17_1).f2), .int .u64 0, .slice none 0 0, .slice none 0 0]) ?_ 3 _ rfl; refine blk_put (cs := #[.int .u64 ((rd_T26 l0 x17_1).f0), .int .u64 ((rd_T26 l0 x17_1).f1), .int .u64 0, .int .u64 0, .slice none 0 0, .slice none 0 0]) ?_ 2 _ rfl; refine blk_put (cs := #[.int .u64 ((rd_T26 l0 x17_1).f0), .int .u64 0, .int .u64 0, .int .u64 0, .slice none 0 0, .slice none 0 0]) ?_ 1 _ rfl; refine blk_put (cs := #[.int .u64 0, .int .u64 0, .int .u64 0, .int .u64 0, .slice none 0 0, .slice none 0 0]) ?_ 0 _ rfl; exact BK723.out) hb); have n1_ := Aside0.mk (below_step bl_ hb); have n2_ := Aside0.mk (hbox); have n3_ := Aside0.mk (bsz_ hg : w.heap.size ≤ gb725); have n4_ := Aside0.mk (bsz_ hg : w.heap.size ≤ gb725); have n5_ := Aside0.mk ((by rw [hg]; exact Nat.ne_of_lt (blk_lt (g := gb723) (o := .cells #[.int .u64 ((rd_T26 l0 x17_1).f0), .int .u64 ((rd_T26 l0 x17_1).f1), .int .u64 ((rd_T26 l0 x17_1).f2), .int .u64 ((rd_T26 l0 x17_1).f3), .slice A722_4 ((rd_T26 l0 x17_1).f4).length c722_4, .slice A722_5 ((rd_T26 l0 x17_1).f5).length c722_5] 26 (0, 0)) (by (with_reducible repeat (first | refine blk_drewN ?_ _ | refine blk_drew ?_ | refine blk_alloc ?_ _)); refine blk_put (cs := #[.int .u64 ((rd_T26 l0 x17_1).f0), .int .u64 ((rd_T26 l0 x17_1).f1), .int .u64 ((rd_T26 l0 x17_1).f2), .int .u64 ((rd_T26 l0 x17_1).f3), .slice A722_4 ((rd_T26 l0 x17_1).f4).length c722_4, .slice none 0 0]) ?_ 5 _ rfl; refine blk_put (cs := #[.int .u64 ((rd_T26 l0 x17_1).f0), .int .u64 ((rd_T26 l0 x17_1).f1), .int .u64 ((rd_T26 l0 x17_1).f2), .int .u64 ((rd_T26 l0 x17_1).f3), .slice none 0 0, .slice none 0 0]) ?_ 4 _ rfl; refine blk_put (cs := #[.int .u64 ((rd_T26 l0 x17_1).f0), .int .u64 ((rd_T26 l0 x17_1).f1), .int .u64 ((rd_T26 l0 x17_1).f2), .int .u64 0, .slice none 0 0, .slice none 0 0]) ?_ 3 _ rfl; refine blk_put (cs := #[.int .u64 ((rd_T26 l0 x17_1).f0), .int .u64 ((rd_T26 l0 x17_1).f1), .int .u64 0, .int .u64 0, .slice none 0 0, .slice none 0 0]) ?_ 2 _ rfl; refine blk_put (cs := #[.int .u64 ((rd_T26 l0 x17_1).f0), .int .u64 0, .int .u64 0, .int .u64 0, .slice none 0 0, .slice none 0 0]) ?_ 1 _ rfl; refine blk_put (cs := #[.int .u64 0, .int .u64 0, .int .u64 0, .int .u64 0, .slice none 0 0, .slice none 0 0]) ?_ 0 _ rfl; exact BK723.out)) : gb723 ≠ gb725)); have n6_ := Aside0.mk ((by rw [hg]; exact Nat.ne_of_gt (blk_lt (g := gb723) (o := .cells #[.int .u64 ((rd_T26 l0 x17_1).f0), .int .u64 ((rd_T26 l0 x17_1).f1), .int .u64 ((rd_T26 l0 x17_1).f2), .int .u64 ((rd_T26 l0 x17_1).f3), .slice A722_4 ((rd_T26 l0 x17_1).f4).length c722_4, .slice A722_5 ((rd_T26 l0 x17_1).f5).length c722_5] 26 (0, 0)) (by (with_reducible repeat (first | refine blk_drewN ?_ _ | refine blk_drew ?_ | refine blk_alloc ?_ _)); refine blk_put (cs := #[.int .u64 ((rd_T26 l0 x17_1).f0), .int .u64 ((rd_T26 l0 x17_1).f1), .int .u64 ((rd_T26 l0 x17_1).f2), .int .u64 ((rd_T26 l0 x17_1).f3), .slice A722_4 ((rd_T26 l0 x17_1).f4).length c722_4, .slice none 0 0]) ?_ 5 _ rfl; refine blk_put (cs := #[.int .u64 ((rd_T26 l0 x17_1).f0), .int .u64 ((rd_T26 l0 x17_1).f1), .int .u64 ((rd_T26 l0 x17_1).f2), .int .u64 ((rd_T26 l0 x17_1).f3), .slice none 0 0, .slice none 0 0]) ?_ 4 _ rfl; refine blk_put (cs := #[.int .u64 ((rd_T26 l0 x17_1).f0), .int .u64 ((rd_T26 l0 x17_1).f1), .int .u64 ((rd_T26 l0 x17_1).f2), .int .u64 0, .slice none 0 0, .slice none 0 0]) ?_ 3 _ rfl; refine blk_put (cs := #[.int .u64 ((rd_T26 l0 x17_1).f0), .int .u64 ((rd_T26 l0 x17_1).f1), .int .u64 0, .int .u64 0, .slice none 0 0, .slice none 0 0]) ?_ 2 _ rfl; refine blk_put (cs := #[.int .u64 ((rd_T26 l0 x17_1).f0), .int .u64 0, .int .u64 0, .int .u64 0, .slice none 0 0, .slice none 0 0]) ?_ 1 _ rfl; refine blk_put (cs := #[.int .u64 0, .int .u64 0, .int .u64 0, .int .u64 0, .slice none 0 0, .slice none 0 0]) ?_ 0 _ rfl; exact BK723.out)) : gb725 ≠ gb723)); clear BK723; clear HB; have BK723 := n0_; have HB := n1_; have BK725 := n2_; have GW725 := n3_; have GE725 := n4_; have NB723_725 := n5_; have NB725_723 := n6_; clear n0_ n1_ n2_ n3_ n4_ n5_ n6_; clear hb hbox hg; have hnb21 := NB725_723.out; have hnc21 := NB723_725.out; obtain ⟨hcz22_0, hcz22_1, hcz22_2, hcz22_3, hcz22_4, hcz22_5, hfz22_0, hfz22_1, hfz22_2, hfz22_3, hfz22_4, hfz22_5⟩ := blk6_ BK725.out; obtain ⟨hcz23_0, hcz23_1, hcz23_2, hcz23_3, hcz23_4, hcz23_5, hfz23_0, hfz23_1, hfz23_2, hfz23_3, hfz23_4, hfz23_5⟩ := blk6_ BK723.out) | (go_at_call 75; (with_reducible refine (ssi_Same_1.calls k1 ((rd_T26 l0 x17_1).f0) ((rd_T26 l0 x17_1).f1) ((rd_T26 l0 x17_1).f2) ((rd_T26 l0 x17_1).f3) _ _ ((rd_T26 l0 x17_1).f4) _ _ ((rd_T26 l0 x17_1).f5) ((rd_T26 l1 x17_1).f0) ((rd_T26 l1 x17_1).f1) ((rd_T26 l1 x17_1).f2) ((rd_T26 l1 x17_1).f3) _ _ ((rd_T26 l1 x17_1).f4) _ _ ((rd_T26 l1 x17_1).f5) false _ ?side1 ?side2 ?side3 ?side4 ?side5 ?side6 ?side7 ?side8 A9.out).mono ?_); (case side1 => exact Kd.C_below HR722_4.out bl_); (case side2 => exact HC722_4.out); (case side3 => exact Kd.C_below HR722_5.out bl_); (case side4 => exact HC722_5.out); (case side5 => exact Kd.C_below HR724_4.out bl_); (case side6 => exact HC724_4.out); (case side7 => exact Kd.C_below HR724_5.out bl_); (case side8 => exact HC724_5.out); rintro e w24 ⟨rfl, hb⟩; have n0_ := Aside0.mk (blk_below (g := gb723) (o := .cells #[.int .u64 ((rd_T26 l0 x17_1).f0), .int .u64 ((rd_T26 l0 x17_1).f1), .int .u64 ((rd_T26 l0 x17_1).f2), .int .u64 ((rd_T26 l0 x17_1).f3), .slice A722_4 ((rd_T26 l0 x17_1).f4).length c722_4, .slice A722_5 ((rd_T26 l0 x17_1).f5).length c722_5] 26 (0, 0)) (by (with_reducible repeat (first | refine blk_drewN ?_ _ | refine blk_drew ?_ | refine blk_alloc ?_ _)); refine blk_far ?_ NB723_725.out _; (with_reducible repeat (first | refine blk_drewN ?_ _ | refine blk_drew ?_ | refine blk_alloc ?_ _)); refine blk_far ?_ NB723_725.out _; (with_reducible repeat (first | refine blk_drewN ?_ _ | refine blk_drew ?_ | refine blk_alloc ?_ _)); refine blk_far ?_ NB723_725.out _; (with_reducible repeat (first | refine blk_drewN ?_ _ | refine blk_drew ?_ | refine blk_alloc ?_ _)); refine blk_far ?_ NB723_725.out _; (with_reducible repeat (first | refine blk_drewN ?_ _ | refine blk_drew ?_ | refine blk_alloc ?_ _)); refine blk_far ?_ NB723_725.out _; (with_reducible repeat (first | refine blk_drewN ?_ _ | refine blk_drew ?_ | refine blk_alloc ?_ _)); refine blk_far ?_ NB723_725.out _; (with_reducible repeat (first | refine blk_drewN ?_ _ | refine blk_drew ?_ | refine blk_alloc ?_ _)); exact BK723.out) hb); have n1_ := Aside0.mk (blk_below (g := gb725) (o := .cells #[.int .u64 ((rd_T26 l1 x17_1).f0), .int .u64 ((rd_T26 l1 x17_1).f1), .int .u64 ((rd_T26 l1 x17_1).f2), .int .u64 ((rd_T26 l1 x17_1).f3), .slice A724_4 ((rd_T26 l1 x17_1).f4).length c724_4, .slice A724_5 ((rd_T26 l1 x17_1).f5).length c724_5] 26 (0, 0)) (by (with_reducible repeat (first | refine blk_drewN ?_ _ | refine blk_drew ?_ | refine blk_alloc ?_ _)); refine blk_put (cs := #[.int .u64 ((rd_T26 l1 x17_1).f0), .int .u64 ((rd_T26 l1 x17_1).f1), .int .u64 ((rd_T26 l1 x17_1).f2), .int .u64 ((rd_T26 l1 x17_1).f3), .slice A724_4 ((rd_T26 l1 x17_1).f4).length c724_4, .slice none 0 0]) ?_ 5 _ rfl; refine blk_put (cs := #[.int .u64 ((rd_T26 l1 x17_1).f0), .int .u64 ((rd_T26 l1 x17_1).f1), .int .u64 ((rd_T26 l1 x17_1).f2), .int .u64 ((rd_T26 l1 x17_1).f3), .slice none 0 0, .slice none 0 0]) ?_ 4 _ rfl; refine blk_put (cs := #[.int .u64 ((rd_T26 l1 x17_1).f0), .int .u64 ((rd_T26 l1 x17_1).f1), .int .u64 ((rd_T26 l1 x17_1).f2), .int .u64 0, .slice none 0 0, .slice none 0 0]) ?_ 3 _ rfl; refine blk_put (cs := #[.int .u64 ((rd_T26 l1 x17_1).f0), .int .u64 ((rd_T26 l1 x17_1).f1), .int .u64 0, .int .u64 0, .slice none 0 0, .slice none 0 0]) ?_ 2 _ rfl; refine blk_put (cs := #[.int .u64 ((rd_T26 l1 x17_1).f0), .int .u64 0, .int .u64 0, .int .u64 0, .slice none 0 0, .slice none 0 0]) ?_ 1 _ rfl; refine blk_put (cs := #[.int .u64 0, .int .u64 0, .int .u64 0, .int .u64 0, .slice none 0 0, .slice none 0 0]) ?_ 0 _ rfl; exact BK725.out) hb); have n2_ := Aside0.mk (below_step bl_ hb); clear BK723; clear BK725; clear HB; have BK723 := n0_; have BK725 := n1_; have HB := n2_; clear n0_ n1_ n2_; (try clear hb); (try clear hb2); (try clear hk); (try clear hi)))
         go_ret
         exact ⟨by first | rfl | (simp [errW_none, errW_some] <;> rfl) | (simp [*, errW_none, errW_some] <;> rfl), bl_⟩
       ·rw [if_neg c8] at H
        exact absurd H (by simp)
      ·rw [if_neg c7] at H
       exact absurd H (by simp)
     ·rw [if_neg c6] at H
      exact absurd H (by simp)
    ·rw [if_neg c5] at H
     have c5b0 : decide (x17_1 < (l0.length : Int)) = false := decide_eq_false c5
     clear c5; obtain rfl := Option.some.inj H
     go_wp2
     go_ret
     exact ⟨by first | rfl | (simp [errW_none, errW_some] <;> rfl) | (simp [*, errW_none, errW_some] <;> rfl), bl_⟩
 ·rw [if_neg c4] at H
  have c4b0 : ((l0.length : Int) == (l1.length : Int)) = false := beq_eq_false_iff_ne.mpr c4
  have c4b1 : ((l0.length : Int) != (l1.length : Int)) = true := bne_iff_ne.mpr c4
  have c4b2 : (l0.length == l1.length) = false := by first | simpa using c4 | (simp at c4 ⊢; omega)
  obtain rfl := Option.some.inj H
  go_enter Try.func74, Try.ntmps74
  go_wp2
  go_ret
  exact ⟨by first | rfl | (simp [errW_none, errW_some] <;> rfl) | (simp [*, errW_none, errW_some] <;> rfl), bl_⟩
def ssi_Same.f (k : Nat) (l0 : List (S26)) (l1 : List (S26)) : Option (Bool) := (api_Record_74.f k l0 l1).bind fun t727 => (some t727)
set_option maxHeartbeats 8000000 in
set_option maxRecDepth 100000 in
theorem ssi_Same.calls (k : Nat) (A0 : Option Addr) (c0 : Nat) (l0 : List (S26)) (A1 : Option Addr) (c1 : Nat) (l1 : List (S26)) (r : Bool) (w : World) (hr0 : Kd.C k26 w A0 l0.length l0) (hc0 : l0.length ≤ c0) (hr1 : Kd.C k26 w A1 l1.length l1) (hc1 : l1.length ≤ c1) (h : ssi_Same.f k l0 l1 = some r) :
  Calls Try.prog 52 #[.slice A0 l0.length c0, .slice A1 l1.length c1] w fun e w' => e = .returned (.bool r) ∧ Below w.heap.size w w' := by
 have HR0 := Aside0.mk hr0; have HC0 := Aside0.mk hc0; clear hr0 hc0; have HR1 := Aside0.mk hr1; have HC1 := Aside0.mk hc1; clear hr1 hc1
 have HB := Aside0.mk (Below.refl w.heap.size w)
 have H : ((api_Record_74.f k l0 l1).bind fun t727 => (some t727)) = some r := h
 clear h; replace H := Option.bind_eq_some_iff.mp H; obtain ⟨t727, A30, H⟩ := H
 replace H : (some t727) = some r := H
 have A3 := Aside0.mk A30; clear A30; obtain rfl := Option.some.inj H
 go_enter Try.func52, Try.ntmps52
 go_wp2_with (first | ((with_reducible refine gate_callee (f := 74) rfl ?_); refine goesL_ (some 7) rfl rfl Try.func74 (by kernel_rfl) rfl #[.slice A0 l0.length c0, .slice A1 l1.length c1, .func (.func 75) #[] #[]] rfl sa_ ?_; (with_reducible refine (api_Record_74.calls k _ _ l0 _ _ l1  t727 _ ?side1 ?side2 ?side3 ?side4 A3.out).mono ?_); (case side1 => exact HR0.out); (case side2 => exact HC0.out); (case side3 => exact HR1.out); (case side4 => exact HC1.out); rintro e w4 ⟨rfl, hb⟩; refine ⟨_, rfl, ?_⟩; have n0_ := Aside0.mk (below_step bl_ hb); clear HB; have HB := n0_; clear n0_; (try clear hb); (try clear hb2); (try clear hk); (try clear hi)))
 go_ret
 exact ⟨by first | rfl | (simp [errW_none, errW_some] <;> rfl) | (simp [*, errW_none, errW_some] <;> rfl), bl_⟩
-- NOT PRINTED: function 14 (conductorlaw10_SsiJoins)
def api_Record_71.f (l0 : List S26) : Option (List S26) := if l0.length < 1759218604441 then some l0 else none
set_option maxHeartbeats 1000000 in
theorem api_Record_71.calls (P0_ : Nat → Prop) (A0 : Option Addr) (c0 : Nat) (l0 : List S26) (r : List S26) (w : World) (hs0 : Kd.V k26 26 w w.heap.size (fun k_ => P0_ k_) (.slice A0 l0.length c0) l0) (h : api_Record_71.f l0 = some r) :
  Calls Try.prog 71 #[.slice A0 l0.length c0] w fun e w' => ∃ v0_ : Value, e = .returned (v0_) ∧ Kd.N k26 26 w' w.heap.size (fun k_ => (P0_ k_ ∨ w.heap.size ≤ k_)) v0_ r ∧ Below w.heap.size w w' := by
 unfold api_Record_71.f at h
 by_cases hl : l0.length < 1759218604441
 ·rw [if_pos hl] at h
  obtain rfl := Option.some.inj h; have HL := Aside0.mk hl; clear h hl; obtain ⟨A0', c0', he, hc0, hF0⟩ := hs0
  injection he with he1 _ he2
  subst he1 he2
  have hF := Kd.F_bound hF0
  cases A0 with
  | none =>
   have hn : l0 = [] := by
    cases l0 with
    | nil => rfl
    | cons x t => have := (Kd.F_now hF).2.2 (by simp); obtain ⟨ad, h1, _⟩ := this; cases h1
   subst hn; clear hF hF0
   have heq := fun W => Lib.run_eql_slice_nil (P := Try.prog) W 22 26 (none : Option Addr) 0 c0 0 0 Try.underlying22
   go_enter Try.func71, Try.ntmps71
   go_wp2
   go_ret
   exact ⟨_, rfl, Kd.N_nil _ _ _ _ _, Below.refl _ _⟩
  | some ad =>
   have HF := Aside0.mk hF; have HC := Aside0.mk hc0
   have heq := fun W => Lib.run_eql_slice_nil (P := Try.prog) W 22 26 (some ad) l0.length c0 0 0 Try.underlying22
   clear hF hF0 hc0
   go_enter Try.func71, Try.ntmps71
   go_wp2_with (first
    | ((with_reducible refine gate_dst (N := 5) rfl ?_); refine Kd.N_lit k26 _ 26 ?hg (N' := 5) ?hd (xs := ([] : List S26)) (inner := []) (ok := fun k_ => (P0_ k_ ∨ w.heap.size ≤ k_)) (okp := fun _ => False) ?hr ?hp (fun _ hk => hk.elim) (.inr (Nat.le_refl _)) (Below.refl w.heap.size w) (Nat.le_refl _) (by simp) ?_; (case hd => rfl); (case hg => rfl); (case hr => first | (go_simp; done) | (go_simp; rfl)); (case hp => exact Reps.none _ _); intro v1 w1 ho1 hb1 hg_ hnew_; clear hg_; have HO1 := Aside0.mk ho1; have HB1 := Aside0.mk hb1; have HN1 := Aside0.mk hnew_; clear ho1 hb1 hnew_)
    | ((with_reducible refine gate_builtin (b := .append) (xs := #[.tmp 5, .tmp 6]) rfl ?_); at_builtin; refine Kd.N_append_rows k26 (w0 := w) w.heap.size rfl (.tmp 5) (.tmp 6) 22 26 (.agg #[(.int .u64 0), (.int .u64 0), (.int .u64 0), (.int .u64 0), (.slice none 0 0), (.slice none 0 0)]) 80 rfl Try.underlying22 info26 rfl (by decide) (by omega) v1 [] l0 _ _ _ (fun k_ => (P0_ k_ ∨ w.heap.size ≤ k_)) (fun k_ => P0_ k_ ∧ k_ < w.heap.size) rfl rfl ?aO ?aR (fun k_ hk => ⟨.inl hk.1, fun e => by obtain ⟨b, hb, hle⟩ := HN1.out; rw [hb] at e; injection e with e; have := hk.2; omega⟩) ?aF ?aB ?aS ?aL ?_; (case aR => exact Kd.F_step HF.out (fun k_ hk _ => HB1.out.block k_ hk.2)); (case aF => exact (fun k_ hk => .inr (Nat.le_trans HB1.out.size hk))); (case aO => exact HO1.out); (case aB => exact HB1.out); (case aS => exact HB1.out.size); (case aL => have := HL.out; simp only [List.length_nil]; omega); intro v2 w2 ho2 hb2 hg_ hnew2_; clear hg_ hnew2_; have HO2 := Aside0.mk ho2; have HB2 := Aside0.mk hb2; clear ho2 hb2))
   go_ret
   exact ⟨_, rfl, HO2.out, HB2.out⟩
 ·rw [if_neg hl] at h; cases h
-- NOT PRINTED: function 44 (ssi_Fit)
def ssi_Fit.l1 : Nat → Int → Int → List S26 → Option (List S26)
  | 0, _, _, _ => none
  | k + 1, n, a2, x7 => if (x7.length : Int) > n then (if 1 < (x7.length : Int) then ((ssi_Join.f k (rd_T26 x7 0).f0 (rd_T26 x7 0).f1 (rd_T26 x7 0).f2 (rd_T26 x7 0).f3 (rd_T26 x7 0).f4 (rd_T26 x7 0).f5 (rd_T26 x7 1).f0 (rd_T26 x7 1).f1 (rd_T26 x7 1).f2 (rd_T26 x7 1).f3 (rd_T26 x7 1).f4 (rd_T26 x7 1).f5 a2).bind fun bt => ssi_Fit.l1 k n a2 ((⟨bt.1, bt.2.1, bt.2.2.1, bt.2.2.2.1, bt.2.2.2.2.1, bt.2.2.2.2.2⟩ : S26) :: x7.drop 2)) else none) else api_Record_71.f x7
def ssi_Fit.l0 : Nat → Int → Int → List S26 → List S26 → Int → Option (List S26)
  | 0, _, _, _, _, _ => none
  | k + 1, n, a2, x7, l0, x17 => if x17 < (l0.length : Int) then (if 0 ≤ x17 then ((ssi_own.f (rd_T26 l0 x17).f0 (rd_T26 l0 x17).f1 (rd_T26 l0 x17).f2 (rd_T26 l0 x17).f3 (rd_T26 l0 x17).f4 (rd_T26 l0 x17).f5).bind fun bt => if x7.length < 1759218604441 then ssi_Fit.l0 k n a2 (x7 ++ [(⟨bt.1, bt.2.1, bt.2.2.1, bt.2.2.2.1, bt.2.2.2.2.1, bt.2.2.2.2.2⟩ : S26)]) l0 (wrap64 (x17 + 1)) else none) else none) else ssi_Fit.l1 k n a2 x7
def ssi_Fit.f (k : Nat) (l0 : List S26) (a1 : Int) (a2 : Int) : Option (List S26) := if l0.length ≤ 3518437208883 then ssi_Fit.l0 k (mx a1 1) a2 [] l0 0 else none
/-- The list that is made fewer: it is read as it stands; where it has two or more, it is the rest of a row of the call's own. -/
def Qn (W : World) (base : Nat) (v : Value) (xs : List S26) : Prop :=
  Kd.V k26 26 W base (fun k_ => base ≤ k_) v xs ∧ (2 ≤ xs.length → ∃ (g cap m : Nat) (ys : List S26), v = .slice (some ⟨g, m * 6, none⟩) xs.length (cap - m) ∧ m ≤ ys.length ∧ xs = ys.drop m ∧ Kd.N k26 26 W base (fun k_ => base ≤ k_) (.slice (some ⟨g, 0, none⟩) ys.length cap) ys)
theorem Qn_N {W : World} {base : Nat} {v : Value} {xs : List S26} (h : Kd.N k26 26 W base (fun k_ => base ≤ k_) v xs) : Qn W base v xs :=
  ⟨Kd.N_V h, fun h2 => by
    obtain ⟨g, cap, e, _⟩ := Kd.N_form h (by omega)
    subst e
    exact ⟨g, cap, 0, xs, by simp, Nat.zero_le _, rfl, h⟩⟩
theorem Qn_below {W W1 : World} {base : Nat} {v : Value} {xs : List S26} (h : Qn W base v xs) (hb : Below W.heap.size W W1) : Qn W1 base v xs :=
  ⟨Kd.V_below h.1 hb, fun h2 => by
    obtain ⟨g, cap, m, ys, e, h3, h4, h5⟩ := h.2 h2
    exact ⟨g, cap, m, ys, e, h3, h4, Kd.N_below h5 hb⟩⟩
theorem rd_drop (ys : List S26) (m i : Nat) : rd_T26 (ys.drop m) (i : Int) = rd_T26 ys ((m + i : Nat) : Int) := by
  unfold rd_T26
  simp only [List.getD_eq_getElem?_getD, List.getElem?_drop, Int.toNat_natCast]
theorem N_cells {W : World} {base g cap : Nat} {ys : List S26} (h : Kd.N k26 26 W base (fun k_ => base ≤ k_) (.slice (some ⟨g, 0, none⟩) ys.length cap) ys) (i : Nat) (hi : i < ys.length) :
    ∃ A4 c4 A5 c5, W.cell? ⟨g, i * 6, none⟩ = some (.int .u64 (rd_T26 ys (i : Int)).f0) ∧ W.cell? ⟨g, i * 6 + 1, none⟩ = some (.int .u64 (rd_T26 ys (i : Int)).f1) ∧ W.cell? ⟨g, i * 6 + 2, none⟩ = some (.int .u64 (rd_T26 ys (i : Int)).f2) ∧ W.cell? ⟨g, i * 6 + 3, none⟩ = some (.int .u64 (rd_T26 ys (i : Int)).f3) ∧
      W.cell? ⟨g, i * 6 + 4, none⟩ = some (.slice A4 (rd_T26 ys (i : Int)).f4.length c4) ∧ W.cell? ⟨g, i * 6 + 5, none⟩ = some (.slice A5 (rd_T26 ys (i : Int)).f5.length c5) ∧ (rd_T26 ys (i : Int)).f4.length ≤ c4 ∧ Kd.C k41 W A4 (rd_T26 ys (i : Int)).f4.length (rd_T26 ys (i : Int)).f4 ∧ (rd_T26 ys (i : Int)).f5.length ≤ c5 ∧ Kd.C k41 W A5 (rd_T26 ys (i : Int)).f5.length (rd_T26 ys (i : Int)).f5 ∧ ∀ j, W.frozen? ⟨g, i * 6 + j, none⟩ = false := by
  obtain ⟨c, hcl, hF, hcc, hfr⟩ := Kd.N_elem h z26 (i : Int) (by omega) (by omega)
  simp only [Int.toNat_natCast] at hF hcc hfr
  obtain ⟨A4, c4, A5, c5, rfl, l4, g4, l5, g5⟩ := k26_openF hF
  exact ⟨A4, c4, A5, c5, hcc 0 _ rfl, hcc 1 _ rfl, hcc 2 _ rfl, hcc 3 _ rfl, hcc 4 _ rfl, hcc 5 _ rfl, l4, Kd.F_now g4, l5, Kd.F_now g5, hfr⟩
theorem Qn_at {W : World} {base : Nat} {v : Value} {xs : List S26} (h : Qn W base v xs) (h2 : 2 ≤ xs.length) : ∃ (ad : Addr) (c : Nat), v = .slice (some ad) xs.length c ∧ xs.length ≤ c ∧ ad.add 0 = ad ∧ base ≤ ad.block ∧ ∃ A4 c4 A5 c5 B4 d4 B5 d5,
    (W.cell? ad = some (.int .u64 (rd_T26 xs 0).f0) ∧ W.cell? ⟨ad.block, ad.off + 1, none⟩ = some (.int .u64 (rd_T26 xs 0).f1) ∧ W.cell? ⟨ad.block, ad.off + 2, none⟩ = some (.int .u64 (rd_T26 xs 0).f2) ∧ W.cell? ⟨ad.block, ad.off + 3, none⟩ = some (.int .u64 (rd_T26 xs 0).f3) ∧ W.cell? ⟨ad.block, ad.off + 4, none⟩ = some (.slice A4 (rd_T26 xs 0).f4.length c4) ∧ W.cell? ⟨ad.block, ad.off + 5, none⟩ = some (.slice A5 (rd_T26 xs 0).f5.length c5) ∧
     W.cell? ⟨ad.block, ad.off + 6, none⟩ = some (.int .u64 (rd_T26 xs 1).f0) ∧ W.cell? ⟨ad.block, ad.off + 6 + 1, none⟩ = some (.int .u64 (rd_T26 xs 1).f1) ∧ W.cell? ⟨ad.block, ad.off + 6 + 2, none⟩ = some (.int .u64 (rd_T26 xs 1).f2) ∧ W.cell? ⟨ad.block, ad.off + 6 + 3, none⟩ = some (.int .u64 (rd_T26 xs 1).f3) ∧ W.cell? ⟨ad.block, ad.off + 6 + 4, none⟩ = some (.slice B4 (rd_T26 xs 1).f4.length d4) ∧ W.cell? ⟨ad.block, ad.off + 6 + 5, none⟩ = some (.slice B5 (rd_T26 xs 1).f5.length d5)) ∧
    ((rd_T26 xs 0).f4.length ≤ c4 ∧ Kd.C k41 W A4 (rd_T26 xs 0).f4.length (rd_T26 xs 0).f4 ∧ (rd_T26 xs 0).f5.length ≤ c5 ∧ Kd.C k41 W A5 (rd_T26 xs 0).f5.length (rd_T26 xs 0).f5) ∧ ((rd_T26 xs 1).f4.length ≤ d4 ∧ Kd.C k41 W B4 (rd_T26 xs 1).f4.length (rd_T26 xs 1).f4 ∧ (rd_T26 xs 1).f5.length ≤ d5 ∧ Kd.C k41 W B5 (rd_T26 xs 1).f5.length (rd_T26 xs 1).f5) ∧
    (W.frozen? ⟨ad.block, ad.off + 6, none⟩ = false ∧ W.frozen? ⟨ad.block, ad.off + 6 + 1, none⟩ = false ∧ W.frozen? ⟨ad.block, ad.off + 6 + 2, none⟩ = false ∧ W.frozen? ⟨ad.block, ad.off + 6 + 3, none⟩ = false ∧ W.frozen? ⟨ad.block, ad.off + 6 + 4, none⟩ = false ∧ W.frozen? ⟨ad.block, ad.off + 6 + 5, none⟩ = false) := by
  obtain ⟨g, cap, m, ys, e, h3, h4, h5⟩ := h.2 h2
  have hc := (Kd.N_reads' h5).2.1
  have hlen : xs.length = ys.length - m := by rw [h4, List.length_drop]
  have e0 : rd_T26 xs 0 = rd_T26 ys (m : Int) := by rw [h4]; exact rd_drop ys m 0
  have e1 : rd_T26 xs 1 = rd_T26 ys ((m + 1 : Nat) : Int) := by rw [h4]; exact rd_drop ys m 1
  obtain ⟨g', cap', e', hbg, _⟩ := Kd.N_form h5 (by omega)
  injection e' with e'1 e'2 e'3
  injection e'1 with e'1
  injection e'1 with e'1
  subst e'1
  rw [e0, e1]
  obtain ⟨A4, c4, A5, c5, a0, a1, a2, a3, a4, a5, l4, g4, l5, g5, _⟩ := N_cells h5 m (by omega)
  obtain ⟨B4, d4, B5, d5, b0, b1, b2, b3, b4, b5, m4, k4, m5, k5, bf⟩ := N_cells h5 (m + 1) (by omega)
  have o6 : (m + 1) * 6 = m * 6 + 6 := by omega
  rw [o6] at b0 b1 b2 b3 b4 b5
  refine ⟨⟨g, m * 6, none⟩, cap - m, e, by omega, by simp [Addr.add], hbg, A4, c4, A5, c5, B4, d4, B5, d5, ⟨a0, a1, a2, a3, a4, a5, b0, b1, b2, b3, b4, b5⟩, ⟨l4, g4, l5, g5⟩, ⟨m4, k4, m5, k5⟩, ?_⟩
  have f := fun j => bf j
  rw [o6] at f
  exact ⟨f 0, f 1, f 2, f 3, f 4, f 5⟩
theorem Qn_put {W : World} {base : Nat} {ad : Addr} {c : Nat} {xs : List S26} (h : Qn W base (.slice (some ad) xs.length c) xs) (h2 : 2 ≤ xs.length) (x : S26) {A4 A5 : Option Addr} {c4 c5 : Nat}
    (g4 : Kd.R k41 41 W base (fun k_ => base ≤ k_) (.slice A4 x.f4.length c4) x.f4) (g5 : Kd.R k41 41 W base (fun k_ => base ≤ k_) (.slice A5 x.f5.length c5) x.f5) :
    Qn ((((((W.setCell ⟨ad.block, ad.off + 6, none⟩ (.int .u64 x.f0)).setCell ⟨ad.block, ad.off + 6 + 1, none⟩ (.int .u64 x.f1)).setCell ⟨ad.block, ad.off + 6 + 2, none⟩ (.int .u64 x.f2)).setCell ⟨ad.block, ad.off + 6 + 3, none⟩ (.int .u64 x.f3)).setCell ⟨ad.block, ad.off + 6 + 4, none⟩ (.slice A4 x.f4.length c4)).setCell ⟨ad.block, ad.off + 6 + 5, none⟩ (.slice A5 x.f5.length c5)) base (.slice (some ⟨ad.block, ad.off + 6, none⟩) (xs.length - 1) (c - 1)) (x :: xs.drop 2) := by
  obtain ⟨g, cap, m, ys, e, h3, h4, h5⟩ := h.2 h2; obtain ⟨e1, -, e3⟩ := Value.slice.inj e
  have e1 := Option.some.inj e1
  subst e1
  have hc := (Kd.N_reads' h5).2.1
  have hlen : xs.length = ys.length - m := by rw [h4, List.length_drop]
  have r4 := Kd.R_apart' g4 (Kd.N_typed h5) (by decide)
  have r5 := Kd.R_apart' g5 (Kd.N_typed h5) (by decide)
  have hF : Kd.FK k26 W (fun k_ => base ≤ k_ ∧ some k_ ≠ (Value.slice (some ⟨g, 0, none⟩) ys.length cap).ownBlock) x [.int .u64 x.f0, .int .u64 x.f1, .int .u64 x.f2, .int .u64 x.f3, .slice A4 x.f4.length c4, .slice A5 x.f5.length c5] :=
    k26_mkF _ _ x (Kd.R_reads' r4).2.1 (Kd.R_F r4) (Kd.R_reads' r5).2.1 (Kd.R_F r5)
  obtain ⟨cl, hcl, hFe, hcc, hfr⟩ := Kd.N_elem h5 z26 ((m + 1 : Nat) : Int) (by omega) (by omega)
  have hj6 : 0 + [Value.int .u64 x.f0, .int .u64 x.f1, .int .u64 x.f2, .int .u64 x.f3, .slice A4 x.f4.length c4, .slice A5 x.f5.length c5].length ≤ k26.sz := Nat.le_refl 6
  have hM : Kd.FK k26 W (fun k_ => base ≤ k_ ∧ some k_ ≠ (Value.slice (some ⟨g, 0, none⟩) ys.length cap).ownBlock) x (List.take 0 cl ++ [.int .u64 x.f0, .int .u64 x.f1, .int .u64 x.f2, .int .u64 x.f3, .slice A4 x.f4.length c4, .slice A5 x.f5.length c5] ++ List.drop (0 + [Value.int .u64 x.f0, .int .u64 x.f1, .int .u64 x.f2, .int .u64 x.f3, .slice A4 x.f4.length c4, .slice A5 x.f5.length c5].length) cl) := by
    have e6 : List.drop (0 + [Value.int .u64 x.f0, .int .u64 x.f1, .int .u64 x.f2, .int .u64 x.f3, .slice A4 x.f4.length c4, .slice A5 x.f5.length c5].length) cl = [] := List.drop_eq_nil_of_le (by rw [hcl]; exact Nat.le_refl 6)
    rw [e6, List.take_zero, List.nil_append, List.append_nil]
    exact hF
  have hgo : some g = (Value.slice (some ⟨g, 0, none⟩) ys.length cap).ownBlock := rfl
  obtain ⟨hN, _⟩ := Kd.N_seg h5 ((m + 1 : Nat) : Int) (by omega) (by omega) (c := cl) (seg := [.int .u64 x.f0, .int .u64 x.f1, .int .u64 x.f2, .int .u64 x.f3, .slice A4 x.f4.length c4, .slice A5 x.f5.length c5]) (j := 0) (x' := x) hcl hcc hj6 hM (fun k_ hk => ⟨hk.1, fun e => hk.2 (by rw [e]; exact hgo)⟩)
  rw [show ((m + 1 : Nat) : Int).toNat = m + 1 from rfl] at hN
  have o6 : (m + 1) * k26.sz + 0 = m * 6 + 6 := by show (m + 1) * 6 + 0 = m * 6 + 6; omega
  rw [o6] at hN
  simp only [World.setCells] at hN
  have hdrop : (ys.set (m + 1) x).drop (m + 1) = x :: xs.drop 2 := by
    rw [h4, List.drop_drop, List.drop_set, if_neg (Nat.lt_irrefl _), Nat.sub_self]
    rw [List.drop_eq_getElem_cons (by omega : m + 1 < ys.length), List.set_cons_zero]
  have hl' : (ys.set (m + 1) x).length = ys.length := List.length_set
  have hN' := hN
  rw [← hl'] at hN'
  have hxl : (x :: xs.drop 2).length = xs.length - 1 := by rw [List.length_cons, List.length_drop]; omega
  refine ⟨?_, fun _ => ⟨g, cap, m + 1, ys.set (m + 1) x, ?_, by omega, hdrop.symm, hN'⟩⟩
  · have hV := Kd.F_cut (m := m + 1) (c := cap) (Kd.V_at (base := base) (Kd.N_V hN')).2.2 (by omega) (by omega)
    rw [hdrop] at hV
    rw [← hxl]
    refine Kd.V_mk (by rw [hxl]; omega) ?_
    by_cases e7 : cap = m + 1
    · omega
    · rw [if_neg e7] at hV
      have : (some (⟨g, 0, none⟩ : Addr)).map (·.add ((m + 1) * k26.sz)) = some (⟨g, m * 6 + 6, none⟩ : Addr) := by
        show some ((⟨g, 0, none⟩ : Addr).add ((m + 1) * 6)) = _
        rw [Addr.add, if_neg (by omega)]
        show some (⟨g, 0 + (m + 1) * 6, none⟩ : Addr) = _
        rw [show 0 + (m + 1) * 6 = m * 6 + 6 by omega]
      rw [this] at hV
      exact hV
  · rw [hxl, show (m + 1) * 6 = m * 6 + 6 by omega, e3, show cap - m - 1 = cap - (m + 1) by omega]
def ssi_Fit.T9 : Bool × List (List Nat × List Nat) := (true, [([], []), ([], []), ([1], [1]), ([2], [2]), ([], []), ([4], [4]), ([5], [5]), ([], []), ([3, 6, 7], [3, 6, 7]), ([0, 0, 1, 2, 3, 4, 5, 6, 7, 8], [0]), ([9, 8, 8, 0, 1, 2, 3, 4, 5, 6, 7, 8], [8, 9])])
def ssi_Fit.B9 : List Nat := [0, 0, 2, 6, 0, 16, 48, 0, 254, 511, 1023]
theorem ssi_Fit.tab9 : rtab .any (opsOf Try.f44 9) = ssi_Fit.T9 := by kernel_rfl
theorem ssi_Fit.bits9 : waitsOk ssi_Fit.T9.2 ssi_Fit.B9 = true := by kernel_rfl
set_option maxHeartbeats 8000000 in
set_option maxRecDepth 100000 in
theorem ssi_Fit.calls (k : Nat) (A0 : Option Addr) (c0 : Nat) (l0 : List S26) (a1 : Int) (a2 : Int) (r : List S26) (w : World) (hr0 : Kd.C k26 w A0 l0.length l0) (hc0 : l0.length ≤ c0) (h : ssi_Fit.f k l0 a1 a2 = some r) :
    Calls Try.prog 44 #[.slice A0 l0.length c0, .int .i64 a1, .int .i64 a2] w fun e w' => ∃ v0_ : Value, e = .returned (v0_) ∧ Kd.N k26 26 w' w.heap.size (fun k_ => (w.heap.size ≤ k_)) v0_ r ∧ Below w.heap.size w w' := by
  have hu26 := Try.underlying26
  have hm0 := hr0.2.1
  have HR0 := Aside0.mk hr0; have HC0 := Aside0.mk hc0; clear hr0 hc0
  have HB := Aside0.mk (Below.refl w.heap.size w)
  unfold ssi_Fit.f at h
  by_cases hl : l0.length ≤ 3518437208883
  · rw [if_pos hl] at h
    obtain ⟨n, hn⟩ : ∃ n : Int, mx a1 1 = n := ⟨_, rfl⟩
    rw [hn] at h
    have hn1 : 1 ≤ n := by rw [← hn]; unfold mx; split <;> omega
    have hn_ : (if a1 < 1 then 1 else a1) = n := hn
    clear hn
    have H' := Aside0.mk h
    clear h
    go_enter Try.func44, Try.ntmps44
    go_wp2_with (first | ((with_reducible refine gate_dst (N := 14) rfl ?_); refine Kd.N_makec k26 (w0 := w) w.heap.size 26 rfl rfl 22 _ _ rfl (l0.length : Int) ?mx ?my Try.underlying22 (.agg #[(.int .u64 0), (.int .u64 0), (.int .u64 0), (.int .u64 0), (.slice none 0 0), (.slice none 0 0)]) 80 info26 rfl (by decide) (by omega) z26 (ok := fun k_ => w.heap.size ≤ k_) (okp := fun _ => False) ?mz (fun _ hk => hk.elim) (Nat.le_refl _) ?m0 ?ml HB.out (Nat.le_refl _) ?_; (case mx => first | rfl | (go_simp; done) | (go_simp; rfl)); (case my => first | rfl | (go_simp; done) | (go_simp; rfl)); (case mz => exact (k26_mkF _ _ z26 (Nat.le_refl _) (Kd.F_nil k41 _ _) (Nat.le_refl _) (Kd.F_nil k41 _ _))); (case m0 => omega); (case ml => omega); intro v1 w1 ho hb hg hat; clear HB; have HB := Aside0.mk hb; have HO := Aside0.mk ho; clear ho hb hg hat))
    clear hl
    go_loopg [7, 17] k (fun kq v7 v17 w' => ∃ (x7_1 : List (S26)) (x17_1 : Int), v17 = .int .i64 x17_1 ∧ Aside0 (ssi_Fit.l0 kq n a2 x7_1 l0 x17_1 = some r) ∧ Aside0 (kq ≤ k) ∧ Aside0 (Kd.N k26 26 w' w.heap.size (fun k_ => (w.heap.size ≤ k_)) v7 x7_1) ∧ Aside0 (Below w.heap.size w w'))
    case atStart => exact ⟨[], 0, (by first | rfl | (simp; done) | (simp [*]; done)), H', ⟨Nat.le_refl _⟩, HO, HB⟩
    case round =>
      clear H' HO; obtain ⟨x7_1, x17_1, rfl, HA, HK1, HO_7, HB⟩ := hrel
      cases gk with
      | zero => exact absurd HA.out (by simp [ssi_Fit.l0])
      | succ k1 =>
        have H := HA.out
        clear HA
        simp only [ssi_Fit.l0] at H
        by_cases c3 : x17_1 < (l0.length : Int)
        · rw [if_pos c3] at H
          have c3b0 : decide (x17_1 < (l0.length : Int)) = true := decide_eq_true c3
          by_cases c4 : 0 ≤ x17_1
          · rw [if_pos c4] at H
            have c4b0 : decide (0 ≤ x17_1) = true := decide_eq_true c4
            clear c3 c4; replace H := Option.bind_eq_some_iff.mp H; obtain ⟨⟨t568, t569, t570, t571, t572, t575⟩, A70, H⟩ := H
            replace H : (if x7_1.length < 1759218604441 then (ssi_Fit.l0 k1 n a2 (x7_1 ++ [(⟨t568, t569, t570, t571, t572, t575⟩ : S26)]) l0 (wrap64 (x17_1 + 1))) else (none)) = some r := H
            have A7 := Aside0.mk A70; clear A70
            by_cases c8 : x7_1.length < 1759218604441
            · rw [if_pos c8] at H
              have LMc8 := Aside0.mk c8; clear c8
              obtain ⟨y578, hy578⟩ : ∃ y_ : List (S26), y_ = (x7_1 ++ [(⟨t568, t569, t570, t571, t572, t575⟩ : S26)]) := ⟨_, rfl⟩
              rw [← hy578] at H
              have Ny578 := Aside0.mk hy578; clear hy578; have H' := Aside0.mk H; clear H
              have p566 : 0 ≤ (x17_1 : Int) := od_
              have q566 : x17_1 < (l0.length : Int) := od_
              obtain ⟨ad566, A566_4, c566_4, A566_5, c566_5, e566, hx566_0, hx566_1, hx566_2, hx566_3, hx566_4, hx566_5, hl566_4, hi566_4, hl566_5, hi566_5⟩ := at_T26 HR0.out x17_1 p566 q566; cases e566
              replace hx566_0 := up_ HB.out hx566_0
              replace hx566_1 := up_ HB.out hx566_1
              replace hx566_2 := up_ HB.out hx566_2
              replace hx566_3 := up_ HB.out hx566_3
              replace hx566_4 := up_ HB.out hx566_4
              replace hx566_5 := up_ HB.out hx566_5
              have HR566_4 := Aside0.mk hi566_4; have HC566_4 := Aside0.mk hl566_4; clear hi566_4 hl566_4; have HR566_5 := Aside0.mk hi566_5; have HC566_5 := Aside0.mk hl566_5; clear hi566_5 hl566_5; replace p566 := eq_true p566; replace q566 := eq_true q566
              go_wp2_with (first | ((with_reducible refine gate_dst (N := 9) rfl ?_); refine box_event ?hg (N := 9) ?hd (cs := #[.int .u64 0, .int .u64 0, .int .u64 0, .int .u64 0, .slice none 0 0, .slice none 0 0]) (t := 26) ?hr ?_; (case hd => rfl); (case hg => rfl); (case hr => first | (go_simp; done) | (go_simp; rfl)); intro gb567 hg w9 hbox hb; have n0_ := Aside0.mk (Kd.N_below (Kd.N_elderB (by exact HO_7.out) gb567 (Nat.le_of_eq hg.symm)) hb); have n1_ := Aside0.mk (below_step bl_ hb); have n2_ := Aside0.mk (hbox); have n3_ := Aside0.mk (bsz_ hg : w.heap.size ≤ gb567); have n4_ := Aside0.mk (bsz_ hg : w.heap.size ≤ gb567); clear HO_7; clear HB; have HO_7 := n0_; have HB := n1_; have BK567 := n2_; have GW567 := n3_; have GE567 := n4_; clear n0_ n1_ n2_ n3_ n4_; clear hb hbox hg; obtain ⟨hcz10_0, hcz10_1, hcz10_2, hcz10_3, hcz10_4, hcz10_5, hfz10_0, hfz10_1, hfz10_2, hfz10_3, hfz10_4, hfz10_5⟩ := blk6_ BK567.out) | ((with_reducible refine gate_callee (f := 57) rfl ?_); refine goesL_ (some 23) rfl rfl Try.func57 (by kernel_rfl) rfl #[.agg #[.int .u64 ((rd_T26 l0 x17_1).f0), .int .u64 ((rd_T26 l0 x17_1).f1), .int .u64 ((rd_T26 l0 x17_1).f2), .int .u64 ((rd_T26 l0 x17_1).f3), .slice A566_4 ((rd_T26 l0 x17_1).f4).length c566_4, .slice A566_5 ((rd_T26 l0 x17_1).f5).length c566_5]] rfl sa_ ?_; (with_reducible refine (ssi_own.calls ((rd_T26 l0 x17_1).f0) ((rd_T26 l0 x17_1).f1) ((rd_T26 l0 x17_1).f2) ((rd_T26 l0 x17_1).f3) _ _ ((rd_T26 l0 x17_1).f4) _ _ ((rd_T26 l0 x17_1).f5) t568 t569 t570 t571 t572 t575 _ ?side1 ?side2 ?side3 ?side4 A7.out).mono ?_); (case side1 => exact Kd.C_below HR566_4.out bl_); (case side2 => exact HC566_4.out); (case side3 => exact Kd.C_below HR566_5.out bl_); (case side4 => exact HC566_5.out); rintro e w11 ⟨v573, v576, rfl, ho0, ho1, hb⟩; refine ⟨_, rfl, ?_⟩; have n0_ := Aside0.mk (Kd.N_mono (Kd.N_told (Kd.N_told (Kd.N_old (by exact (Kd.N_mono (Kd.N_far (p := ⟨gb567, 5, none⟩) (Kd.N_far (p := ⟨gb567, 4, none⟩) (Kd.N_far (p := ⟨gb567, 3, none⟩) (Kd.N_far (p := ⟨gb567, 2, none⟩) (Kd.N_far (p := ⟨gb567, 1, none⟩) (Kd.N_far (p := ⟨gb567, 0, none⟩) (Kd.N_mono HO_7.out (fun k_ hk => (⟨hk, hk.2⟩ : _ ∧ k_ ≠ gb567))) (fun _ hk => hk.2) (.int .u64 ((rd_T26 l0 x17_1).f0))) (fun _ hk => hk.2) (.int .u64 ((rd_T26 l0 x17_1).f1))) (fun _ hk => hk.2) (.int .u64 ((rd_T26 l0 x17_1).f2))) (fun _ hk => hk.2) (.int .u64 ((rd_T26 l0 x17_1).f3))) (fun _ hk => hk.2) (.slice A566_4 ((rd_T26 l0 x17_1).f4).length c566_4)) (fun _ hk => hk.2) (.slice A566_5 ((rd_T26 l0 x17_1).f5).length c566_5)) (fun _ h_ => h_.1))) hb) (Kd.R_base ho0)) (Kd.R_base ho1)) (fun _ h_ => h_.1)); have n1_ := Aside0.mk (Kd.R_lower (Kd.R_newM (M := fun k_ => (w.heap.size ≤ k_)) ho0 (below_size bl_) (fun k_ h_ => h_)) (below_size bl_)); have n2_ := Aside0.mk (Kd.R_lower (Kd.R_newM (M := fun k_ => (w.heap.size ≤ k_)) ho1 (below_size bl_) (fun k_ h_ => h_)) (below_size bl_)); have n3_ := Aside0.mk (blk_below (g := gb567) (o := .cells #[.int .u64 ((rd_T26 l0 x17_1).f0), .int .u64 ((rd_T26 l0 x17_1).f1), .int .u64 ((rd_T26 l0 x17_1).f2), .int .u64 ((rd_T26 l0 x17_1).f3), .slice A566_4 ((rd_T26 l0 x17_1).f4).length c566_4, .slice A566_5 ((rd_T26 l0 x17_1).f5).length c566_5] 26 (0, 0)) (by (with_reducible repeat (first | refine blk_drewN ?_ _ | refine blk_drew ?_ | refine blk_alloc ?_ _)); refine blk_put (cs := #[.int .u64 ((rd_T26 l0 x17_1).f0), .int .u64 ((rd_T26 l0 x17_1).f1), .int .u64 ((rd_T26 l0 x17_1).f2), .int .u64 ((rd_T26 l0 x17_1).f3), .slice A566_4 ((rd_T26 l0 x17_1).f4).length c566_4, .slice none 0 0]) ?_ 5 _ rfl; refine blk_put (cs := #[.int .u64 ((rd_T26 l0 x17_1).f0), .int .u64 ((rd_T26 l0 x17_1).f1), .int .u64 ((rd_T26 l0 x17_1).f2), .int .u64 ((rd_T26 l0 x17_1).f3), .slice none 0 0, .slice none 0 0]) ?_ 4 _ rfl; refine blk_put (cs := #[.int .u64 ((rd_T26 l0 x17_1).f0), .int .u64 ((rd_T26 l0 x17_1).f1), .int .u64 ((rd_T26 l0 x17_1).f2), .int .u64 0, .slice none 0 0, .slice none 0 0]) ?_ 3 _ rfl; refine blk_put (cs := #[.int .u64 ((rd_T26 l0 x17_1).f0), .int .u64 ((rd_T26 l0 x17_1).f1), .int .u64 0, .int .u64 0, .slice none 0 0, .slice none 0 0]) ?_ 2 _ rfl; refine blk_put (cs := #[.int .u64 ((rd_T26 l0 x17_1).f0), .int .u64 0, .int .u64 0, .int .u64 0, .slice none 0 0, .slice none 0 0]) ?_ 1 _ rfl; refine blk_put (cs := #[.int .u64 0, .int .u64 0, .int .u64 0, .int .u64 0, .slice none 0 0, .slice none 0 0]) ?_ 0 _ rfl; exact BK567.out) hb); have n4_ := Aside0.mk (below_step bl_ hb); clear HO_7; clear BK567; clear HB; have HO_7 := n0_; have HO574 := n1_; have HO577 := n2_; have BK567 := n3_; have HB := n4_; clear n0_ n1_ n2_ n3_ n4_; (try clear hb); (try clear hb2); (try clear hk); (try clear hi); (try clear ho0); (try clear ho1); obtain ⟨Ao13, co13, eo13⟩ := Kd.R_slice HO574.out; subst eo13; obtain ⟨Ao14, co14, eo14⟩ := Kd.R_slice HO577.out; subst eo14) | ((with_reducible refine gate_builtin (b := .append) (xs := #[.tmp 21, .tmp 24]) rfl ?_); at_builtin; refine Kd.N_append k26 (w0 := w) w.heap.size rfl (.tmp 21) (.tmp 24) 22 26 (.agg #[(.int .u64 0), (.int .u64 0), (.int .u64 0), (.int .u64 0), (.slice none 0 0), (.slice none 0 0)]) 80 rfl Try.underlying22 info26 rfl (by decide) (by omega) u7 x7_1 (⟨t568, t569, t570, t571, t572, t575⟩ : S26) [.int .u64 t568, .int .u64 t569, .int .u64 t570, .int .u64 t571, .slice Ao13 t572.length co13, .slice Ao14 t575.length co14] (fun k_ => (w.heap.size ≤ k_) ∧ k_ ≠ gb567) (fun k_ => ((fun k_ => (w.heap.size ≤ k_) ∧ k_ ≠ gb567)) k_ ∧ some k_ ≠ (u7 : Value).ownBlock) rfl rfl ?aP (fun _ hk => hk) ?aF ?aO ?aB ?aS ?aL ?_; (case aP => exact (k26_mkF _ _ (⟨t568, t569, t570, t571, t572, t575⟩ : S26) (Kd.R_reads' (Kd.R_mono (ok' := (fun k_ => ((fun k_ => (w.heap.size ≤ k_) ∧ k_ ≠ gb567)) k_ ∧ some k_ ≠ (u7 : Value).ownBlock)) (Kd.R_types (Kd.R_apart' (HO574.out) (Kd.N_typed HO_7.out) (by decide)) BK567.out (by decide)) (fun k_ hk => ⟨⟨hk.1.1.1, hk.2⟩, hk.1.2⟩))).2.1 (Kd.R_F (Kd.R_mono (ok' := (fun k_ => ((fun k_ => (w.heap.size ≤ k_) ∧ k_ ≠ gb567)) k_ ∧ some k_ ≠ (u7 : Value).ownBlock)) (Kd.R_types (Kd.R_apart' (HO574.out) (Kd.N_typed HO_7.out) (by decide)) BK567.out (by decide)) (fun k_ hk => ⟨⟨hk.1.1.1, hk.2⟩, hk.1.2⟩))) (Kd.R_reads' (Kd.R_mono (ok' := (fun k_ => ((fun k_ => (w.heap.size ≤ k_) ∧ k_ ≠ gb567)) k_ ∧ some k_ ≠ (u7 : Value).ownBlock)) (Kd.R_types (Kd.R_apart' (HO577.out) (Kd.N_typed HO_7.out) (by decide)) BK567.out (by decide)) (fun k_ hk => ⟨⟨hk.1.1.1, hk.2⟩, hk.1.2⟩))).2.1 (Kd.R_F (Kd.R_mono (ok' := (fun k_ => ((fun k_ => (w.heap.size ≤ k_) ∧ k_ ≠ gb567)) k_ ∧ some k_ ≠ (u7 : Value).ownBlock)) (Kd.R_types (Kd.R_apart' (HO577.out) (Kd.N_typed HO_7.out) (by decide)) BK567.out (by decide)) (fun k_ hk => ⟨⟨hk.1.1.1, hk.2⟩, hk.1.2⟩))))); (case aB => exact bl_); (case aF => exact (fun k_ hk => ⟨(Nat.le_trans (below_size bl_) hk), Kd.freshB (g := gb567) (o := .cells #[.int .u64 ((rd_T26 l0 x17_1).f0), .int .u64 ((rd_T26 l0 x17_1).f1), .int .u64 ((rd_T26 l0 x17_1).f2), .int .u64 ((rd_T26 l0 x17_1).f3), .slice A566_4 ((rd_T26 l0 x17_1).f4).length c566_4, .slice A566_5 ((rd_T26 l0 x17_1).f5).length c566_5] 26 (0, 0)) (by (with_reducible repeat (first | refine blk_drewN ?_ _ | refine blk_drew ?_ | refine blk_alloc ?_ _)); exact BK567.out) k_ hk⟩)); (case aO => exact (by exact Kd.N_mono HO_7.out (fun _ hk => ⟨hk.1.1.1, hk.1.1.2⟩))); (case aS => exact (below_size bl_)); (case aL => have := LMc8.out; omega); intro v579 w12 ho hb hg hat; rw [← Ny578.out] at ho; have n0_ := Aside0.mk (blk_grown (g := gb567) (o := .cells #[.int .u64 ((rd_T26 l0 x17_1).f0), .int .u64 ((rd_T26 l0 x17_1).f1), .int .u64 ((rd_T26 l0 x17_1).f2), .int .u64 ((rd_T26 l0 x17_1).f3), .slice A566_4 ((rd_T26 l0 x17_1).f4).length c566_4, .slice A566_5 ((rd_T26 l0 x17_1).f5).length c566_5] 26 (0, 0)) (by (with_reducible repeat (first | refine blk_drewN ?_ _ | refine blk_drew ?_ | refine blk_alloc ?_ _)); exact BK567.out) hg (Kd.N_away HO_7.out (fun _ hk => hk.1.1.2))); have n1_ := Aside0.mk (hb); have n2_ := Aside0.mk (ho); clear BK567; clear HB; clear HO_7; clear HO574; clear HO577; have BK567 := n0_; have HB := n1_; have HO580 := n2_; clear n0_ n1_ n2_; clear ho hb hg hat))
              go_roundg k1
              case measure => have := HK1.out; omega
              case rel => exact ⟨(y578), (wrap64 (x17_1 + 1)), (by first | rfl | (simp; done) | (simp [*]; done)), H', ⟨by have := HK1.out; omega⟩, ⟨by exact Kd.N_mono HO580.out (fun _ hk => hk.1)⟩, ⟨bl_⟩⟩
            · rw [if_neg c8] at H; cases H
          · rw [if_neg c4] at H; cases H
        · rw [if_neg c3] at H
          have c3b0 : decide (x17_1 < (l0.length : Int)) = false := decide_eq_false c3
          clear c3; have H' := Aside0.mk H; clear H
          go_wp2
          clear c3b0
          go_loopg [7] k1 (fun kq v7 w' => ∃ (x7_2 : List (S26)), Aside0 (ssi_Fit.l1 kq n a2 x7_2 = some r) ∧ Aside0 (kq ≤ k1) ∧ Aside0 (Qn w' w.heap.size v7 x7_2) ∧ Aside0 (Below w.heap.size w w'))
          case atStart => exact ⟨x7_1, H', ⟨Nat.le_refl _⟩, ⟨Qn_N HO_7.out⟩, HB⟩
          case round =>
            clear H' HO_7 HB; obtain ⟨x7_2, HA, HK2, HQ, HB⟩ := hrel
            cases gk with
            | zero => exact absurd HA.out (by simp [ssi_Fit.l1])
            | succ k2 =>
              have H := HA.out
              clear HA
              simp only [ssi_Fit.l1] at H
              by_cases c9 : (x7_2.length : Int) > n
              · rw [if_pos c9] at H
                have c9b0 : decide (n < (x7_2.length : Int)) = true := decide_eq_true c9
                by_cases c10 : 1 < (x7_2.length : Int)
                · rw [if_pos c10] at H
                  clear c9; replace H := Option.bind_eq_some_iff.mp H; obtain ⟨⟨t701, t702, t703, t704, t705, t708⟩, A120, H⟩ := H
                  replace H : ssi_Fit.l1 k2 n a2 ((⟨t701, t702, t703, t704, t705, t708⟩ : S26) :: x7_2.drop 2) = some r := H
                  have A12 := Aside0.mk A120; clear A120; have H' := Aside0.mk H; clear H
                  obtain ⟨ad, co, ev, hco, had0, hbase, A4, cA4, A5, cA5, B4, cB4, B5, cB5, -, -, -, -⟩ := Qn_at HQ.out (by omega)
                  subst ev
                  have q0 : (0 < x7_2.length) = True := eq_true (by omega)
                  have q1 : (1 < x7_2.length) = True := eq_true (by omega)
                  have q1i : ((1 : Int) < (x7_2.length : Int)) = True := eq_true c10
                  have H2 := Aside0.mk (show 2 ≤ x7_2.length by omega)
                  have HCO := Aside0.mk hco; have HBS := Aside0.mk hbase; have HAD := Aside0.mk had0; clear hco hbase c10 A4 cA4 A5 cA5 B4 cB4 B5 cB5 had0
                  try go_wp2
                  have n0_ := Aside0.mk (Qn_below HQ.out (below_drew (Below.refl _ _)))
                  have n1_ := Aside0.mk (below_drew1 HB.out)
                  clear HQ HB; have HQ := n0_; have HB := n1_; clear n0_ n1_
                  obtain ⟨ad', co', ev', -, -, -, A4, cA4, A5, cA5, B4, cB4, B5, cB5, hS, ⟨l04, g04, l05, g05⟩, ⟨l14, g14, l15, g15⟩, -⟩ := Qn_at HQ.out H2.out
                  injection ev' with e1_ e2_ e3_
                  injection e1_ with e1_
                  subst e1_ e3_
                  have HC04 := Aside0.mk g04; have HL04 := Aside0.mk l04; have HC05 := Aside0.mk g05; have HL05 := Aside0.mk l05; have HC14 := Aside0.mk g14; have HL14 := Aside0.mk l14; have HC15 := Aside0.mk g15; have HL15 := Aside0.mk l15; clear g04 l04 g05 l05 g14 l14 g15 l15 e2_
                  refine start_ (n := 11) (S := fun w' => w'.cell? ad = some (.int .u64 ((rd_T26 x7_2 0).f0)) ∧ w'.cell? ⟨ad.block, ad.off + 1, none⟩ = some (.int .u64 ((rd_T26 x7_2 0).f1)) ∧ w'.cell? ⟨ad.block, ad.off + 2, none⟩ = some (.int .u64 ((rd_T26 x7_2 0).f2)) ∧ w'.cell? ⟨ad.block, ad.off + 3, none⟩ = some (.int .u64 ((rd_T26 x7_2 0).f3)) ∧ w'.cell? ⟨ad.block, ad.off + 4, none⟩ = some (.slice A4 ((rd_T26 x7_2 0).f4).length cA4) ∧ w'.cell? ⟨ad.block, ad.off + 5, none⟩ = some (.slice A5 ((rd_T26 x7_2 0).f5).length cA5) ∧ w'.cell? ⟨ad.block, ad.off + 6, none⟩ = some (.int .u64 ((rd_T26 x7_2 1).f0)) ∧ w'.cell? ⟨ad.block, ad.off + 6 + 1, none⟩ = some (.int .u64 ((rd_T26 x7_2 1).f1)) ∧ w'.cell? ⟨ad.block, ad.off + 6 + 2, none⟩ = some (.int .u64 ((rd_T26 x7_2 1).f2)) ∧ w'.cell? ⟨ad.block, ad.off + 6 + 3, none⟩ = some (.int .u64 ((rd_T26 x7_2 1).f3)) ∧ w'.cell? ⟨ad.block, ad.off + 6 + 4, none⟩ = some (.slice B4 ((rd_T26 x7_2 1).f4).length cB4) ∧ w'.cell? ⟨ad.block, ad.off + 6 + 5, none⟩ = some (.slice B5 ((rd_T26 x7_2 1).f5).length cB5)) (ds := [10]) (fst_ 11 0) (by kernel_rfl) rfl rfl hS (fun hHeld => ?_); refine with_tabW ssi_Fit.tab9 ssi_Fit.bits9 (fun HT_ HW_ => ?_)
                  generalize wr.drew = w16 at HQ HB HC04 HC05 HC14 HC15 hS hHeld ⊢
                  clear hS
                  iterate 3 (refine pk_ (v := ?_) (a' := ?_) HT_.out rfl rfl (by kernel_rfl) (fun _ _ _ h => h) (Or.inl ⟨by rfl, ?_⟩) ?_ ?_; rotate_left; (· intro w'; go_simp; with_reducible rfl); rotate_left; (· simp only [Act.put, List.setIfInBounds_toArray, List.set_cons_zero, List.set_cons_succ, i64_w, i32_w]; rfl))
                  refine pure_ (i := 4) (N := some 35) (v := ?_) (a' := ?_) #[true, true, true, false, true, false, false, false, false, false, false] rfl rfl (any_of HT_.out (by kernel_rfl)) (fun _ _ _ h => h) (Or.inl ⟨by rfl, ?_⟩) ?_ ?_
                  rotate_left
                  · intro w'
                    go_simp
                    with_reducible rfl
                  rotate_left
                  · simp only [Act.put, List.setIfInBounds_toArray, List.set_cons_zero, List.set_cons_succ, i64_w, i32_w]
                    rfl
                  refine pure_ (i := 5) (N := some 36) (v := ?_) (a' := ?_) #[true, true, true, false, true, true, false, false, false, false, false] rfl rfl (any_of HT_.out (by kernel_rfl)) (fun _ _ _ h => h) (Or.inl ⟨by rfl, ?_⟩) ?_ ?_
                  rotate_left
                  · intro w'
                    go_simp
                    with_reducible rfl
                  rotate_left
                  · simp only [Act.put, List.setIfInBounds_toArray, List.set_cons_zero, List.set_cons_succ, i64_w, i32_w]
                    rfl
                  refine pure_ (i := 7) (N := some 38) (v := ?_) (a' := ?_) #[true, true, true, false, true, true, false, true, false, false, false] rfl rfl (any_of HT_.out (by kernel_rfl)) (fun _ _ _ h => h) (Or.inl ⟨by rfl, ?_⟩) ?_ ?_
                  rotate_left
                  · intro w'
                    go_simp
                    with_reducible rfl
                  rotate_left
                  · simp only [Act.put, List.setIfInBounds_toArray, List.set_cons_zero, List.set_cons_succ, i64_w, i32_w]
                    rfl
                  refine take_ (i := 3) (N := some 34) (v := ?_) (a' := ?_) #[true, true, true, true, true, true, false, true, false, false, false] rfl rfl (take_ofW HT_.out HW_.out (by kernel_rfl)) (fun _ _ _ h => h) (Or.inl ⟨by rfl, ?_⟩) hHeld ?_ ?_
                  rotate_left
                  · rintro w' ⟨s0, s1, s2, s3, s4, s5, s6, s7, s8, s9, s10, s11⟩
                    go_simp
                    with_reducible rfl
                  rotate_left
                  · simp only [Act.put, List.setIfInBounds_toArray, List.set_cons_zero, List.set_cons_succ, i64_w, i32_w]
                    rfl
                  refine take_ (i := 6) (N := some 37) (v := ?_) (a' := ?_) (fst_ 11 8) rfl rfl (take_ofW HT_.out HW_.out (by kernel_rfl)) (fun _ _ _ h => h) (Or.inl ⟨by rfl, ?_⟩) hHeld ?_ ?_
                  rotate_left
                  · rintro w' ⟨s0, s1, s2, s3, s4, s5, s6, s7, s8, s9, s10, s11⟩
                    go_simp
                    with_reducible rfl
                  rotate_left
                  · simp only [Act.put, List.setIfInBounds_toArray, List.set_cons_zero, List.set_cons_succ, i64_w, i32_w]
                    rfl
                  refine one_ (i := 8) (N := some 39) (fst_ 11 9) rfl rfl (one_of HT_.out (by kernel_rfl)) (by decide) (fun K hK => ?_)
                  refine goes_ Try.func47 (by kernel_rfl) rfl #[.agg #[.int .u64 ((rd_T26 x7_2 0).f0), .int .u64 ((rd_T26 x7_2 0).f1), .int .u64 ((rd_T26 x7_2 0).f2), .int .u64 ((rd_T26 x7_2 0).f3), .slice A4 ((rd_T26 x7_2 0).f4).length cA4, .slice A5 ((rd_T26 x7_2 0).f5).length cA5], .agg #[.int .u64 ((rd_T26 x7_2 1).f0), .int .u64 ((rd_T26 x7_2 1).f1), .int .u64 ((rd_T26 x7_2 1).f2), .int .u64 ((rd_T26 x7_2 1).f3), .slice B4 ((rd_T26 x7_2 1).f4).length cB4, .slice B5 ((rd_T26 x7_2 1).f5).length cB5], .int .i64 a2] (by rfl) rfl rfl sa_ ?_
                  with_reducible refine (ssi_Join.calls k2 ((rd_T26 x7_2 0).f0) ((rd_T26 x7_2 0).f1) ((rd_T26 x7_2 0).f2) ((rd_T26 x7_2 0).f3) _ _ ((rd_T26 x7_2 0).f4) _ _ ((rd_T26 x7_2 0).f5) ((rd_T26 x7_2 1).f0) ((rd_T26 x7_2 1).f1) ((rd_T26 x7_2 1).f2) ((rd_T26 x7_2 1).f3) _ _ ((rd_T26 x7_2 1).f4) _ _ ((rd_T26 x7_2 1).f5) a2 t701 t702 t703 t704 t705 t708 _ ?side1 ?side2 ?side3 ?side4 ?side5 ?side6 ?side7 ?side8 A12.out).mono ?_
                  (case side1 => exact HC04.out)
                  (case side2 => exact HL04.out)
                  (case side3 => exact HC05.out)
                  (case side4 => exact HL05.out)
                  (case side5 => exact HC14.out)
                  (case side6 => exact HL14.out)
                  (case side7 => exact HC15.out)
                  (case side8 => exact HL15.out)
                  rintro e w17 ⟨v706, v709, rfl, ho0, ho1, hb⟩
                  have HS0_ := (hb.cell (World.block_lt_of_cell? _ _ (hHeld.1))).trans (hHeld.1)
                  have HS1_ := (hb.cell (World.block_lt_of_cell? _ _ (hHeld.2.1))).trans (hHeld.2.1)
                  have HS2_ := (hb.cell (World.block_lt_of_cell? _ _ (hHeld.2.2.1))).trans (hHeld.2.2.1)
                  have HS3_ := (hb.cell (World.block_lt_of_cell? _ _ (hHeld.2.2.2.1))).trans (hHeld.2.2.2.1)
                  have HS4_ := (hb.cell (World.block_lt_of_cell? _ _ (hHeld.2.2.2.2.1))).trans (hHeld.2.2.2.2.1)
                  have HS5_ := (hb.cell (World.block_lt_of_cell? _ _ (hHeld.2.2.2.2.2.1))).trans (hHeld.2.2.2.2.2.1)
                  have HS6_ := (hb.cell (World.block_lt_of_cell? _ _ (hHeld.2.2.2.2.2.2.1))).trans (hHeld.2.2.2.2.2.2.1)
                  have HS7_ := (hb.cell (World.block_lt_of_cell? _ _ (hHeld.2.2.2.2.2.2.2.1))).trans (hHeld.2.2.2.2.2.2.2.1)
                  have HS8_ := (hb.cell (World.block_lt_of_cell? _ _ (hHeld.2.2.2.2.2.2.2.2.1))).trans (hHeld.2.2.2.2.2.2.2.2.1)
                  have HS9_ := (hb.cell (World.block_lt_of_cell? _ _ (hHeld.2.2.2.2.2.2.2.2.2.1))).trans (hHeld.2.2.2.2.2.2.2.2.2.1)
                  have HS10_ := (hb.cell (World.block_lt_of_cell? _ _ (hHeld.2.2.2.2.2.2.2.2.2.2.1))).trans (hHeld.2.2.2.2.2.2.2.2.2.2.1)
                  have HS11_ := (hb.cell (World.block_lt_of_cell? _ _ (hHeld.2.2.2.2.2.2.2.2.2.2.2))).trans (hHeld.2.2.2.2.2.2.2.2.2.2.2)
                  refine ⟨_, rfl, ?_⟩
                  have n0_ := Aside0.mk (Qn_below HQ.out hb)
                  have n1_ := Aside0.mk (Kd.R_mono (ok' := fun k_ => w.heap.size ≤ k_) (Kd.R_lower (Kd.R_newM (M := fun k_ => (w.heap.size ≤ k_)) ho0 (below_size HB.out) (fun k_ h_ => h_)) (below_size HB.out)) (fun _ h_ => h_.1))
                  have n2_ := Aside0.mk (Kd.R_mono (ok' := fun k_ => w.heap.size ≤ k_) (Kd.R_lower (Kd.R_newM (M := fun k_ => (w.heap.size ≤ k_)) ho1 (below_size HB.out) (fun k_ h_ => h_)) (below_size HB.out)) (fun _ h_ => h_.1))
                  have n3_ := Aside0.mk (below_step HB.out hb)
                  clear HQ HB HC04 HC05 HC14 HC15 HL04 HL05 HL14 HL15; have HQ := n0_; have HR4 := n1_; have HR5 := n2_; have HB := n3_; clear n0_ n1_ n2_ n3_ hb ho0 ho1; obtain ⟨Ao18, co18, eo18⟩ := Kd.R_slice HR4.out; subst eo18; obtain ⟨Ao19, co19, eo19⟩ := Kd.R_slice HR5.out; subst eo19
                  refine hK.out _ _ ⟨HS0_, HS1_, HS2_, HS3_, HS4_, HS5_, HS6_, HS7_, HS8_, HS9_, HS10_, HS11_⟩ (fun hHeld => ?_)
                  clear hK K; refine norm_ (a' := ?_) ?_ ?_; rotate_left
                  · show Act.put _ (some 39) _ = _
                    simp only [Act.put, List.setIfInBounds_toArray, List.set_cons_zero, List.set_cons_succ, i64_w, i32_w]
                    rfl
                  (refine pk_ (v := ?_) (a' := ?_) HT_.out rfl rfl (by kernel_rfl) (fun _ _ _ h => h) (Or.inl ⟨by rfl, ?_⟩) ?_ ?_; rotate_left; (· intro w'; go_simp; with_reducible rfl); rotate_left; (· simp only [Act.put, List.setIfInBounds_toArray, List.set_cons_zero, List.set_cons_succ, i64_w, i32_w]; rfl))
                  obtain ⟨ad', co', ev', -, -, -, A4', cA4', A5', cA5', B4', cB4', B5', cB5', -, -, -, ⟨hf0, hf1, hf2, hf3, hf4, hf5⟩⟩ := Qn_at HQ.out H2.out
                  injection ev' with e1_ e2_ e3_
                  injection e1_ with e1_
                  subst e1_ e3_
                  clear e2_ A4' cA4' A5' cA5' B4' cB4' B5' cB5'; obtain ⟨s0, s1, s2, s3, s4, s5, s6, s7, s8, s9, s10, s11⟩ := hHeld
                  refine last_ (i := 10) (N := none) (fst_ 11 11) rfl rfl (one_of HT_.out (by kernel_rfl)) (by decide) (fun K hK => ?_)
                  refine skip_ (w1 := ?_) (by rfl) rfl ?_ ?_
                  rotate_left
                  · go_simp
                    rfl
                  refine hK.out _ _ ?_
                  clear hK K
                  have HQ2 := Aside0.mk (Qn_put HQ.out H2.out (⟨t701, t702, t703, t704, t705, t708⟩ : S26) HR4.out HR5.out)
                  have HB2 := Aside0.mk (below_set (j := ad.off + 6 + 5) (v := .slice Ao19 t708.length co19) (below_set (j := ad.off + 6 + 4) (v := .slice Ao18 t705.length co18) (below_set (j := ad.off + 6 + 3) (v := .int .u64 t704) (below_set (j := ad.off + 6 + 2) (v := .int .u64 t703) (below_set (j := ad.off + 6 + 1) (v := .int .u64 t702) (below_set (j := ad.off + 6) (v := .int .u64 t701) HB.out HBS.out) HBS.out) HBS.out) HBS.out) HBS.out) HBS.out)
                  refine done_ (done_of HT_.out (by kernel_rfl)) ?_
                  clear s0 s1 s2 s3 s4 s5 s6 s7 s8 s9 s10 s11 hf0 hf1 hf2 hf3 hf4 hf5 HQ HB HR4 HR5
                  have q22 : (1 : Int) ≤ (x7_2.length : Int) := by have := H2.out; omega
                  obtain ⟨i022, hi022, _, hsz22, _⟩ := info_parts info26
                  have hcut22 := cut_from (P := Try.prog) 22 26 .i64 Try.underlying22 hi022 6 hsz22 (some ad) x7_2.length co 1 (by omega) q22
                  have hne : co ≠ (1 : Int).toNat := by have := H2.out; have := HCO.out; show co ≠ 1; omega
                  rw [if_neg hne] at hcut22
                  have eA : (some ad : Option Addr).map (fun x => x.add ((1 : Int).toNat * 6)) = some ⟨ad.block, ad.off + 6, none⟩ := by show some (ad.add 6) = _; rw [Addr.add, if_neg (by omega)]
                  rw [eA, show x7_2.length - (1 : Int).toNat = x7_2.length - 1 from rfl, show co - (1 : Int).toNat = co - 1 from rfl] at hcut22
                  clear hi022 hsz22 hne eA; replace q22 := eq_true q22
                  try go_wp2
                  go_roundg k2
                  case measure => have := HK1.out; have := HK2.out; omega
                  case rel => exact ⟨_, H', ⟨by have := HK2.out; omega⟩, HQ2, HB2⟩
                · rw [if_neg c10] at H; cases H
              · rw [if_neg c9] at H
                have c9b0 : decide (n < (x7_2.length : Int)) = false := decide_eq_false c9
                clear c9; have A13 := Aside0.mk H; clear H
                obtain ⟨⟨Av, cv, ev, hlv, hFv⟩, -⟩ := HQ.out
                subst ev
                have HV := Aside0.mk (show Kd.V k26 26 wr w.heap.size (fun k_ => w.heap.size ≤ k_) (.slice Av x7_2.length cv) x7_2 from ⟨Av, cv, rfl, hlv, hFv⟩)
                clear hlv hFv HQ
                go_wp2_with ((with_reducible refine gate_callee (f := 71) rfl ?_); refine goesL_ (some 44) rfl rfl Try.func71 (by kernel_rfl) rfl #[.slice Av x7_2.length cv] rfl (by (try simp only [List.map_toArray, List.map_cons, List.map_nil]); first | done | rfl) ?_; (with_reducible refine (api_Record_71.calls (fun k_ => w.heap.size ≤ k_) Av cv x7_2 r _ ?side1 A13.out).mono ?_); (case side1 => exact ⟨Av, cv, rfl, (Kd.V_reads' HV.out).2.1, Kd.V_F HV.out⟩); rintro e w30 ⟨v30, rfl, ho, hb⟩; refine ⟨_, rfl, ?_⟩; have HO := Aside0.mk (Kd.N_mono (ok' := fun k_ => w.heap.size ≤ k_) (Kd.N_lower ho (below_size HB.out)) (fun k_ h_ => h_.elim id (fun h_ => Nat.le_trans (below_size HB.out) h_))); have n1_ := Aside0.mk (below_step HB.out hb); clear HB HV; have HB := n1_; clear n1_ hb ho)
                go_ret
                exact ⟨_, rfl, HO.out, HB.out⟩
  · rw [if_neg hl] at h; cases h
end Go.Proofs.Ytjefihcbhdennaa.S
